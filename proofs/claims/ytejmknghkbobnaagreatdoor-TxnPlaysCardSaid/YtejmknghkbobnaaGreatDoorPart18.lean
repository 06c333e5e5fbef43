import Derived.Test.YtejmknghkbobnaaGreatDoorPart00
import Derived.Test.YtejmknghkbobnaaGreatDoorPart17
import Derived.Defers
import Derived.Test.YtejmknghkbobnaaGreatDoorPart02
import Derived.Test.YtejmknghkbobnaaGreatDoorPart01
import Derived.Test.YtejmknghkbobnaaGreatDoorPart07
set_option linter.unusedVariables false
set_option linter.unusedSimpArgs false
set_option maxRecDepth 100000
set_option maxHeartbeats 8000000
namespace Go.Proofs.YtejmknghkbobnaaGreatDoor
open Go.Proofs.Tryz
open Go.RowKit Go.Maps
theorem zfo (T:Nat)(F:List Nat)(D:Nat)(y:TxS)(w:World)(h:TxAt w T F D y)(he:y.ended=false):
  Calls prog 17 #[.pointer (some ⟨T,0,none⟩)] w fun e w'=>e=.returned (.int .i64 0)∧w'=w.setCell ⟨T,20,none⟩ (.bool true):=by
 have qT:∀(w:World) (r:Option Nat),(binOp .eql 146 (.map r) (.map none)).run prog w=.ok (.bool r.isNone) w:=fun w r=>run_eql_map_nil w _ _ _ r underlying146
 obtain⟨ok,⟨M,wv,nv,bT,-⟩,lt⟩:=h;have c17:w.cell? ⟨T,17,none⟩=some (.map (some M)):=(bT.cells 17).trans rfl;have c20:w.cell? ⟨T,20,none⟩=some (.bool y.ended):=(bT.cells 20).trans rfl;have lT:=bT.lt;have fT:=bT.free;rw[he]at c20;clear bT ok lt;go_enter func17,ntmps17
 go_wp2_with fail
 go_ret
 exact⟨rfl,rfl⟩
theorem TxAt.ended {w:World}{T:Nat}{F:List Nat}{D:Nat}{y:TxS}(h:TxAt w T F D y):TxAt (w.setCell ⟨T,20,none⟩ (.bool true)) T F D { y with ended:=true }:=by
 obtain⟨ok,⟨M,wv,nv,bT,hT,hM,hMT,⟨E,hE,hO⟩,hw,hn⟩,lt⟩:=h;have hk:∀b,b≠T→(w.setCell ⟨T,20,none⟩ (.bool true)).heap[b]?=w.heap[b]?:=fun b hb=>Below.heap_setCell w ⟨T,20,none⟩ _ b hb
 have sl:∀v l,SlB w F T M v l→SlB (w.setCell ⟨T,20,none⟩ (.bool true)) F T M v l:=by
  rintro v l ⟨A,c,h1,h2,h3⟩;refine⟨A,c,h1,?_,h3⟩
  rcases h2 with h2|⟨b,off,rfl,hl,hc⟩
  ·exact .inl h2
  ·exact .inr ⟨b,off,rfl,by simpa using hl,fun k u hu=>(World.cell?_of_block (w:=w) (a:=⟨b,off+k,none⟩) (hk b (h3 _ rfl).2.1)).trans (hc k u hu)⟩
 exact⟨⟨ok.rg,ok.was,ok.now,ok.recs,ok.len⟩,⟨M,wv,nv,bT.set_ 20 (.bool true),hT,hM,hMT,⟨E,hE,z0j hO (hk M hMT)⟩,sl _ _ hw,sl _ _ hn⟩,fun b hb=>⟨(lt b hb).1,by simpa using (lt b hb).2⟩⟩
theorem TxAt.broken {w:World}{T:Nat}{F:List Nat}{D:Nat}{y:TxS}(h:TxAt w T F D y):TxAt (w.setCell ⟨T,19,none⟩ (.bool true)) T F D { y with broken:=true }:=by
 obtain⟨ok,⟨M,wv,nv,bT,hT,hM,hMT,⟨E,hE,hO⟩,hw,hn⟩,lt⟩:=h;have hk:∀b,b≠T→(w.setCell ⟨T,19,none⟩ (.bool true)).heap[b]?=w.heap[b]?:=fun b hb=>Below.heap_setCell w ⟨T,19,none⟩ _ b hb
 have sl:∀v l,SlB w F T M v l→SlB (w.setCell ⟨T,19,none⟩ (.bool true)) F T M v l:=by
  rintro v l ⟨A,c,h1,h2,h3⟩;refine⟨A,c,h1,?_,h3⟩
  rcases h2 with h2|⟨b,off,rfl,hl,hc⟩
  ·exact .inl h2
  ·exact .inr ⟨b,off,rfl,by simpa using hl,fun k u hu=>(World.cell?_of_block (w:=w) (a:=⟨b,off+k,none⟩) (hk b (h3 _ rfl).2.1)).trans (hc k u hu)⟩
 exact⟨⟨ok.rg,ok.was,ok.now,ok.recs,ok.len⟩,⟨M,wv,nv,bT.set_ 19 (.bool true),hT,hM,hMT,⟨E,hE,z0j hO (hk M hMT)⟩,sl _ _ hw,sl _ _ hn⟩,fun b hb=>⟨(lt b hb).1,by simpa using (lt b hb).2⟩⟩
theorem z4a {P:Program}{fn:Func}{R:Ending→World→Prop}{a:Act}{w:World}(hr:fn.results=#[])(hd:a.defers=[])(hR:R (.returned (.tuple #[])) w):bodyPost P fn R .normal a w:=
 bodyPost_end (v:=.tuple #[]) (by simp[results,hr,go_sem]) hd hR
def badE (e:Int):Bool:=decide (e≠0∧e≠1∧e≠9)
theorem z9J (T R:Nat)(e0:Int)(u:FrameMode)(w:World)(hR:w.cell? ⟨R,0,none⟩=some (.int .i64 e0))(lR:R<w.heap.size)(hb:e0=0∨e0=1∨e0=9):
  CallsD prog 94 #[.pointer (some ⟨T,0,none⟩),.pointer (some ⟨R,0,none⟩)] u w fun e u' w'=>u'=u∧(e=.returned (.tuple #[])∧w'=w):=by
 rcases hb with rfl|rfl|rfl
 all_goals
  go_enter_d func94,ntmps94
  go_wp2_with fail
  refine z4a (by rfl) rfl ?_
  exact⟨rfl,rfl⟩
theorem zbm (T R:Nat)(F:List Nat)(D:Nat)(y:TxS)(e0:Int)(u:FrameMode)(w:World)(h:TxAt w T F D y)(hR:w.cell? ⟨R,0,none⟩=some (.int .i64 e0))(lR:R<w.heap.size)(h0:e0≠0)(h1:e0≠1)(h9:e0≠9):
  CallsD prog 94 #[.pointer (some ⟨T,0,none⟩),.pointer (some ⟨R,0,none⟩)] u w fun e u' w'=>u'=u∧(e=.returned (.tuple #[])∧w'=w.setCell ⟨T,19,none⟩ (.bool true)):=by
 obtain⟨ok,⟨M,wv,nv,bT,-⟩,lt⟩:=h;have c19:w.cell? ⟨T,19,none⟩=some (.bool y.broken):=(bT.cells 19).trans rfl;have lT:=bT.lt;have fT:=bT.free;have b0:(e0 != 0)=true:=by simpa using h0
 have b1:(e0 != 1)=true:=by simpa using h1
 have b9:(e0 != 9)=true:=by simpa using h9
 clear bT ok lt h0 h1 h9;go_enter_d func94,ntmps94
 go_wp2_with fail
 refine z4a (by rfl) rfl ?_
 exact⟨rfl,rfl⟩
open Go.Shelf
attribute [local go_sem] Oper.semAt_some
def z0r (us:List Bool)(near k:Nat):List Int:=
 ((List.range k).filter fun (i:Nat)=>us[(near+i) % us.length]?==some false).map fun (i:Nat)=>((near:Int)+(i:Int)) % (us.length:Int)
theorem z4r (us:List Bool)(near:Nat):z0r us near 0=[]:=by simp[z0r]
theorem z42 {us:List Bool}{near k:Nat}(h:us[(near+k) % us.length]?=some false):z0r us near (k+1)=z0r us near k++[((near:Int)+(k:Int)) % (us.length:Int)]:=by
 simp[z0r,List.range_succ,List.filter_append,h]
theorem z3t {us:List Bool}{near k:Nat}(h:us[(near+k) % us.length]?=some true):z0r us near (k+1)=z0r us near k:=by
 simp[z0r,List.range_succ,List.filter_append,h]
theorem z31 (us:List Bool)(near k:Nat):(z0r us near k).length≤k:=by
 unfold z0r;rw[zhX];exact zhS (List.length_filter_le _ _) (by simp)
def z1Y (us:List Bool)(near:Nat):List Int:=z0r us near us.length
theorem zeB (F:Fence)(n:Nat)(h7:F.fn 217)(hro:F.round=none)(hn:1≤n)(l Bs Bn n₀:Nat)(s j i:Int)(A:Option Addr)(c near:Nat)(us:List Bool)(hnear:near<us.length)(hus:us.length≤1000)(hBs:Bs<n₀)(hBn:Bn<n₀)(bs:List Nat)(xBs:Bs∉bs)(xBn:Bn∉bs)(J Jx:List Int→World→Prop)
  (hY:∀pre (x:Int) W,J pre W→pre.length<us.length→0≤x→x<(us.length:Int)→YieldAt F (n - 1) prog l #[.int .i64 x] W fun e W'=>
   (e=.returned (.bool true)∧J (pre++[x]) W'∧KeepEx n₀ bs W W')∨(e=.returned (.bool false)∧Jx (pre++[x]) W'))
  (W:World) (hc0:∀j',W.cell? ⟨Bs,j',none⟩=(#[.int .i64 s,.int .i64 j,.int .i64 i,.slice A us.length c]:Array Value)[j']?) (hcn:W.cell? ⟨Bn,0,none⟩=some (.int .i64 near))
  (b off:Nat) (hA:A=some ⟨b,off,none⟩) (hb:b<n₀) (xb:b∉bs) (hcs:∀k (h:k<us.length),W.cell? ⟨b,off+k,none⟩=some (.bool us[k])) (h0:J [] W):
  CallsIn F n prog 217 #[.func (.yield l) #[] #[],.pointer (some ⟨Bs,0,none⟩),.pointer (some ⟨Bn,0,none⟩)] W fun e W'=>(∃v,e=.returned v) ∧
   ((∃ys,ys=z1Y us near∧J ys W')∨(∃pre,(∃k,k≤us.length∧pre=z0r us near k)∧Jx pre W')):=by
 subst hA;have hc3:=hc0 3;simp only[List.getElem?_toArray,zhD,zhC]at hc3;refine callsIn_of_wp func217 rfl h7 ?_ hro;simp only[ntmps217,List.size_toArray,zhO,zhP,Nat.reduceAdd,Nat.reduceSub,Array.replicate_succ,Array.replicate_zero,List.push_toArray,List.append_toArray,zi3,List.cons_append];have HC:=zhs hc0;clear hc0;have HCS:=zhs hcs;clear hcs;gi_wp2
 gi_loopw [9] (fun q wr=>∃k:Nat,k≤us.length∧q=.int .i64 k∧J (z0r us near k) wr∧KeepEx n₀ bs W wr)
  (fun q _=>us.length - (intOf q).toNat)
 case atStart=>exact⟨0,zi9 _,rfl,by rw[z4r];exact h0,KeepEx.refl _ _ _⟩
 case round=>
  obtain⟨k,hk,rfl,hJs,hnx⟩:=hrel;have hc3':=(hnx.cell (p:=⟨Bs,3,none⟩) hBs xBs).trans hc3;have hcn':=(hnx.cell (p:=⟨Bn,0,none⟩) hBn xBn).trans hcn;by_cases hlt:k<us.length
  ·have hm:(near+k) % us.length<us.length:=Nat.mod_lt _ (by omega)
   have hcx:=(hnx.cell (p:=⟨b,off+(near+k) % us.length,none⟩) hb xb).trans (HCS.out _ hm);have hl:=z31 us near k;have hbd:0≤((near:Int)+(k:Int)) % (us.length:Int)∧((near:Int)+(k:Int)) % (us.length:Int)<(us.length:Int):=⟨Int.emod_nonneg _ (by omega),Int.emod_lt_of_pos _ (by omega)⟩
   cases hu:us[(near+k) % us.length]<;>rw[hu]at hcx
   ·have hr:=zhs (z42 (us:=us) (near:=near) (k:=k) (by rw[zhx hm,hu]))
    obtain⟨fn,tmps,assign,body,hy,hR⟩:=hY _ (((near:Int)+(k:Int)) % (us.length:Int)) wr hJs (by omega) hbd.1 hbd.2
    clear hu;gi_wp2
    refine hR.mono ?_;rintro e W3 (⟨rfl,hJ3,hk3⟩|⟨rfl,hJx3⟩)
    ·gi_wp2
     go_roundw
     case rel=>exact⟨k+1,by omega,by simp,by rw[hr.out];exact hJ3,hnx.trans hk3⟩
     case measure=>simp[intOf];omega
    ·gi_wp2
     refine bodyPost_ret (results_none rfl _ _ _) rfl ?_;exact⟨⟨_,rfl⟩,.inr ⟨_,⟨k+1,by omega,hr.out.symm⟩,hJx3⟩⟩
   ·have hr:=zhs (z3t (us:=us) (near:=near) (k:=k) (by rw[zhx hm,hu]))
    clear hu;gi_wp2
    refine⟨fun _ h=>(by cases h),?_⟩
    gi_wp2
    go_roundw
    case rel=>exact⟨k+1,by omega,by simp,by rw[hr.out];exact hJs,hnx⟩
    case measure=>simp[intOf];omega
  ·obtain rfl:k=us.length:=by omega
   gi_wp2
   go_end0
   exact⟨⟨_,rfl⟩,.inl ⟨_,rfl,hJs⟩⟩
def z0M (us:List Bool)(bl:List Int)(v:Bool):List Bool:=bl.foldl (fun us b=>us.set b.toNat v) us
theorem z1u (us:List Bool)(bl:List Int)(v:Bool):(z0M us bl v).length=us.length:=by
 unfold z0M;induction bl generalizing us with
 | nil=>rfl
 | cons b bl ih=>rw[List.foldl_cons,ih];simp
theorem z3Y (us:List Bool)(bl:List Int)(v:Bool)(k:Nat)(h:k<bl.length):z0M us (bl.take (k+1)) v=(z0M us (bl.take k) v).set (bl[k]).toNat v:=by
 unfold z0M;rw[zhE h,List.foldl_append];rfl
def zdt (s j i:Int)(us:List Bool)(bl:List Int)(v:Bool)(w:World)(e:Ending)(w':World):Prop:=
 ∃g cap,e=.returned (.agg #[.int .i64 s,.int .i64 j,.int .i64 i,.slice (some ⟨g,0,none⟩) us.length cap]) ∧
  w'.ownsRow w.heap.size 4 1 (.slice (some ⟨g,0,none⟩) us.length cap) us.length ((z0M us bl v).map .bool)∧Below w.heap.size w w'
theorem zcO (s j i:Int)(A Bl:Option Addr)(c cb:Nat)(us:List Bool)(bl:List Int)(v:Bool)(w:World)(hR:Reads w A (us.map .bool))(h0:0<us.length)(hn:us.length≤1000)
  (hRb:Reads w Bl (bl.map (.int .i64))) (hm:bl.length≤1000) (hin:∀b∈bl,0≤b∧b<us.length):
  Calls prog 173 #[.agg #[.int .i64 s,.int .i64 j,.int .i64 i,.slice A us.length c],.slice Bl bl.length cb,.bool v] w (zdt s j i us bl v w):=by
 have hA:A≠none:=by
  obtain⟨b,off,rfl,_⟩:=hR.at_ (k:=0) (by simpa using h0)
  simp
 have HIN:=zhs hin;clear hin;go_enter func173,ntmps173
 go_wp2_with (
  go_at_call 153;refine(z4v A c us _ ((hR.alloc _).alloc _) hA hn).mono ?_;rintro e w1 ⟨v1,rfl,hown,hb1⟩;obtain⟨g,cap,rfl,hg1,hg2⟩:=z2f hown h0;have b0:Blk w1 _ _ _:=(hb1.block _ (by simp;omega)).trans (hp20 _ _ _);have b1:Blk w1 _ _ _:=(hb1.block _ (by simp)).trans (hp21 _ _ _);have c0:=b0.cells;have c1:=b1.cells;have f0:=b0.free;have f1:=b1.free;obtain⟨hz,hz'⟩:=sz2 hb1;replace hb1:=z1W hb1)
 obtain⟨W1,hW1⟩:∃W1,W1=w1.setCell ⟨w.heap.size,3,none⟩ (.slice (some ⟨g,0,none⟩) us.length cap):=⟨_,rfl⟩;rw[←hW1];have B0:Blk W1 w.heap.size 47 #[.int .i64 s,.int .i64 j,.int .i64 i,.slice (some ⟨g,0,none⟩) us.length cap]:=by rw[hW1];exact b0.set_ 3 _
 have B1:Blk W1 (w.heap.size+1) 47 #[.int .i64 0,.int .i64 0,.int .i64 0,.slice none 0 0]:=by rw[hW1];exact b1.far (by simp) _
 have HO:W1.ownsRow (w.heap.size+2) 4 1 (.slice (some ⟨g,0,none⟩) us.length cap) us.length (us.map .bool):=by rw[hW1];exact ownsRow_setCell_below (z0D hown (by simp)) (by simp) _
 have HB:Below w.heap.size w W1:=by rw[hW1];exact hb1.setCell (by simp) _
 have hgz:w.heap.size+2≤g:=by simpa using hg1
 have hz:w.heap.size+2≤W1.heap.size:=by rw[hW1];simp;omega
 clear hW1 hown hb1 b0 b1 hg1 hg2 hR;go_loopw [15] (fun q wr=>∃k:Nat,k≤bl.length∧q=.int .i64 k∧wr.ownsRow (w.heap.size+2) 4 1 (.slice (some ⟨g,0,none⟩) us.length cap) us.length ((z0M us (bl.take k) v).map .bool)∧Below (w.heap.size+2) W1 wr) (fun q _=>bl.length - (intOf q).toNat)
 case atStart=>exact⟨0,zi9 _,rfl,HO,zho _ _⟩
 case round=>
  obtain⟨k,hk,rfl,hown,hnx⟩:=hrel;have bb0:=B0.below hnx (by omega)
  have bb1:=B1.below hnx (by omega)
  have c0:=bb0.cells;have c1:=bb1.cells;have f0:=bb0.free;have f1:=bb1.free;have HBw:Below w.heap.size w wr:=HB.trans (hnx.mono (by omega))
  have hzr:w.heap.size+2≤wr.heap.size:=zhS hz hnx.size;by_cases hlt:k<bl.length
  ·obtain⟨bq,oq,rfl,hbq,hcq⟩:=(hRb.below HBw).at_ (k:=k) (by simpa using hlt)
   have hxin:=HIN.out bl[k] (zhQ hlt);have hsn:=zhs (z3Y us bl v k hlt);rw[List.getElem_map]at hcq;generalize bl[k]=x at hxin hsn hcq;obtain⟨hx0,hx1⟩:=hxin;have hlen:(z0M us (bl.take k) v).length=us.length:=z1u _ _ _;have hct:=hown.cellAt x.toNat (by omega)
   rw[zi1,zhx (by omega),Option.map_some]at hct
   have hft:=hown.frozenAt x.toNat;generalize (z0M us (bl.take k) v)[x.toNat]=ux at hct;have HL:=zhs hlen;clear hlen;go_wp2
   go_roundw
   case rel=>exact⟨k+1,by omega,by go_num,by rw[hsn.out,List.map_set];exact(hown.stored _ _).1,hnx.setCell (p:=⟨g,x.toNat,none⟩) hgz _⟩
   case measure=>simp[intOf];omega
  ·obtain rfl:k=bl.length:=by omega
   rw[zia]at hown;go_wp2
   refine bodyPost_ret (v:=.agg #[.int .i64 s,.int .i64 j,.int .i64 i,.slice (some ⟨g,0,none⟩) us.length cap]) (by simp[results,results173,go_sem,c1]) rfl ?_
   refine⟨g,cap,rfl,?_,by (repeat' (first|with_reducible (first|exact zho _ _|assumption|refine zhp ?_ ?_ _|refine zhq ?_|refine z00 ?_ _|refine zhr ?_ ?_ _|exact zhT _)|omega|(simp;done)|(simp;omega)))⟩
   exact z0D (ownsRow_setCell_below (ownsRow_setCell_below (ownsRow_setCell_below (ownsRow_setCell_below hown (by simp) _) (by simp) _) (by simp) _) (by simp) _) (by omega)
theorem z81 (s j i:Int)(A Bl:Option Addr)(c cb:Nat)(us:List Bool)(bl:List Int)(v:Bool)(w:World)(hR:Reads w A (us.map .bool))(h0:0<us.length)(hn:us.length≤1000)
  (hRb:Reads w Bl (bl.map (.int .i64))) (hm:bl.length≤1000) (hin:∀b∈bl,0≤b∧b<us.length):
  Calls prog 207 #[.agg #[.int .i64 s,.int .i64 j,.int .i64 i,.slice A us.length c],.slice Bl bl.length cb,.bool v] w (zdt s j i us bl v w):=by
 have hA:A≠none:=by
  obtain⟨b,off,rfl,_⟩:=hR.at_ (k:=0) (by simpa using h0)
  simp
 have HIN:=zhs hin;clear hin;go_enter func207,ntmps207
 have hmade:(((w.alloc (.cells #[.int .i64 s,.int .i64 j,.int .i64 i,.slice A us.length c] 47)).alloc (.cells #[.int .i64 0,.int .i64 0,.int .i64 0,.slice none 0 0] 47)).alloc (.cells #[] 4)).ownsRow (w.heap.size+2) 4 1 (.slice (some ⟨w.heap.size+2,0,none⟩) 0 0) 0 []:=by
  have:=World.ownsRow_made (e:=4) (size:=1) (base:=w.heap.size+2) ((w.alloc (.cells #[.int .i64 s,.int .i64 j,.int .i64 i,.slice A us.length c] 47)).alloc (.cells #[.int .i64 0,.int .i64 0,.int .i64 0,.slice none 0 0] 47)) #[] 0 (by simp) (by simp) rfl
  simpa using this
 obtain⟨i0,hi,hz0,hz1,hz2⟩:=info_parts Tryz.info4;have hone:=zhs (z4t us);go_wp2_with (at_builtin;refine z34 _ rfl (.tmp 8) (.tmp 10) _ rfl (w.heap.size+2) 4 i0 (.bool false) 1 underlying45 hi hz0 hz1 hz2 rfl (.slice (some ⟨w.heap.size+2,0,none⟩) 0 0) 0 [] rfl hmade A us.length c (us.map .bool) rfl (by simp) (by simp[hA]) (((hR.alloc _).alloc _).alloc _) hone.out (by simp only[maxLen];omega) (by omega) (by simp) ?_;intro v1 w1 hown hgr1 hat1;have hgr:=hgr1;obtain⟨g,cap,rfl,hg1,hg2⟩:=z2f hown (by omega);have b0:Blk w1 _ _ _:=(Blk.alloc (Blk.alloc (Blk.new w _ _) _) _).grown hgr1 (by simp[Value.ownBlock]);have b1:Blk w1 _ _ _:=(Blk.alloc (Blk.new' (w:=w.alloc _) (g:=w.heap.size+1) (by simp)) _).grown hgr1 (by simp[Value.ownBlock]);have c0:=b0.cells;have c1:=b1.cells;have f0:=b0.free;have f1:=b1.free;have hb1:Below w.heap.size w w1:=(((zho _ w).alloc (zhT _) _).alloc (by simp) _ |>.alloc (by simp;omega) _).grown hgr1 (by simp;omega) (by intro k hk;simp[Value.ownBlock]at hk;omega);clear hgr1 hgr hat1 hmade)
 simp only[zi8,zi3]at hown;obtain⟨W1,hW1⟩:∃W1,W1=w1.setCell ⟨w.heap.size,3,none⟩ (.slice (some ⟨g,0,none⟩) us.length cap):=⟨_,rfl⟩;rw[←hW1];have B0:Blk W1 w.heap.size 47 #[.int .i64 s,.int .i64 j,.int .i64 i,.slice (some ⟨g,0,none⟩) us.length cap]:=by rw[hW1];exact b0.set_ 3 _
 have B1:Blk W1 (w.heap.size+1) 47 #[.int .i64 0,.int .i64 0,.int .i64 0,.slice none 0 0]:=by rw[hW1];exact b1.far (by simp) _
 have HO:W1.ownsRow (w.heap.size+2) 4 1 (.slice (some ⟨g,0,none⟩) us.length cap) us.length (us.map .bool):=by rw[hW1];exact ownsRow_setCell_below (z0D hown (by simp)) (by simp) _
 have HB:Below w.heap.size w W1:=by rw[hW1];exact hb1.setCell (by simp) _
 have hgz:w.heap.size+2≤g:=by simpa using hg1
 have hz:w.heap.size+2≤W1.heap.size:=by rw[hW1];simp;omega
 clear hW1 hown hb1 b0 b1 hg1 hg2 hR hi hz0 hz1 hz2 hone;go_loopw [7] (fun q wr=>∃k:Nat,k≤bl.length∧q=.int .i64 k∧wr.ownsRow (w.heap.size+2) 4 1 (.slice (some ⟨g,0,none⟩) us.length cap) us.length ((z0M us (bl.take k) v).map .bool)∧Below (w.heap.size+2) W1 wr) (fun q _=>bl.length - (intOf q).toNat)
 case atStart=>exact⟨0,zi9 _,rfl,HO,zho _ _⟩
 case round=>
  obtain⟨k,hk,rfl,hown,hnx⟩:=hrel;have bb0:=B0.below hnx (by omega)
  have bb1:=B1.below hnx (by omega)
  have c0:=bb0.cells;have c1:=bb1.cells;have f0:=bb0.free;have f1:=bb1.free;have HBw:Below w.heap.size w wr:=HB.trans (hnx.mono (by omega))
  have hzr:w.heap.size+2≤wr.heap.size:=zhS hz hnx.size;by_cases hlt:k<bl.length
  ·obtain⟨bq,oq,rfl,hbq,hcq⟩:=(hRb.below HBw).at_ (k:=k) (by simpa using hlt)
   have hxin:=HIN.out bl[k] (zhQ hlt);have hsn:=zhs (z3Y us bl v k hlt);rw[List.getElem_map]at hcq;generalize bl[k]=x at hxin hsn hcq;obtain⟨hx0,hx1⟩:=hxin;have hlen:(z0M us (bl.take k) v).length=us.length:=z1u _ _ _;have hct:=hown.cellAt x.toNat (by omega)
   rw[zi1,zhx (by omega),Option.map_some]at hct
   have hft:=hown.frozenAt x.toNat;generalize (z0M us (bl.take k) v)[x.toNat]=ux at hct;have HL:=zhs hlen;clear hlen;go_wp2
   go_region
   all_goals go_wp2
   go_roundw
   case rel=>exact⟨k+1,by omega,by go_num,by rw[hsn.out,List.map_set];exact(hown.stored _ _).1,(hnx.setCell (p:=⟨g,x.toNat,none⟩) hgz _).drew⟩
   case measure=>simp[intOf];omega
  ·obtain rfl:k=bl.length:=by omega
   rw[zia]at hown;go_wp2
   refine bodyPost_ret (v:=.agg #[.int .i64 s,.int .i64 j,.int .i64 i,.slice (some ⟨g,0,none⟩) us.length cap]) (by simp[results,results207,go_sem,c1]) rfl ?_
   refine⟨g,cap,rfl,?_,by (repeat' (first|with_reducible (first|exact zho _ _|assumption|refine zhp ?_ ?_ _|refine zhq ?_|refine z00 ?_ _|refine zhr ?_ ?_ _|exact zhT _)|omega|(simp;done)|(simp;omega)))⟩
   exact z0D (ownsRow_setCell_below (ownsRow_setCell_below (ownsRow_setCell_below (ownsRow_setCell_below hown (by simp) _) (by simp) _) (by simp) _) (by simp) _) (by omega)
end Go.Proofs.YtejmknghkbobnaaGreatDoor
