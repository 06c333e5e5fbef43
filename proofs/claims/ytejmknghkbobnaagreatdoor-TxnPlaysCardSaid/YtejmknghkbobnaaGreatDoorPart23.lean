import Derived.Test.YtejmknghkbobnaaGreatDoorPart00
import Derived.Test.YtejmknghkbobnaaGreatDoorPart22
import Derived.Test.YtejmknghkbobnaaGreatDoorPart02
import Derived.Test.YtejmknghkbobnaaGreatDoorPart16
set_option linter.unusedVariables false
set_option linter.unusedSimpArgs false
set_option maxRecDepth 100000
set_option maxHeartbeats 8000000
namespace Go.Proofs.YtejmknghkbobnaaGreatDoor
open Go.Proofs.Tryz
open Go.RowKit Go.Shelf
attribute [local go_sem] Oper.semAt_some
theorem zcM {β:Type}(B C:Nat)(t:TypeId)(f:β→Value):OwnFrom C (fun (s:β) W=>Boxed W B t (f s)):=
 fun s X Y row hs hg hr=>hs.kept hg (fun e=>by
  obtain⟨_,o,ho,hc⟩:=hr B e.symm;rw[show X.heap[B]?=_ from hs]at ho;cases ho;cases hc)
def z1V (s j i:Int)(us:List Bool):Int:=if CkE s j i us.length=0 then ((z1Y us 0).length:Int)else 0
theorem zdN (s j i:Int)(A:Option Addr)(c:Nat)(us:List Bool)(hus:us.length≤1000)(w:World)(hR:Reads w A (us.map .bool)):
  Calls prog 91 #[.agg #[.int .i64 s,.int .i64 j,.int .i64 i,.slice A us.length c]] w fun e w'=>
   e=.returned (.tuple #[.int .i64 (z1V s j i us),.int .i64 (CkE s j i us.length)])∧Below w.heap.size w w':=by
 by_cases hE:CkE s j i us.length=0
 ·have hE':(CkE s j i us.length != 0)=false:=by simpa using hE
  have hN:z1V s j i us=((z1Y us 0).length:Int):=by simp only[z1V,if_pos hE]
  have hpos:0<us.length:=by
   unfold CkE at hE;split at hE
   ·rename_i hg
    split at hE
    ·rename_i hl;have:=z10 hg;have:=(z3R hg).2.2.2.2;omega
    ·omega
   ·exact absurd hE (by assumption)
  have HE:=zhs hE;have HN:=zhs hN;clear hE hN;refine z2U func91 rfl ?_;simp only[ntmps91,List.size_toArray,zhO,zhP,Nat.reduceAdd,Nat.reduceSub,Array.replicate_succ,Array.replicate_zero,List.push_toArray,List.append_toArray,zi3,List.cons_append];go_wp2_with fail
  refine(z23 s j i A us.length c _ (by unfold maxLen;omega)).mono ?_
  rintro e w1 ⟨rfl,hb1⟩;have bS:Blk w1 w.heap.size 47 #[.int .i64 s,.int .i64 j,.int .i64 i,.slice A us.length c]:=Blk.belowAll (by (repeat' (first|(with_reducible assumption)|exact Blk.new' (by simp)|refine Blk.alloc ?_ _))) hb1
  have bN:Blk w1 (w.heap.size+1) 3 #[.int .i64 0]:=Blk.belowAll (by (repeat' (first|(with_reducible assumption)|exact Blk.new' (by simp)|refine Blk.alloc ?_ _))) hb1
  replace hb1:Below w.heap.size w w1:=z1W hb1
  have cS:=bS.cells;have cN:=bN.cells;go_wp2_with (go_at_call 171;refine(zaQ _ _ _ _ _ _ _ _).mono ?_;rintro e w' ⟨rfl,rfl⟩);obtain⟨b,off,hA,hb,_⟩:=hR.at_ (k:=0) (by simp;omega)
  have hcs:∀k (h:k<us.length),w.cell? ⟨b,off+k,none⟩=some (.bool us[k]):=by
   intro k h;obtain⟨b',off',hA',_,hc'⟩:=hR.at_ (k:=k) (by simpa using h)
   rw[hA]at hA';simp only[Option.some.injEq,Addr.mk.injEq,and_true]at hA';obtain⟨rfl,rfl⟩:=hA';rw[hc',List.getElem_map]
  have HA:=zhs hA;clear hA;have hz:w.heap.size+1<w1.heap.size:=bN.lt;obtain⟨W1,hW1⟩:∃W1,W1=(w1.alloc (.cells #[.int .i64 s,.int .i64 j,.int .i64 i,.slice A us.length c] 47)).alloc (.cells #[.int .i64 0] 3):=⟨_,rfl⟩;rw[←hW1];have bN1:Boxed W1 (w.heap.size+1) 3 (.int .i64 0):=by rw[hW1];exact(bN.alloc _).alloc _
  have bI0:Blk W1 w1.heap.size 47 #[.int .i64 s,.int .i64 j,.int .i64 i,.slice A us.length c]:=by rw[hW1];exact(Blk.new _ _ _).alloc _
  have bI1:Blk W1 (w1.heap.size+1) 3 #[.int .i64 ((0:Nat):Int)]:=by rw[hW1];exact Blk.new' (by simp)
  have hB1:Below w.heap.size w W1:=by rw[hW1];exact(hb1.alloc hb1.size _).alloc (by simp;omega) _
  have hs1:W1.heap.size=w1.heap.size+2:=by rw[hW1];simp
  have hcs1:∀k (h:k<us.length),W1.cell? ⟨b,off+k,none⟩=some (.bool us[k]):=fun k h=>(hB1.cell (p:=⟨b,off+k,none⟩) hb).trans (hcs k h)
  clear hW1 bS bN cS cN hb1 hcs;have HCS:=zhs hcs1;clear hcs1;refine z4Q (n:=6) (fun D W=>W.heap[D]?=some (.deferred (some []))∧w1.heap.size+2≤D∧Boxed W (w.heap.size+1) 3 (.int .i64 ((z1Y us 0).length:Int))∧KeepEx (w1.heap.size+2) [w.heap.size+1] W1 W) ?loop ?after
  case loop=>
   refine wpIn_rangeFunc_ownG rfl (by omega) (gf:=217) (lb:=#[.pointer (some ⟨w1.heap.size,0,none⟩),.pointer (some ⟨w1.heap.size+1,0,none⟩)]) rfl trivial (enters_of func217 (by kernel_rfl) rfl)
    (z7l Fence.wide (6 - 1) trivial rfl (by omega) w1.heap.size (w1.heap.size+1) (w1.heap.size+2) s j i A c 0 us hpos hus W1 [w.heap.size+1] (by simp;omega) (by simp;omega) (by omega) (by omega) (by omega) bI0 bI1 b off HA.out (by omega) (by simp;omega) HCS.out)
    zb6 (zaM (by omega)) (zho _ _) (fun _=>rfl)
    (fun pre W=>Boxed W (w.heap.size+1) 3 (.int .i64 (pre.length:Int))∧KeepEx (w1.heap.size+2) [w.heap.size+1] W1 W)
    (fun _ _ _=>False)
    (OwnFrom.and (zcM _ _ _ (fun pre:List Int=>.int .i64 (pre.length:Int))) (z2i (by omega) (by omega)))
    (fun _ _ _ _ _ hs _ _=>hs)
    ⟨bN1,KeepEx.refl _ _ _⟩
    (fun x=>{ tmps:=#[.agg #[.int .i64 s,.int .i64 j,.int .i64 i,.slice A us.length c],.pointer (some ⟨w.heap.size,0,none⟩),.pointer (some ⟨w.heap.size+1,0,none⟩),.int .i64 0,.int .i64 (CkE s j i us.length),.agg #[.int .i64 s,.int .i64 j,.int .i64 i,.slice A us.length c],.int .i64 (CkE s j i us.length),.int .i64 (CkE s j i us.length),.bool false,undef,
     .agg #[.int .i64 s,.int .i64 j,.int .i64 i,.slice A us.length c],.func (.func 217) #[] #[.pointer (some ⟨w1.heap.size,0,none⟩),.pointer (some ⟨w1.heap.size+1,0,none⟩)],.int .i64 x,undef,undef,undef],defers:=[] }) ?assign ?body ?done ?stop
   case assign=>
    intro l x W K hK;gi_wp2
    simpa using hK
   case body=>
    rintro l pre x W ⟨hv,hK⟩ hlt;have hc:=hv.cell;have hf:=hv.frozen;gi_wp2
    refine⟨(KeepsOthers.setCell _ _ _).from _,KeepEx.setCell _ (.inl (by simp)) _,?_,hK.trans (KeepEx.setCell _ (.inl (by simp)) _)⟩
    have:=hv.set (.int .i64 ((pre.length:Int)+1))
    simpa using this
   case done=>
    rintro D ys W hD rfl ⟨hbox,hK⟩ hKd;exact⟨.inl rfl,D,rfl,hKd,by omega,hbox,hK⟩
   case stop=>
    rintro D c pre W _ _ h _;exact h.elim
  case after=>
   rintro D W ⟨hKd,hD,hv,hK⟩;have hc:=hv.cell;have hf:=hv.frozen;have hBW:Below w.heap.size w W:=hB1.trans (hK.toBelow (by omega) (by simp))
   go_wp2
   refine z6t (C:=bodyPostM Fence.wide 9 prog Tryz.f91 (fun e w'=>e=.returned (.tuple #[.int .i64 (z1V s j i us),.int .i64 (CkE s j i us.length)])∧Below w.heap.size w w') Exit.ret _)
    (F:=fun Wf=>Blk Wf (w.heap.size+1) 3 #[.int .i64 ((z1Y us 0).length:Int)]∧Wf.heap[D]?=some (.deferred (some []))∧Below w.heap.size w Wf) ?_ ?_
   ·refine⟨Blk.set_ hv 0 _,?_,by (repeat' (first|with_reducible (first|exact zho _ _|assumption|refine zhp ?_ ?_ _|refine zhq ?_|refine z00 ?_ _|refine zhr ?_ ?_ _|exact zhT _)|omega|(simp;done)|(simp;omega)))⟩
    (repeat (first|(with_reducible exact hKd)|refine(Below.heap_setCell _ _ _ _ (by simp;omega)).trans ?_))
   ·rintro Wf ⟨BN,hKf,HBf⟩;have cN':=(z6D (o:=.deferred none) BN (by omega:_≠D)).cells
    refine z4G (.tuple #[.int .i64 ((z1Y us 0).length:Int),.int .i64 0]) hKf (by simp[results,results91,go_sem,cN']) ?_
    exact⟨by rw[HN.out,HE.out],z4d HBf (by omega)⟩
 ·have hE':(CkE s j i us.length != 0)=true:=by simpa using hE
  have hN:z1V s j i us=0:=by simp only[z1V,if_neg hE]
  have HE:=zhs hE;have HN:=zhs hN;clear hE hN;go_enter func91,ntmps91
  go_wp2_with fail
  refine(z23 s j i A us.length c _ (by unfold maxLen;omega)).mono ?_
  rintro e w1 ⟨rfl,hb1⟩;have bN:Blk w1 (w.heap.size+1) 3 #[.int .i64 0]:=Blk.belowAll (by (repeat' (first|(with_reducible assumption)|exact Blk.new' (by simp)|refine Blk.alloc ?_ _))) hb1
  replace hb1:Below w.heap.size w w1:=z1W hb1
  have cN:=bN.cells;have fN:=bN.free;go_wp2_with fail
  refine bodyPost_ret (v:=.tuple #[.int .i64 0,.int .i64 (CkE s j i us.length)]) (by simp[results,results91,go_sem,cN]) rfl ?_
  exact⟨by rw[HN.out],by (repeat' (first|with_reducible (first|exact zho _ _|assumption|refine zhp ?_ ?_ _|refine zhq ?_|refine z00 ?_ _|refine zhr ?_ ?_ _|exact zhT _)|omega|(simp;done)|(simp;omega)))⟩
theorem zao (us:List Bool)(near k:Nat):(z0r us near k).length=(List.range k).countP fun i=>us[(near+i) % us.length]?==some false:=by
 unfold z0r;rw[zhX,List.countP_eq_length_filter]
theorem z3h (us:List Bool)(a m:Nat)(h:a+m≤us.length):((List.range m).countP fun i=>us[a+i]?==some false)=z3e ((us.drop a).take m):=by
 induction m with
 | zero=>simp[z3e]
 | succ m ih=>
  rw[List.range_succ,List.countP_append,ih (by omega)]
  have hl:m<(us.drop a).length:=by simp;omega
  unfold z3e;rw[zhE hl,List.countP_append];congr 1
  have hg:us[a+m]?=some (us.drop a)[m]:=by rw[List.getElem_drop,zhx (by omega)]
  simp only[List.countP_cons,List.countP_nil,hg];cases (us.drop a)[m]<;>simp
theorem z6O {us:List Bool}{near:Nat}(h:near<us.length):(z1Y us near).length=z3e us:=by
 unfold z1Y;rw[zao];have hsplit:List.range us.length=List.range (us.length - near)++(List.range near).map (us.length - near+·):=by
  rw[←List.range_add];congr 1;omega
 rw[hsplit,List.countP_append,List.countP_map];have h1:((List.range (us.length - near)).countP fun i=>us[(near+i) % us.length]?==some false)=z3e ((us.drop near).take (us.length - near)):=by
  rw[←z3h us near (us.length - near) (by omega)]
  apply List.countP_congr
  intro i hi;simp only[List.mem_range]at hi;rw[Nat.mod_eq_of_lt (by omega)]
 have h2:((List.range near).countP ((fun i=>us[(near+i) % us.length]?==some false)∘(us.length - near+·)))=z3e ((us.drop 0).take near):=by
  rw[←z3h us 0 near (by omega)]
  apply List.countP_congr
  intro i hi;simp only[List.mem_range]at hi;have:(near+(us.length - near+i)) % us.length=0+i:=by
   rw[show near+(us.length - near+i)=i+us.length from by omega,Nat.add_mod_right,Nat.mod_eq_of_lt (by omega)];omega
  simp only[Function.comp,this]
 rw[h1,h2];unfold z3e;have:us.countP (!·)=(us.take near++us.drop near).countP (!·):=by rw[List.take_append_drop]
 rw[this,List.countP_append,List.drop_zero,List.take_of_length_le (by simp)]
 omega
theorem Tryz.info5:(prog.info? 5).map (fun i=>(i.zero,i.size,i.bytes))=some (some (.int .u8 0),1,1):=by kernel_rfl
theorem zfl:∀x:Fin 256,∀m:Fin 8,z3u (x.val:Int) m.val=false→(x.val:Int)+2 ^ m.val % 256≤255∧orv (x.val:Int) m.val=(x.val:Int)+2 ^ m.val % 256:=by decide +kernel
theorem zg6 {x:Int}(h:0≤x∧x<256){m:Nat}(hm:m<8)(hb:z3u x m=false):x+2 ^ m % 256≤255∧orv x m=x+2 ^ m % 256:=by
 obtain⟨y,rfl⟩:=zaV h;exact zfl y ⟨m,hm⟩ hb
theorem zbS (s j i:Int)(A:Option Addr)(c:Nat)(us:List Bool)(hus:us.length≤1000)(w:World)(hR:Reads w A (us.map .bool))(hE:CkE s j i us.length=0):
  Calls prog 46 #[.agg #[.int .i64 s,.int .i64 j,.int .i64 i,.slice A us.length c]] w (z7G s j i us w):=by
 have hus':=(z6l hE).2.2;have hE':(CkE s j i us.length != 0)=false:=by simpa using hE
 have HE:=zhs hE;clear hE;obtain⟨i0,hi,hz0,hz1,hz2⟩:=info_parts Tryz.info5;have hmk:∀w:World,(Instr.makeSlice 113 (.int .i64 96) (.int .i64 96)).run prog w=.ok (.slice (some ⟨w.heap.size,0,none⟩) 96 96) (w.alloc (.cells (fill (.int .u8 0) 96) 5)):=by
  intro w;have:=run_make (P:=prog) w 113 5 i0 (.int .u8 0) underlying113 hi hz0 .i64 .i64 96 96 (by omega) (Int.le_refl _) (by rw[hz2];omega) (by omega)
  rw[this,hz1];simp[fill,Value.cells]
 clear hi hz0 hz1 hz2;go_enter func46,ntmps46
 go_wp2_with fail
 refine(z1x s j i A us.length c _ (by unfold maxLen;omega)).mono ?_
 rintro e w1 ⟨rfl,hb1⟩;have bS:Blk w1 w.heap.size 47 #[.int .i64 s,.int .i64 j,.int .i64 i,.slice A us.length c]:=Blk.belowAll (by (repeat' (first|(with_reducible assumption)|exact Blk.new' (by simp)|refine Blk.alloc ?_ _))) hb1
 replace hb1:Below w.heap.size w w1:=z1E hb1
 have cS:=bS.cells;have hbS:=bS.lt;go_wp2_with fail
 obtain⟨W1,hW1⟩:∃W1,W1=w1.alloc (.cells (fill (.int .u8 0) 96) 5):=⟨_,rfl⟩;rw[←hW1];have bO:Blk W1 w1.heap.size 5 (fill (.int .u8 0) 96):=by rw[hW1];exact Blk.new _ _ _
 have bS1:Blk W1 w.heap.size 47 #[.int .i64 s,.int .i64 j,.int .i64 i,.slice A us.length c]:=by rw[hW1];exact bS.alloc _
 have hB1:Below w.heap.size w W1:=by rw[hW1];exact hb1.alloc hb1.size _
 have hs1:W1.heap.size=w1.heap.size+1:=by rw[hW1];simp
 clear hW1 bS cS hb1 hmk;go_loopw [6] (fun q wr=>∃k:Nat,k≤us.length∧q=.int .i64 k∧Blk wr w1.heap.size 5 (z03 (encL us k))∧Below w1.heap.size W1 wr) (fun q _=>us.length - (intOf q).toNat)
 case atStart=>exact⟨0,zi9 _,rfl,by rw[show encL us 0=List.replicate 96 0 from rfl,z3F];exact bO,zho _ _⟩
 case round=>
  obtain⟨k,hk,rfl,bO,hnx⟩:=hrel;have fO:=bO.free;have bS2:=bS1.below hnx hbS;have cS:=bS2.cells;by_cases hlt:k<us.length
  ·obtain⟨b,off,rfl,hb,hc⟩:=(hR.below (hB1.trans (hnx.mono (by omega)))).at_ (k:=k) (by simpa using hlt)
   rw[List.getElem_map]at hc;have hd8:k / 8<96:=by omega
   have hcO:wr.cell? ⟨w1.heap.size,k / 8,none⟩=some (.int .u8 ((encL us k).getD (k / 8) 0)):=by rw[bO.cells];exact z0J (by rw[z1p];exact hd8)
   cases hu:us[k]<;>rw[hu]at hc
   ·have hs:=zhs (z6w (us:=us) (k:=k) (by rw[zhx hlt,hu]))
    clear hu hcO;go_wp2
    go_roundw
    case rel=>exact⟨k+1,by omega,by go_num,by rw[hs.out];exact bO,hnx⟩
    case measure=>simp[intOf];omega
   ·have hs:=zhs (z8n (us:=us) (k:=k) (by rw[zhx hlt,hu]))
    have hx0:=z0x (z3I us k) (k / 8);have hbit:z3u ((encL us k).getD (k / 8) 0) (k % 8)=false:=by
     have:=z52 (us:=us) (by omega) (k:=k) (by omega) k
     simpa[z3O]using this
    obtain⟨hx1,hx2⟩:=zg6 hx0 (Nat.mod_lt k (by omega:0<8)) hbit
    clear hu hbit;have HX:=zhs hx2;clear hx2;generalize hx:(encL us k).getD (k / 8) 0=x at hcO hs hx0 hx1 HX;clear hx;have hpw:0≤(2:Int) ^ (k % 8) % 256:=Int.emod_nonneg _ (by omega)
    go_wp2
    go_region
    all_goals go_wp2
    go_roundw
    case rel=>exact⟨k+1,by omega,by go_num,by rw[hs.out,HX.out,←z1i];exact(bO.set_ _ _).drew,(hnx.setCell (p:=⟨w1.heap.size,k / 8,none⟩) (zhT _) _).drew⟩
    case measure=>simp[intOf];omega
  ·obtain rfl:k=us.length:=by omega
   have hB2:Below w.heap.size w wr:=hB1.trans (hnx.mono (by omega))
   go_wp2
   go_ret2
   exact⟨by (repeat' (first|with_reducible (first|exact zho _ _|assumption|refine zhp ?_ ?_ _|refine zhq ?_|refine z00 ?_ _|refine zhr ?_ ?_ _|exact zhT _)|omega|(simp;done)|(simp;omega))),.inr ⟨HE.out,w1.heap.size,rfl,by omega,z2d bO⟩⟩
theorem z6a (s j i:Int)(A:Option Addr)(c:Nat)(us:List Bool)(hus:us.length≤1000)(w:World)(hR:Reads w A (us.map .bool)):
  Calls prog 46 #[.agg #[.int .i64 s,.int .i64 j,.int .i64 i,.slice A us.length c]] w (z7G s j i us w):=by
 by_cases hE:CkE s j i us.length=0
 ·exact zbS s j i A c us hus w hR hE
 ·have hE':(CkE s j i us.length != 0)=true:=by simpa using hE
  have HE:=zhs hE;clear hE;go_enter func46,ntmps46
  go_wp2_with fail
  refine(z1x s j i A us.length c _ (by unfold maxLen;omega)).mono ?_
  rintro e w1 ⟨rfl,hb1⟩;replace hb1:Below w.heap.size w w1:=z1E hb1
  go_wp2_with fail
  go_ret2
  exact⟨hb1,.inl ⟨HE.out,rfl⟩⟩
theorem zck (s j i:Int)(A:Option Addr)(c:Nat)(us:List Bool)(hus:us.length≤1000)(w:World)(hR:Reads w A (us.map .bool)):
  Calls prog 152 #[.agg #[.int .i64 s,.int .i64 j,.int .i64 i,.slice A us.length c]] w fun e w'=>
   e=.returned (.tuple #[.int .i64 (z1V s j i us),.int .i64 (CkE s j i us.length)])∧Below w.heap.size w w':=by
 by_cases hE:CkE s j i us.length=0
 ·have hN:z1V s j i us=(z3e us:Int):=by unfold z1V;rw[if_pos hE,z6O (by have:=(z6l hE).2.2.1;omega)]
  have hE':(CkE s j i us.length != 0)=false:=by simpa using hE
  have HE:=zhs hE;have HN:=zhs hN;clear hE hN;go_enter func152,ntmps152
  go_wp2_with fail
  refine(z1x s j i A us.length c _ (by unfold maxLen;omega)).mono ?_
  rintro e w1 ⟨rfl,hb1⟩;have bS:Blk w1 w.heap.size 47 #[.int .i64 s,.int .i64 j,.int .i64 i,.slice A us.length c]:=Blk.belowAll (by (repeat' (first|(with_reducible assumption)|exact Blk.new' (by simp)|refine Blk.alloc ?_ _))) hb1
  replace hb1:Below w.heap.size w w1:=z1E hb1
  have cS:=bS.cells;go_wp2_with fail
  refine(z6x s j i A c us _ (hR.below hb1) hus).mono ?_;rintro e w2 ⟨rfl,hb2⟩;have B2:=hb1.trans (hb2.mono hb1.size);go_wp2_with fail
  go_ret2
  exact⟨by rw[HN.out,HE.out];rfl,B2⟩
 ·have hN:z1V s j i us=0:=by simp only[z1V,if_neg hE]
  have hE':(CkE s j i us.length != 0)=true:=by simpa using hE
  have HE:=zhs hE;have HN:=zhs hN;clear hE hN;go_enter func152,ntmps152
  go_wp2_with fail
  refine(z1x s j i A us.length c _ (by unfold maxLen;omega)).mono ?_
  rintro e w1 ⟨rfl,hb1⟩;replace hb1:Below w.heap.size w w1:=z1E hb1
  go_wp2_with fail
  go_ret2
  exact⟨by rw[HN.out];rfl,hb1⟩
theorem zf0:∀x:Fin 256,∀m:Fin 8,z3u (x.val:Int) m.val=(((x.val:Int) / 2 ^ m.val).tmod 2==1):=by decide +kernel
theorem zfV {x:Int}(h:0≤x∧x<256){m:Nat}(hm:m<8):z3u x m=((x / 2 ^ m).tmod 2==1):=by
 obtain⟨y,rfl⟩:=zaV h;exact zf0 y ⟨m,hm⟩
def DecFail (s j i:Int)(xs:List Int)(E:Int):Prop:=
 E≠0∧((rgE s j i≠0∧E=rgE s j i)∨(rgE s j i=0∧xs.length≠96∧E=3)∨(rgE s j i=0∧xs.length=96∧¬z1X xs (rgB s j i).toNat 768∧E=6))
def z5F (s j i:Int)(xs:List Int)(B B0 k:Nat)(wr:World):Prop:=
 rgE s j i=0∧xs.length=96∧z1X xs (rgB s j i).toNat k∧∃g,B0≤g∧g≠B∧Blk wr g 4 (z2Q (decS xs (rgB s j i).toNat k))∧Blk wr B 47 #[.int .i64 s,.int .i64 j,.int .i64 i,.slice (some ⟨g,0,none⟩) (rgB s j i).toNat (rgB s j i).toNat]
theorem DecFail.post {s j i:Int}{xs:List Int}{E:Int}{w w':World}(h:DecFail s j i xs E)(hb:Below w.heap.size w w'):
  z6o s j i xs w (.returned (.tuple #[.agg #[.int .i64 0,.int .i64 0,.int .i64 0,.slice none 0 0],.int .i64 E])) w':=by
 rcases h.2 with ⟨h1,rfl⟩|⟨h1,h2,rfl⟩|⟨h1,h2,h3,rfl⟩
 ·exact⟨hb,.inl ⟨h1,rfl⟩⟩
 ·exact⟨hb,.inr (.inl ⟨h1,h2,rfl⟩)⟩
 ·exact⟨hb,.inr (.inr (.inl ⟨h1,h2,h3,rfl⟩))⟩
theorem z9L (s j i:Int)(A:Option Addr)(c:Nat)(xs:List Int)(hml:xs.length≤1000)(hbx:z0V xs)(w:World)(hR:Reads w A (xs.map (.int .u8))):
  Calls prog 140 #[.agg #[.int .i64 s,.int .i64 j,.int .i64 i],.slice A xs.length c] w (z6o s j i xs w):=by
 go_enter func140,ntmps140
 go_wp2_with fail
 refine(zb2 s j i _).mono ?_;rintro e w1 ⟨hb1,⟨hE,rfl⟩|⟨hE,g,rfl,hg,hrow⟩⟩;focus
  have hE':(rgE s j i==0)=false:=by simpa using hE
  have ST:Hid (∀wr:World,∀B B0:Nat,DecFail s j i xs (rgE s j i)∨(rgE s j i=0∧z5F s j i xs B B0 0 wr)):=zhs (fun _ _ _=>.inl ⟨hE,.inl ⟨hE,rfl⟩⟩)
  have HE:=zhs hE;clear hE;have bR:Blk w1 (w.heap.size+1) 47 #[.int .i64 0,.int .i64 0,.int .i64 0,.slice none 0 0]:=Blk.belowAll (by (repeat' (first|(with_reducible assumption)|exact Blk.new' (by simp)|refine Blk.alloc ?_ _))) hb1
  have B1:Below w.heap.size w w1:=z1W hb1;clear hb1;have lR:=bR.lt;go_wp2_with fail
  have bR1:=bR.alloc (.cells #[.int .i64 0,.int .i64 0,.int .i64 0,.slice none 0 0] 47);have B2:=B1.alloc B1.size (.cells #[.int .i64 0,.int .i64 0,.int .i64 0,.slice none 0 0] 47);have ST1:=zhs (ST.out (w1.alloc (.cells #[.int .i64 0,.int .i64 0,.int .i64 0,.slice none 0 0] 47)) w1.heap.size (w.heap.size+2));clear ST bR B1
 rotate_left;focus
  have bR:Blk w1 (w.heap.size+1) 47 #[.int .i64 0,.int .i64 0,.int .i64 0,.slice none 0 0]:=Blk.belowAll (by (repeat' (first|(with_reducible assumption)|exact Blk.new' (by simp)|refine Blk.alloc ?_ _))) hb1
  have bQ0:Blk w1 g 4 (fill (.bool false) (rgB s j i).toNat):=hrow;have B1:Below w.heap.size w w1:=z1W hb1;clear hb1 hrow;have lR:=bR.lt;have hg2:w.heap.size+2≤g:=by simpa using hg
  have hgl:g<w1.heap.size:=bQ0.lt;have hE':(rgE s j i==0)=true:=by simpa using hE
  have bR1:=bR.alloc (.cells #[.int .i64 s,.int .i64 j,.int .i64 i,.slice (some ⟨g,0,none⟩) (rgB s j i).toNat (rgB s j i).toNat] 47);have B2:=B1.alloc B1.size (.cells #[.int .i64 s,.int .i64 j,.int .i64 i,.slice (some ⟨g,0,none⟩) (rgB s j i).toNat (rgB s j i).toNat] 47);by_cases h96:xs.length=96
  focus
   have hn:((xs.length:Int) != 96)=false:=by rw[h96];rfl
   have ST1:Hid (DecFail s j i xs 0∨(0=(0:Int)∧z5F s j i xs w1.heap.size (w.heap.size+2) 0 (w1.alloc (.cells #[.int .i64 s,.int .i64 j,.int .i64 i,.slice (some ⟨g,0,none⟩) (rgB s j i).toNat (rgB s j i).toNat] 47)))):=
    zhs (.inr ⟨rfl,hE,h96,fun b _ h=>absurd h (by omega),g,hg2,by omega,by rw[show decS xs (rgB s j i).toNat 0=List.replicate _ false from rfl,z3L];exact bQ0.alloc _,Blk.new _ _ _⟩)
   have HE:=zhs hE;clear hE bQ0 hg2 hg hgl bR B1;go_wp2_with fail
  rotate_left;focus
   have hn:((xs.length:Int) != 96)=true:=by simp;omega
   have ST1:Hid (DecFail s j i xs 3∨(3=(0:Int)∧z5F s j i xs w1.heap.size (w.heap.size+2) 0 (w1.alloc (.cells #[.int .i64 s,.int .i64 j,.int .i64 i,.slice (some ⟨g,0,none⟩) (rgB s j i).toNat (rgB s j i).toNat] 47)))):=
    zhs (.inl ⟨by decide,.inr (.inl ⟨hE,h96,rfl⟩)⟩)
   have HE:=zhs hE;clear hE bQ0 hg2 hg hgl bR B1;go_wp2_with fail
  rotate_left
 all_goals
  go_loopw [7,8,9] (fun v q _ wr=>∃(k:Nat) (E:Int),k≤768∧v=.int .i64 E∧q=.int .i64 k∧(DecFail s j i xs E∨(E=0∧z5F s j i xs w1.heap.size (w.heap.size+2) k wr))∧Blk wr (w.heap.size+1) 47 #[.int .i64 0,.int .i64 0,.int .i64 0,.slice none 0 0]∧Below w.heap.size w wr) (fun _ q _ _=>768 - (intOf q).toNat)
  case atStart=>exact⟨0,_,zi9 _,rfl,rfl,(by simpa using ST1.out),bR1,B2⟩
  case round=>
   obtain⟨k,E,hk,rfl,rfl,hD,bR,hnx⟩:=hrel;have cR:=bR.cells;have fR:=bR.free;have lR:=bR.lt;rcases hD with hD|⟨rfl,hrg,hl96,hno,g2,hgB,hgne,bQ,bW⟩
   ·have hEE:(E==0)=false:=by simpa using hD.1
    have hEE':(E != 0)=true:=by simpa using hD.1
    have HD:=zhs hD;clear hD;by_cases hlt:k<768
    all_goals
     go_wp2_with fail
     refine bodyPost_ret (v:=.tuple #[.agg #[.int .i64 0,.int .i64 0,.int .i64 0,.slice none 0 0],.int .i64 E]) (by simp[results,results140,go_sem,cR,lR]) rfl ?_
     exact HD.out.post (by (repeat' (first|with_reducible (first|exact zho _ _|assumption|refine zhp ?_ ?_ _|refine zhq ?_|refine z00 ?_ _|refine zhr ?_ ?_ _|exact zhT _)|omega|(simp;done)|(simp;omega))))
   ·first
    | exact absurd hl96 (by assumption)
    | exact absurd hrg HE.out
    | (
      skip
      unfold z6o;generalize hNN:(rgB s j i).toNat=n at *;have NN:=zhs hNN;clear hNN;have HRG:=zhs hrg;clear hrg;have fQ:=bQ.free;have cW:=bW.cells;have fW:=bW.free;have lW:=bW.lt;have lQ:=bQ.lt;by_cases hlt:k<768
      ·have hk8:k / 8<xs.length:=by omega
       obtain⟨b,off,rfl,hb,hc⟩:=(hR.below hnx).at_ (k:=k / 8) (by simpa using hk8)
       rw[List.getElem_map]at hc;have hq8:0≤(k:Int) / 8∧(k:Int) / 8<96:=by omega
       have hbit:z3O xs k=z3u xs[k / 8] (k % 8):=by unfold z3O;simp[hk8]
       have HB:=zhs hbit;clear hbit;have hx0:=hbx _ (zhQ hk8);generalize xs[k / 8]=x at hc HB hx0;have hb2:=zfV hx0 (Nat.mod_lt k (by omega:0<8))
       by_cases hkn:k<n
       ·have hd:=decide_eq_true hkn;have hcQ:wr.cell? ⟨g2,k,none⟩=some (.bool ((decS xs n k).getD k false)):=by rw[bQ.cells];exact z4Y (by rw[z18];exact hkn)
        have hs:=zhs (z9x (xs:=xs) hkn);have HB2:=zhs hb2;clear hb2;go_wp2_with fail
        go_roundw
        case rel=>exact⟨k+1,0,by omega,rfl,by go_num,.inr ⟨rfl,HRG.out,hl96,fun b h1 h2=>by rw[NN.out]at h1;exact hno b h1 (by omega),g2,hgB,hgne,by rw[NN.out,hs.out,HB.out,HB2.out,←z57];exact bQ.set_ _ _,by rw[NN.out];exact bW.far (by simp;omega) _⟩,bR.far (by simp;omega) _,by (repeat' (first|with_reducible (first|exact zho _ _|assumption|refine zhp ?_ ?_ _|refine zhq ?_|refine z00 ?_ _|refine zhr ?_ ?_ _|exact zhT _)|omega|(simp;done)|(simp;omega)))⟩
        case measure=>simp[intOf];omega
       ·have hd:=decide_eq_false hkn;have hs:=zhs (z8a (xs:=xs) hkn);cases hbt:z3u x (k % 8)
        ·have hbt':((x / 2 ^ (k % 8)).tmod 2==1)=false:=by rw[←hb2];exact hbt
         have HT:=zhs hbt;clear hbt hb2;go_wp2_with fail
         go_roundw
         case rel=>exact⟨k+1,0,by omega,rfl,by go_num,.inr ⟨rfl,HRG.out,hl96,fun b h1 h2=>by
          rw[NN.out]at h1;by_cases hbk:b=k
          ·subst hbk;rw[HB.out,HT.out]
          ·exact hno b h1 (by omega),g2,hgB,hgne,by rw[NN.out,hs.out];exact bQ,by rw[NN.out];exact bW⟩,bR,hnx⟩
         case measure=>simp[intOf];omega
        ·have hbt':((x / 2 ^ (k % 8)).tmod 2==1)=true:=by rw[←hb2];exact hbt
         have HT:=zhs hbt;clear hbt hb2;go_wp2_with fail
         go_roundw
         case rel=>exact⟨k+1,6,by omega,rfl,by go_num,.inl ⟨by decide,.inr (.inr ⟨HRG.out,hl96,fun h=>(by rw[NN.out]at h;have:=h k (by omega) hlt;rw[HB.out,HT.out]at this;cases this),rfl⟩)⟩,bR,hnx⟩
         case measure=>simp[intOf];omega
      ·obtain rfl:k=768:=by omega
       go_wp2_with fail
       refine bodyPost_ret (v:=.tuple #[.agg #[.int .i64 s,.int .i64 j,.int .i64 i,.slice (some ⟨g2,0,none⟩) n n],.int .i64 0]) (by simp[results,results140,go_sem,cR,lR]) rfl ?_
       have hnn:z1X xs (rgB s j i).toNat 768:=by rw[NN.out];exact hno
       refine⟨by (repeat' (first|with_reducible (first|exact zho _ _|assumption|refine zhp ?_ ?_ _|refine zhq ?_|refine z00 ?_ _|refine zhr ?_ ?_ _|exact zhT _)|omega|(simp;done)|(simp;omega))),.inr (.inr (.inr ⟨HRG.out,hl96,hnn,g2,by rw[NN.out],by omega,?_⟩))⟩
       rw[NN.out];exact z6B (t:=4) (by (repeat' (first|(with_reducible exact bQ)|refine Blk.far ?_ (by simp;omega) _))))
open Go.Maps
theorem z08 {fn:Func}{m n R:Nat}{ty t:TypeId}{tmps:Array Value}{w:World}{cs:Array Value}{fr:Nat × Nat}{e:Int}{fs:_}(hr:fn.results=#[.cell m ty,.tmp n])(hm:tmps.getD m undef=.pointer (some ⟨R,0,none⟩))(hn:tmps.getD n undef=.int .i64 e)
  (hg:w.heap[R]?=some (.cells cs t fr)) (hu:prog.underlying ty=some (.struct fs)) (hi:(prog.info? ty).map (·.size)=some cs.size):
  (results fn tmps).run prog w=.ok (.tuple #[.agg cs,.int .i64 e]) w:=by
 have h:=run_loadVar_row (P:=prog) w R t ty cs fr _ hg hu rfl hi;have h1:(asAddr (.pointer (some ⟨R,0,none⟩))).run prog w=.ok ⟨R,0,none⟩ w:=rfl;have hm':tmps[m]?.getD undef=.pointer (some ⟨R,0,none⟩):=by simpa using hm
 have hn':tmps[n]?.getD undef=.int .i64 e:=by simpa using hn
 simp[results,hr,hm',hn',h1,h]
theorem z0A {P:Program}{ops:Array Oper}{rest:List Oper}{o:Oper}{a:Act}{w:World}{Q:Exit→Act→World→Prop}(hg:o.guard=none)(t:TypeId)(parts:Array (Nat × Operand))(ho:o.op=.build t parts)(cells:Array Value)
  (hf:P.built t (parts.toList.map fun p=>(p.1,a.eval p.2))=some cells) (h:wpList P ops Q rest (a.put o.dst (.agg cells)) w):wpList P ops Q (o::rest) a w:=by
 have hf':P.built t (parts.map fun (i,x)=>(i,a.eval x)).toList=some cells:=by rw[Array.toList_map];exact hf
 refine wpList_build hg t parts ho (by rw[hf'];rfl) ?_
 rw[hf'];exact h
def txR (D0:Option Addr)(n c:Nat)(C0:Option Addr)(nc cc:Nat)(tk pw:Int)(off:Bool)(s j i r1 r2 r3 r4 r5:Int)(A:Option Addr)(na ca:Nat)(B:Option Addr)(nb cb:Nat)(W0:Option Addr)(nw cw:Nat)(ch br en:Bool):Array Value:=
 #[.slice D0 n c,.slice C0 nc cc,.int .i64 tk,.int .i64 pw,.bool off,.int .i64 s,.int .i64 j,.int .i64 i,.int .i64 r1,.int .i64 r2,.int .i64 r3,.int .i64 r4,.int .i64 r5,.int .i64 s,.int .i64 j,.int .i64 i,.slice A na ca,.int .i64 s,.int .i64 j,.int .i64 i,.slice B nb cb,.slice W0 nw cw,.bool ch,.bool br,.bool en]
def txZ:Array Value:=txR none 0 0 none 0 0 0 0 false 0 0 0 0 0 0 0 0 none 0 0 none 0 0 none 0 0 false false false
theorem Tryz.builtTxR (D0:Option Addr)(n c:Nat)(C0:Option Addr)(nc cc:Nat)(tk pw:Int)(off:Bool)(s j i r1 r2 r3 r4 r5:Int)(A:Option Addr)(na ca:Nat):
 prog.built 50 [(0,.agg #[.slice D0 n c,.slice C0 nc cc,.int .i64 tk,.int .i64 pw,.bool off]),(1,.agg #[.int .i64 s,.int .i64 j,.int .i64 i]),(2,.agg #[.int .i64 r1,.int .i64 r2,.int .i64 r3,.int .i64 r4,.int .i64 r5]),(3,.agg #[.int .i64 s,.int .i64 j,.int .i64 i,.slice A na ca]),(4,.agg #[.int .i64 s,.int .i64 j,.int .i64 i,.slice A na ca])]=some (txR D0 n c C0 nc cc tk pw off s j i r1 r2 r3 r4 r5 A na ca A na ca none 0 0 false false false):=by kernel_rfl
theorem Tryz.builtTxZ:prog.built 50 []=some txZ:=by kernel_rfl
def z8g (w:World)(D0:Option Addr)(c:Nat)(C0:Option Addr)(nc cc:Nat)(s j i:Int)(x:DevS)(e:Ending)(w':World):Prop:=
 Below w.heap.size w w'∧∃E,x.beginE s j i E∧((E≠0∧e=.returned (.tuple #[.agg txZ,.int .i64 E])) ∨
  (E=0∧∃g,w.heap.size≤g∧e=.returned (.tuple #[.agg (txR D0 x.stable.length c C0 nc cc x.taken x.power x.off s j i 1 (1+j) (2+j) (2+j+i) (s - (2+j+i)) (some ⟨g,0,none⟩) (rgB s j i).toNat (rgB s j i).toNat (some ⟨g,0,none⟩) (rgB s j i).toNat (rgB s j i).toNat none 0 0 false false false),.int .i64 0]) ∧
   Reads w' (some ⟨g,0,none⟩) ((decS (strL (x.fr (1+j)).data) (rgB s j i).toNat 768).map .bool)))
theorem zc3 (S c:Nat)(C0:Option Addr)(nc cc:Nat)(s j i:Int)(x:DevS)(hlo:64≤x.stable.length)(hsz:(x.fr (1+j)).data.size≤1000)(w:World)
  (hget:z0R x.stable.length s j i=0→∀W,Below w.heap.size w W→Calls prog 132 #[.agg (z09 (.slice (some ⟨S,0,none⟩) x.stable.length c) (.slice C0 nc cc) x.taken x.power x.off),.int .i64 (1+j)] W fun e w'=>Below W.heap.size W w'∧e=.returned (.tuple #[.agg #[.int .i64 (x.fr (1+j)).kind,.int .u32 (x.fr (1+j)).seq,.string (x.fr (1+j)).data],.int .i64 (x.ge (1+j))])):
  Calls prog 61 #[.agg (z09 (.slice (some ⟨S,0,none⟩) x.stable.length c) (.slice C0 nc cc) x.taken x.power x.off),.agg #[.int .i64 s,.int .i64 j,.int .i64 i]] w (z8g w (some ⟨S,0,none⟩) c C0 nc cc s j i x):=by
 have hf:=fun W=>z9p (.slice C0 nc cc) S x.stable.length c x.taken x.power s j i x.off W
 have hfe:z0R x.stable.length s j i=fitE x.stable.length s j i:=by
  unfold z0R fitE;by_cases h1:rgE s j i=0
  ·rw[if_neg (by simpa using h1),if_neg (by omega)]
   by_cases h2:(x.stable.length:Int)=s
   ·rw[if_neg (by simpa using h2),if_neg (by simp[h2]),h1]
   ·rw[if_pos h2,if_pos ⟨h1,h2⟩]
  ·rw[if_pos h1,if_neg (by simp[h1])]
 obtain⟨w0,hw0⟩:∃w0,w0=((w.alloc (.cells (z09 (.slice (some ⟨S,0,none⟩) x.stable.length c) (.slice C0 nc cc) x.taken x.power x.off) 34)).alloc (.cells #[.int .i64 s,.int .i64 j,.int .i64 i] 23)).alloc (.cells txZ 50):=⟨_,rfl⟩;have bD:Blk w0 w.heap.size 34 (z09 (.slice (some ⟨S,0,none⟩) x.stable.length c) (.slice C0 nc cc) x.taken x.power x.off):=by rw[hw0];exact((Blk.new _ _ _).alloc _).alloc _
 have bL:Blk w0 (w.heap.size+1) 23 #[.int .i64 s,.int .i64 j,.int .i64 i]:=by rw[hw0];exact(Blk.new' (by simp)).alloc _
 have bT:Blk w0 (w.heap.size+1+1) 50 txZ:=by rw[hw0];exact Blk.new' (by simp)
 have B0:Below w.heap.size w w0:=by rw[hw0];(repeat' (first|with_reducible (first|exact zho _ _|assumption|refine zhp ?_ ?_ _|refine zhq ?_|refine z00 ?_ _|refine zhr ?_ ?_ _|exact zhT _)|omega|(simp;done)|(simp;omega)))
 unfold z09 at *;unfold txZ txR at hw0;by_cases hE:fitE x.stable.length s j i=0
 rotate_left
 ·have HB:Hid (x.beginE s j i (fitE x.stable.length s j i)):=zhs (.inl ⟨by rw[hfe];exact hE,hfe.symm⟩)
  have HN:=zhs hE;unfold z8g;clear hget hfe hsz;go_enter func61,ntmps61
  go_upto_region 1 with fail
  rw[←hw0];clear hw0;have cD:=bD.cells;have cL:=bL.cells;have lD:=bD.lt;have lL:=bL.lt;go_wp2_with fail
  refine(hf w0).mono ?_;rintro e w1 ⟨hb1,rfl⟩;have bT1:=bT.belowAll hb1;have B1:=B0.trans (hb1.mono B0.size);obtain⟨a1,a2,a3,a4,a5,hv⟩:∃a1 a2 a3 a4 a5:Int,rgV s j i=.agg #[.int .i64 a1,.int .i64 a2,.int .i64 a3,.int .i64 a4,.int .i64 a5]:=⟨_,_,_,_,_,rfl⟩;rw[hv];clear hv hf;generalize fitE x.stable.length s j i=E at *;have hd:(E != 0)=true:=by simpa using hE
  clear hE;have bT2:=bT1.alloc (.cells #[.int .i64 a1,.int .i64 a2,.int .i64 a3,.int .i64 a4,.int .i64 a5] 44);have hst:=z0q (ty:=50) (vs:=txZ) bT2 rfl (by simp[txZ,txR,Value.oneCell']) (by kernel_rfl)
  have bT3:=bT2.setRow (cs':=txZ);obtain⟨W3,hW3⟩:∃W3,W3=World.setRow (w1.alloc (.cells #[.int .i64 a1,.int .i64 a2,.int .i64 a3,.int .i64 a4,.int .i64 a5] 44)) (w.heap.size+1+1) txZ:=⟨_,rfl⟩;have B3:Below w.heap.size w W3:=by rw[hW3];exact Below.setRow (B1.alloc B1.size _) (by omega) _
  rw[←hW3]at hst bT3;clear hW3 bT2;go_wp2_with (first|(refine z0A rfl 50 _ rfl txZ Tryz.builtTxZ ?_)|(refine z01 rfl _ _ _ rfl _ _ rfl rfl hst ?_))
  refine bodyPost_ret (z08 (cs:=txZ) rfl rfl rfl bT3 underlying50 rfl) rfl ?_;exact⟨B3,E,HB.out,.inl ⟨HN.out,rfl⟩⟩
 have hE0:z0R x.stable.length s j i=0:=hfe.trans hE;replace hget:=hget hE0;obtain⟨hrg,hns⟩:=z36 hE0;obtain⟨r1,r2,r3,r4,r5⟩:=z3R hrg;have hv:rgV s j i=.agg #[.int .i64 1,.int .i64 (1+j),.int .i64 (2+j),.int .i64 (2+j+i),.int .i64 (s - (2+j+i))]:=by unfold rgV;rw[r1,r2,r3,r4,r5]
 rw[hv,hE]at hf;have HE:=zhs hE0;have HRG:=zhs hrg;clear hE hE0 hfe hv r1 r2 r3 r4 r5 hrg hns;unfold z8g;go_enter func61,ntmps61
 go_upto_region 1 with fail
 rw[←hw0];clear hw0;have cD:=bD.cells;have cL:=bL.cells;have lD:=bD.lt;have lL:=bL.lt;go_wp2_with fail
 refine(hf w0).mono ?_;rintro e w1 ⟨hb1,rfl⟩;have bT1:=bT.belowAll hb1;have bD1:=bD.belowAll hb1;have bL1:=bL.belowAll hb1;have B1:=B0.trans (hb1.mono B0.size);clear hf hb1 cD cL lD lL bD bL bT B0;obtain⟨RB,hRB⟩:∃RB,RB=w1.heap.size:=⟨_,rfl⟩;obtain⟨w2,hw2⟩:∃w2,w2=w1.alloc (.cells #[.int .i64 1,.int .i64 (1+j),.int .i64 (2+j),.int .i64 (2+j+i),.int .i64 (s - (2+j+i))] 44):=⟨_,rfl⟩;have bR2:Blk w2 RB 44 #[.int .i64 1,.int .i64 (1+j),.int .i64 (2+j),.int .i64 (2+j+i),.int .i64 (s - (2+j+i))]:=by rw[hw2,hRB];exact Blk.new _ _ _
 have bT2:=bT1.alloc (.cells #[.int .i64 1,.int .i64 (1+j),.int .i64 (2+j),.int .i64 (2+j+i),.int .i64 (s - (2+j+i))] 44);have bD2:=bD1.alloc (.cells #[.int .i64 1,.int .i64 (1+j),.int .i64 (2+j),.int .i64 (2+j+i),.int .i64 (s - (2+j+i))] 44);have bL2:=bL1.alloc (.cells #[.int .i64 1,.int .i64 (1+j),.int .i64 (2+j),.int .i64 (2+j+i),.int .i64 (s - (2+j+i))] 44);have B2:=B1.alloc B1.size (.cells #[.int .i64 1,.int .i64 (1+j),.int .i64 (2+j),.int .i64 (2+j+i),.int .i64 (s - (2+j+i))] 44);rw[←hw2]at bT2 bD2 bL2 B2;have cD:=bD1.cells;have lD:=bD1.lt;go_wp2_with fail
 rw[←hw2,←hRB];clear hw2 hRB bT1 bD1 bL1 B1;refine(hget w2 B2).mono ?_;rintro e w3 ⟨hb3,rfl⟩;have bT3:=bT2.belowAll hb3;have bD3:=bD2.belowAll hb3;have bL3:=bL2.belowAll hb3;have bR3:=bR2.belowAll hb3;have B3:=B2.trans (hb3.mono B2.size);clear hget hb3 cD lD bT2 bD2 bL2 bR2 B2;have HBE:Hid (∀E,x.beginE s j i E↔(z0R x.stable.length s j i≠0∧E=z0R x.stable.length s j i) ∨
 (z0R x.stable.length s j i=0∧x.ge (1+j)≠0∧E=x.ge (1+j)) ∨
 (z0R x.stable.length s j i=0∧x.ge (1+j)=0∧¬(z3P (x.fr (1+j)).data (rgB s j i).toNat∧(x.fr (1+j)).kind=5)∧E=6) ∨
 (z0R x.stable.length s j i=0∧x.ge (1+j)=0∧z3P (x.fr (1+j)).data (rgB s j i).toNat∧(x.fr (1+j)).kind=5∧E=0)):=zhs fun E=>Iff.rfl
 generalize x.ge (1+j)=GE at *;obtain⟨f,hfr⟩:∃f,f=x.fr (1+j):=⟨_,rfl⟩;have HFR:=zhs hfr;rw[←hfr]at hsz HBE ⊢;clear hfr;obtain⟨fk,fs,fd⟩:=f;simp only at hsz HBE ⊢
 obtain⟨w4,hw4⟩:∃w4,w4=w3.alloc (.cells #[.int .i64 fk,.int .u32 fs,.string fd] 190):=⟨_,rfl⟩;obtain⟨FB,hFB⟩:∃FB,FB=w3.heap.size:=⟨_,rfl⟩;have bF4:Blk w4 FB 190 #[.int .i64 fk,.int .u32 fs,.string fd]:=by rw[hw4,hFB];exact Blk.new _ _ _
 have bT4:Blk w4 (w.heap.size+1+1) 50 txZ:=by rw[hw4];exact bT3.alloc _
 have bD4:=bD3.alloc (.cells #[.int .i64 fk,.int .u32 fs,.string fd] 190);have bL4:=bL3.alloc (.cells #[.int .i64 fk,.int .u32 fs,.string fd] 190);have bR4:=bR3.alloc (.cells #[.int .i64 fk,.int .u32 fs,.string fd] 190);have B4:Below w.heap.size w w4:=by rw[hw4];exact B3.alloc B3.size _
 rw[←hw4]at bD4 bL4 bR4;by_cases hG:GE=0
 rotate_left
 ·have hG':(GE != 0)=true:=by simpa using hG
  have HN:=zhs hG;have hst:=z0q (ty:=50) (vs:=txZ) bT4 rfl (by simp[txZ,txR,Value.oneCell']) (by kernel_rfl)
  have bT5:=bT4.setRow (cs':=txZ);have B5:Below w.heap.size w (w4.setRow (w.heap.size+1+1) txZ):=Below.setRow B4 (by omega) _
  obtain⟨W5,hW5⟩:∃W5,W5=w4.setRow (w.heap.size+1+1) txZ:=⟨_,rfl⟩;rw[←hW5]at hst bT5 B5;rw[hw4]at hst;clear hG hW5 bT4 bT3 hw4 hFB;go_wp2_with (first|(refine z0A rfl 50 _ rfl txZ Tryz.builtTxZ ?_)|(refine z01 rfl _ _ _ rfl _ _ rfl rfl hst ?_))
  refine bodyPost_ret (z08 (cs:=txZ) rfl rfl rfl bT5 underlying50 rfl) rfl ?_;exact⟨B5,GE,(HBE.out _).2 (.inr (.inl ⟨HE.out,HN.out,rfl⟩)),.inl ⟨HN.out,rfl⟩⟩
 subst hG;have cL3:=bL3.cells;have lL3:=bL3.lt;go_wp2_with fail
 rw[←hw4,←hFB];clear hw4 hFB bT3 bD3 bL3 bR3 B3 cL3 lL3;have cF:=bF4.cells;have lF:=bF4.lt;have cL:=bL4.cells;have lL:=bL4.lt;obtain⟨w5,ca,hcv,hb5,hR5⟩:=zaN w4 fd;have z4:=B4.size;have hdec:=z9L s j i (some ⟨w4.heap.size,0,none⟩) ca (strL fd) (by rw[z17];omega) (z14 fd) w5 hR5
 rw[z17]at hdec;have bT5:=bT4.belowAll hb5;have bD5:=bD4.belowAll hb5;have bL5:=bL4.belowAll hb5;have bF5:=bF4.belowAll hb5;have bR5:=bR4.belowAll hb5;have B5:=B4.trans (hb5.mono z4);clear z4;go_simp;go_wp2_with fail
 refine hdec.mono ?_;rintro e w6 ⟨hb6,hd6⟩;have bT6:=bT5.belowAll hb6;have bD6:=bD5.belowAll hb6;have bL6:=bL5.belowAll hb6;have bF6:=bF5.belowAll hb6;have bR6:=bR5.belowAll hb6;have B6:=B5.trans (hb6.mono B5.size);have z5:=B5.size;have zT:=bT5.lt;have cF:=bF6.cells;have lF:=bF6.lt;clear hdec hb6 bF5 bT5 bD5 bL5 bR5 B5 hb5 hR5 hcv cL lL bF4 bT4 bD4 bL4 bR4 B4;rcases hd6 with ⟨hne,-⟩|⟨-,h96,rfl⟩|⟨-,h96,hna,rfl⟩|⟨-,h96,hna,g,rfl,hg,hR6⟩
 ·exact absurd HRG.out hne
 ·have HX:Hid (¬(z3P fd (rgB s j i).toNat∧fk=5)):=zhs fun hh=>h96 hh.1.1
  have hk':(fk != 5)=true∨(fk != 5)=false:=by cases (fk != 5)<;>simp
  have hst:=z0q (ty:=50) (vs:=txZ) (bT6.alloc (.cells #[.int .i64 0,.int .i64 0,.int .i64 0,.slice none 0 0] 47)) rfl (by simp[txZ,txR,Value.oneCell']) (by kernel_rfl)
  have bT7:=(bT6.alloc (.cells #[.int .i64 0,.int .i64 0,.int .i64 0,.slice none 0 0] 47)).setRow (cs':=txZ);have B7:=Below.setRow (B6.alloc B6.size (.cells #[.int .i64 0,.int .i64 0,.int .i64 0,.slice none 0 0] 47)) (g:=w.heap.size+1+1) (by omega) txZ
  obtain⟨W7,hW7⟩:∃W7,W7=(w6.alloc (.cells #[.int .i64 0,.int .i64 0,.int .i64 0,.slice none 0 0] 47)).setRow (w.heap.size+1+1) txZ:=⟨_,rfl⟩;rw[←hW7]at hst bT7 B7;clear hW7 bT6 bD6 bL6 bR6 h96;rcases hk' with hk'|hk' <;>
  ·go_wp2_with (first|(refine z0A rfl 50 _ rfl txZ Tryz.builtTxZ ?_)|(refine z01 rfl _ _ _ rfl _ _ rfl rfl hst ?_))
   refine bodyPost_ret (z08 (cs:=txZ) rfl rfl rfl bT7 underlying50 rfl) rfl ?_;exact⟨B7,6,(HBE.out _).2 (.inr (.inr (.inl ⟨HE.out,by first|trivial|rfl,HX.out,rfl⟩))),.inl ⟨by decide,rfl⟩⟩
 ·have HX:Hid (¬(z3P fd (rgB s j i).toNat∧fk=5)):=zhs fun hh=>hna hh.1.2
  have hk':(fk != 5)=true∨(fk != 5)=false:=by cases (fk != 5)<;>simp
  have hst:=z0q (ty:=50) (vs:=txZ) (bT6.alloc (.cells #[.int .i64 0,.int .i64 0,.int .i64 0,.slice none 0 0] 47)) rfl (by simp[txZ,txR,Value.oneCell']) (by kernel_rfl)
  have bT7:=(bT6.alloc (.cells #[.int .i64 0,.int .i64 0,.int .i64 0,.slice none 0 0] 47)).setRow (cs':=txZ);have B7:=Below.setRow (B6.alloc B6.size (.cells #[.int .i64 0,.int .i64 0,.int .i64 0,.slice none 0 0] 47)) (g:=w.heap.size+1+1) (by omega) txZ
  obtain⟨W7,hW7⟩:∃W7,W7=(w6.alloc (.cells #[.int .i64 0,.int .i64 0,.int .i64 0,.slice none 0 0] 47)).setRow (w.heap.size+1+1) txZ:=⟨_,rfl⟩;rw[←hW7]at hst bT7 B7;clear hW7 bT6 bD6 bL6 bR6 h96 hna;rcases hk' with hk'|hk' <;>
  ·go_wp2_with (first|(refine z0A rfl 50 _ rfl txZ Tryz.builtTxZ ?_)|(refine z01 rfl _ _ _ rfl _ _ rfl rfl hst ?_))
   refine bodyPost_ret (z08 (cs:=txZ) rfl rfl rfl bT7 underlying50 rfl) rfl ?_;exact⟨B7,6,(HBE.out _).2 (.inr (.inr (.inl ⟨HE.out,by first|trivial|rfl,HX.out,rfl⟩))),.inl ⟨by decide,rfl⟩⟩
 have HMO:Hid (z3P fd (rgB s j i).toNat):=zhs ⟨h96,hna⟩;clear h96 hna;obtain⟨NB,hNB⟩:∃NB,NB=(rgB s j i).toNat:=⟨_,rfl⟩;rw[←hNB]at hR6 HMO HBE ⊢;have HNB:=zhs hNB;clear hNB;by_cases hk:fk=5
 rotate_left
 ·have HX:Hid (¬(z3P fd NB∧fk=5)):=zhs fun hh=>hk hh.2
  have hk':(fk != 5)=true:=by simpa using hk
  have hst:=z0q (ty:=50) (vs:=txZ) (bT6.alloc (.cells #[.int .i64 s,.int .i64 j,.int .i64 i,.slice (some ⟨g,0,none⟩) NB NB] 47)) rfl (by simp[txZ,txR,Value.oneCell']) (by kernel_rfl)
  have bT7:=(bT6.alloc (.cells #[.int .i64 s,.int .i64 j,.int .i64 i,.slice (some ⟨g,0,none⟩) NB NB] 47)).setRow (cs':=txZ);have B7:=Below.setRow (B6.alloc B6.size (.cells #[.int .i64 s,.int .i64 j,.int .i64 i,.slice (some ⟨g,0,none⟩) NB NB] 47)) (g:=w.heap.size+1+1) (by omega) txZ
  obtain⟨W7,hW7⟩:∃W7,W7=(w6.alloc (.cells #[.int .i64 s,.int .i64 j,.int .i64 i,.slice (some ⟨g,0,none⟩) NB NB] 47)).setRow (w.heap.size+1+1) txZ:=⟨_,rfl⟩;rw[←hW7]at hst bT7 B7;clear hW7 bT6 bD6 bL6 bR6 hk hR6;go_wp2_with (first|(refine z0A rfl 50 _ rfl txZ Tryz.builtTxZ ?_)|(refine z01 rfl _ _ _ rfl _ _ rfl rfl hst ?_))
  refine bodyPost_ret (z08 (cs:=txZ) rfl rfl rfl bT7 underlying50 rfl) rfl ?_;exact⟨B7,6,(HBE.out _).2 (.inr (.inr (.inl ⟨HE.out,by first|trivial|rfl,HX.out,rfl⟩))),.inl ⟨by decide,rfl⟩⟩
 subst hk;obtain⟨w7,hw7⟩:∃w7,w7=w6.alloc (.cells #[.int .i64 s,.int .i64 j,.int .i64 i,.slice (some ⟨g,0,none⟩) NB NB] 47):=⟨_,rfl⟩;obtain⟨SB,hSB⟩:∃SB,SB=w6.heap.size:=⟨_,rfl⟩;have hb7:Below w6.heap.size w6 w7:=by rw[hw7];exact(zho _ _).alloc (zhT _) _
 have bS7:Blk w7 SB 47 #[.int .i64 s,.int .i64 j,.int .i64 i,.slice (some ⟨g,0,none⟩) NB NB]:=by rw[hw7,hSB];exact Blk.new _ _ _
 have bT7:=bT6.belowAll hb7;have bD7:=bD6.belowAll hb7;have bL7:=bL6.belowAll hb7;have bR7:=bR6.belowAll hb7;have B7:=B6.trans (hb7.mono B6.size);have hR7:=hR6.below hb7;go_upto_region 10 with fail
 rw[←hw7,←hSB];have hgT:g≠w.heap.size+1+1:=by omega
 clear hw7 hSB hb7 bT6 bD6 bL6 bR6 hR6 B6 cF lF bF6;have cD:=bD7.cells;have lD:=bD7.lt;have cL:=bL7.cells;have lL:=bL7.lt;have cR:=bR7.cells;have lR:=bR7.lt;have cS:=bS7.cells;have lS:=bS7.lt;obtain⟨tx,htx⟩:∃tx,tx=txR (some ⟨S,0,none⟩) x.stable.length c C0 nc cc x.taken x.power x.off s j i 1 (1+j) (2+j) (2+j+i) (s - (2+j+i)) (some ⟨g,0,none⟩) NB NB (some ⟨g,0,none⟩) NB NB none 0 0 false false false:=⟨_,rfl⟩;have hbt:=Tryz.builtTxR (some ⟨S,0,none⟩) x.stable.length c C0 nc cc x.taken x.power x.off s j i 1 (1+j) (2+j) (2+j+i) (s - (2+j+i)) (some ⟨g,0,none⟩) NB NB;rw[←htx]at hbt;have hszt:tx.size=25:=by rw[htx];rfl
 have hst:=z0q (ty:=50) (vs:=tx) bT7 (by rw[hszt];rfl) (by rw[htx];simp[txR,Value.oneCell']) (by rw[hszt];kernel_rfl)
 have bT8:=bT7.setRow (cs':=tx);have B8:=Below.setRow B7 (g:=w.heap.size+1+1) (by omega) tx
 have hR8:Reads (w7.setRow (w.heap.size+1+1) tx) (some ⟨g,0,none⟩) ((decS (strL fd) NB 768).map .bool):=by
  rcases hR7 with h0|⟨b,off,he,hl,hc⟩
  ·exact .inl h0
  ·cases he;exact .inr ⟨g,0,rfl,by simpa using hl,fun k v hv=>(World.cell?_of_block (w:=w7) (a:=⟨g,0+k,none⟩) (z0b _ _ _ _ (show g≠w.heap.size+1+1 from hgT))).trans (hc k v hv)⟩
 obtain⟨W8,hW8⟩:∃W8,W8=w7.setRow (w.heap.size+1+1) tx:=⟨_,rfl⟩;rw[←hW8]at hst bT8 B8 hR8;have HT:=zhs htx;have HS:=zhs hszt;clear hW8 htx hszt;go_wp2_with (first|(refine z0A rfl 50 _ rfl tx (by refine(congrArg (prog.built 50) ?_).trans hbt;rfl) ?_)|(refine z01 rfl _ _ _ rfl _ _ rfl rfl hst ?_))
 refine bodyPost_ret (z08 (cs:=tx) rfl rfl rfl bT8 underlying50 (by rw[HS.out];rfl)) rfl ?_
 exact⟨B8,0,(HBE.out _).2 (.inr (.inr (.inr ⟨HE.out,by first|trivial|rfl,HMO.out,by first|trivial|rfl,rfl⟩))),.inr ⟨rfl,g,zhS z5 hg,by rw[HT.out,HNB.out],by rw[←HNB.out,←HFR.out];exact hR8⟩⟩
end Go.Proofs.YtejmknghkbobnaaGreatDoor
