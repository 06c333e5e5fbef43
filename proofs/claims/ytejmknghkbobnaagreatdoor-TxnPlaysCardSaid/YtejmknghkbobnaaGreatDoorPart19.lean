import Derived.Test.YtejmknghkbobnaaGreatDoorPart00
import Derived.Test.YtejmknghkbobnaaGreatDoorPart18
set_option linter.unusedVariables false
set_option linter.unusedSimpArgs false
set_option maxRecDepth 100000
set_option maxHeartbeats 8000000
namespace Go.Proofs.YtejmknghkbobnaaGreatDoor
open Go.Proofs.Tryz
open Go.RowKit Go.Shelf
attribute [local go_sem] Oper.semAt_some
theorem zaQ (s j i near:Int)(A:Option Addr)(n c:Nat)(w:World):
  Calls prog 171 #[.agg #[.int .i64 s,.int .i64 j,.int .i64 i,.slice A n c],.int .i64 near] w fun e w'=>
   e=.returned (.func (.func 217) #[] #[.pointer (some ⟨w.heap.size,0,none⟩),.pointer (some ⟨w.heap.size+1,0,none⟩)]) ∧
   w'=(w.alloc (.cells #[.int .i64 s,.int .i64 j,.int .i64 i,.slice A n c] 47)).alloc (.cells #[.int .i64 near] 3):=by
 have hmf:∀(fn:Fn) (first cap:Array Value) (w:World),(Instr.makeFunc fn first cap).run prog w=.ok (.func fn first cap) w:=fun _ _ _ _=>rfl
 go_enter func171,ntmps171
 go_wp2
 go_ret
 exact⟨rfl,rfl⟩
theorem z7l (F:Fence)(n:Nat)(h7:F.fn 217)(hro:F.round=none)(hn:1≤n)(Bs Bn n₀:Nat)(s j i:Int)(A:Option Addr)(c near:Nat)(us:List Bool)(hnear:near<us.length)(hus:us.length≤1000)
  (w:World) (bs:List Nat) (xBs:Bs∉bs) (xBn:Bn∉bs) (hBs:Bs<n₀) (hBn:Bn<n₀) (hn₀:n₀≤w.heap.size)
  (b0:Blk w Bs 47 #[.int .i64 s,.int .i64 j,.int .i64 i,.slice A us.length c]) (b1:Blk w Bn 3 #[.int .i64 near])
  (b off:Nat) (hA:A=some ⟨b,off,none⟩) (hb:b<n₀) (xb:b∉bs) (hcs:∀k (h:k<us.length),w.cell? ⟨b,off+k,none⟩=some (.bool us[k])):
  SeqStopsK F n prog 217 #[.pointer (some ⟨Bs,0,none⟩),.pointer (some ⟨Bn,0,none⟩)] (fun x:Int=>#[Value.int .i64 x]) (KeepEx n₀ bs) (fun ys=>ys=z1Y us near)
   (fun pre=>∃k,k≤us.length∧pre=z0r us near k) us.length w:=fun l J Jx W hW _ _ hY h0=>by
 refine zeB F n h7 hro hn l Bs Bn n₀ s j i A c near us hnear hus hBs hBn bs xBs xBn J Jx (fun pre x W h hl _ _=>hY pre x W h hl) W (b0.belowAll hW).cells ?_ b off hA hb xb ?_ h0
 ·have:=(b1.belowAll hW).cells 0
  simpa using this
 ·intro k h;exact(hW.cell (p:=⟨b,off+k,none⟩) (by show b<_;omega)).trans (hcs k h)
def z0g (us:List Bool)(near many:Nat):List Int:=(z1Y us near).take many
theorem z6j (us:List Bool)(near k m:Nat)(h:k≤m):z0r us near k <+: z0r us near m:=by
 unfold z0r;obtain⟨d,rfl⟩:∃d,m=k+d:=⟨m - k,by omega⟩
 rw[List.range_add,List.filter_append,List.map_append];exact List.prefix_append _ _
theorem z7n {us:List Bool}{near many:Nat}(h:(z1Y us near).length≤many):z0g us near many=z1Y us near:=List.take_of_length_le h
theorem z9A {us:List Bool}{near many k:Nat}{pre:List Int}{x:Int}(hk:k≤us.length)(h:z0r us near k=pre++[x])(hl:pre.length=many):z0g us near many=pre:=by
 obtain⟨r,hr⟩:=z6j us near k us.length hk;unfold z0g z1Y;rw[←hr,h,←hl];simp
theorem z3s {us:List Bool}{near many:Nat}(h0:0<us.length):∀b∈z0g us near many,0≤b∧b<(us.length:Int):=by
 intro b hb;have hb:=List.mem_of_mem_take hb;unfold z1Y z0r at hb;simp only[List.mem_map]at hb;obtain⟨k,_,rfl⟩:=hb;exact⟨Int.emod_nonneg _ (by omega),Int.emod_lt_of_pos _ (by omega)⟩
theorem z0G {W:World}{base:Nat}{e:TypeId}{size:Nat}{v:Value}{k:Nat}{xs:List Value}(h:W.ownsRow base e size v k xs):∃a cap,v=.slice a k cap:=by
 rcases h.2 with ⟨rfl,rfl⟩|⟨g,cap,_,rfl,_⟩
 ·exact⟨_,_,rfl⟩
 ·exact⟨_,_,rfl⟩
def z7E (B base:Nat)(l:List Int)(W:World):Prop:=
 ∃v,Boxed W B 53 v∧W.ownsRow base 3 1 v l.length (l.map (Value.int .i64))∧(v=.slice none 0 0↔l=[])
theorem z61 (B base C:Nat):OwnFrom C (fun (l:List Int) W=>z7E B base l W):=
 Own.from (holdsRow_own base B 53 3 1 (fun l:List Int=>l.length) (fun l=>l.map (Value.int .i64)) (fun l v=>v=.slice none 0 0↔l=[])) C
theorem Tryz.info3:(prog.info? 3).map (fun i=>(i.zero,i.size,i.bytes))=some (some (.int .i64 0),1,8):=by kernel_rfl
def z5U (s j i:Int)(A:Option Addr)(c near many:Nat)(us:List Bool)(w:World)(e:Ending)(w':World):Prop:=
 Below w.heap.size w w'∧(((z1Y us near).length<many∧e=.returned (.tuple #[.agg #[.int .i64 s,.int .i64 j,.int .i64 i,.slice A us.length c],.slice none 0 0,.int .i64 11])) ∨
  (many≤(z1Y us near).length∧∃g cap av cv,e=.returned (.tuple #[.agg #[.int .i64 s,.int .i64 j,.int .i64 i,.slice (some ⟨g,0,none⟩) us.length cap],.slice av (z0g us near many).length cv,.int .i64 0]) ∧
   w'.ownsRow w.heap.size 4 1 (.slice (some ⟨g,0,none⟩) us.length cap) us.length ((z0M us (z0g us near many) true).map .bool) ∧
   w'.ownsRow w.heap.size 3 1 (.slice av (z0g us near many).length cv) (z0g us near many).length ((z0g us near many).map (.int .i64))))
theorem zbO (s j i:Int)(A:Option Addr)(c near many:Nat)(us:List Bool)(hnear:near<us.length)(hus:us.length≤1000)(w:World)
  (hR:Reads w A (us.map .bool)) (hE:CkE s j i us.length=0):
  Calls prog 95 #[.agg #[.int .i64 s,.int .i64 j,.int .i64 i,.slice A us.length c],.int .i64 near,.int .i64 many] w (z5U s j i A c near many us w):=by
 refine z2U func95 rfl ?_;simp only[ntmps95,List.size_toArray,zhO,zhP,Nat.reduceAdd,Nat.reduceSub,Array.replicate_succ,Array.replicate_zero,List.push_toArray,List.append_toArray,zi3,List.cons_append];have HE:=zhs hE;clear hE;have hE':(CkE s j i us.length != 0)=false:=by simp[HE.out]
 have hm0:decide ((many:Int)<0)=false:=by simp
 have hO':outB near 0 ((us.length:Int) - 1)=false:=z2e (by omega)
 go_wp2_with fail
 refine(z23 s j i A us.length c _ (by unfold maxLen;omega)).mono ?_
 rintro e w1 ⟨rfl,hb1⟩;have bS:Blk w1 w.heap.size 47 #[.int .i64 s,.int .i64 j,.int .i64 i,.slice A us.length c]:=Blk.belowAll (by (repeat' (first|(with_reducible assumption)|exact Blk.new' (by simp)|refine Blk.alloc ?_ _))) hb1
 have bM:Blk w1 (w.heap.size+1) 3 #[.int .i64 many]:=Blk.belowAll (by (repeat' (first|(with_reducible assumption)|exact Blk.new' (by simp)|refine Blk.alloc ?_ _))) hb1
 have bR:Blk w1 (w.heap.size+2) 47 #[.int .i64 0,.int .i64 0,.int .i64 0,.slice none 0 0]:=Blk.belowAll (by (repeat' (first|(with_reducible assumption)|exact Blk.new' (by simp)|refine Blk.alloc ?_ _))) hb1
 have bL:Blk w1 (w.heap.size+3) 53 #[.slice none 0 0]:=Blk.belowAll (by (repeat' (first|(with_reducible assumption)|exact Blk.new' (by simp)|refine Blk.alloc ?_ _))) hb1
 replace hb1:Below w.heap.size w w1:=z9q (z1E hb1)
 have cS:=bS.cells;have cM:=bM.cells;have cR:=bR.cells;have cL:=bL.cells;go_wp2_with (first
  | (go_at_call 172;refine(z1f _ _ _ _).mono ?_;rintro e w' ⟨rfl,rfl⟩)
  | (go_at_call 171;refine(zaQ _ _ _ _ _ _ _ _).mono ?_;rintro e w' ⟨rfl,rfl⟩))
 obtain⟨b,off,hA,hb,_⟩:=hR.at_ (k:=0) (by simp;omega)
 have hcs:∀k (h:k<us.length),w.cell? ⟨b,off+k,none⟩=some (.bool us[k]):=by
  intro k h;obtain⟨b',off',hA',_,hc'⟩:=hR.at_ (k:=k) (by simpa using h)
  rw[hA]at hA';simp only[Option.some.injEq,Addr.mk.injEq,and_true]at hA';obtain⟨rfl,rfl⟩:=hA';rw[hc',List.getElem_map]
 have HA:=zhs hA;clear hA;obtain⟨i0,hi,hz0,hz1,hz2⟩:=info_parts Tryz.info3;have hz:w.heap.size+3<w1.heap.size:=bL.lt;obtain⟨W1,hW1⟩:∃W1,W1=(w1.alloc (.cells #[.int .i64 s,.int .i64 j,.int .i64 i,.slice A us.length c] 47)).alloc (.cells #[.int .i64 near] 3):=⟨_,rfl⟩;rw[←hW1];have bS1:Blk W1 w.heap.size 47 #[.int .i64 s,.int .i64 j,.int .i64 i,.slice A us.length c]:=by rw[hW1];exact(bS.alloc _).alloc _
 have bM1:Blk W1 (w.heap.size+1) 3 #[.int .i64 many]:=by rw[hW1];exact(bM.alloc _).alloc _
 have bR1:Blk W1 (w.heap.size+2) 47 #[.int .i64 0,.int .i64 0,.int .i64 0,.slice none 0 0]:=by rw[hW1];exact(bR.alloc _).alloc _
 have bL1:Boxed W1 (w.heap.size+3) 53 (.slice none 0 0):=by rw[hW1];exact(bL.alloc _).alloc _
 have bI0:Blk W1 w1.heap.size 47 #[.int .i64 s,.int .i64 j,.int .i64 i,.slice A us.length c]:=by rw[hW1];exact(Blk.new _ _ _).alloc _
 have bI1:Blk W1 (w1.heap.size+1) 3 #[.int .i64 near]:=by rw[hW1];exact Blk.new' (by simp)
 have hB1:Below w.heap.size w W1:=by rw[hW1];exact(hb1.alloc hb1.size _).alloc (by simp;omega) _
 have hs1:W1.heap.size=w1.heap.size+2:=by rw[hW1];simp
 have hcs1:∀k (h:k<us.length),W1.cell? ⟨b,off+k,none⟩=some (.bool us[k]):=fun k h=>(hB1.cell (p:=⟨b,off+k,none⟩) hb).trans (hcs k h)
 clear hW1 bS bM bR bL cS cM cR cL hb1 hcs;have HCS:=zhs hcs1;have HHI:=zhs hi;clear hcs1;refine z4Q (n:=6) (fun D W=>W.heap[D]?=some (.deferred (some []))∧w1.heap.size+2≤D∧z7E (w.heap.size+3) (w1.heap.size+2) (z0g us near many) W∧KeepEx (w1.heap.size+2) [w.heap.size+3] W1 W) ?loop ?after
 case loop=>
  refine wpIn_rangeFunc_ownG rfl (by omega) (gf:=217) (lb:=#[.pointer (some ⟨w1.heap.size,0,none⟩),.pointer (some ⟨w1.heap.size+1,0,none⟩)]) rfl trivial (enters_of func217 (by kernel_rfl) rfl)
   (z7l Fence.wide (6 - 1) trivial rfl (by omega) w1.heap.size (w1.heap.size+1) (w1.heap.size+2) s j i A c near us hnear hus W1 [w.heap.size+3] (by simp;omega) (by simp;omega) (by omega) (by omega) (by omega) bI0 bI1 b off HA.out (by omega) (by simp;omega) HCS.out)
   zb6 (zaM (by omega)) (zho _ _) (fun _=>rfl)
   (fun pre W=>(z7E (w.heap.size+3) (w1.heap.size+2) pre W∧KeepEx (w1.heap.size+2) [w.heap.size+3] W1 W)∧pre.length≤many)
   (fun c pre W=>c=.exit 0∧∃pre' x,pre=pre'++[x]∧pre'.length=many∧z7E (w.heap.size+3) (w1.heap.size+2) pre' W∧KeepEx (w1.heap.size+2) [w.heap.size+3] W1 W)
   (OwnFrom.and (OwnFrom.and (z61 _ _ _) (z2i (by omega) (by omega))) z87)
   (fun c s X Y row hs hg hr=>by
    obtain⟨hc,p,x,hp,hl,hx,hk⟩:=hs;exact⟨hc,p,x,hp,hl,z61 _ _ _ p X Y row hx hg hr,z2i (β:=Unit) (by omega) (by omega) () X Y row hk hg hr⟩)
   ⟨⟨⟨_,bL1,World.ownsRow_nil _ _ _ _,by simp⟩,KeepEx.refl _ _ _⟩,by simp⟩
   (fun x=>{ tmps:=#[.agg #[.int .i64 s,.int .i64 j,.int .i64 i,.slice A us.length c],.int .i64 near,.int .i64 many,.pointer (some ⟨w.heap.size,0,none⟩),undef,.pointer (some ⟨w.heap.size+1,0,none⟩),.pointer (some ⟨w.heap.size+1+1,0,none⟩),.pointer (some ⟨w.heap.size+1+1+1,0,none⟩),.int .i64 0,.int .i64 (CkE s j i us.length),.int .i64 x,
    .agg #[.int .i64 s,.int .i64 j,.int .i64 i,.slice A us.length c],.int .i64 (CkE s j i us.length),.int .i64 (CkE s j i us.length),.bool false,undef,undef,.int .i64 near,.pointer (some ⟨w.heap.size,3,none⟩),.slice A us.length c,.int .i64 us.length,.int .i64 (us.length - 1),.bool false,.bool false,.int .i64 many,.bool false,.bool false,undef,
    .agg #[.int .i64 s,.int .i64 j,.int .i64 i,.slice A us.length c],.int .i64 near,.func (.func 217) #[] #[.pointer (some ⟨w1.heap.size,0,none⟩),.pointer (some ⟨w1.heap.size+1,0,none⟩)],.int .i64 x,undef,undef,undef,undef,undef,undef,undef,undef,undef,undef,undef,undef,undef,undef,undef,undef,undef],defers:=[] }) ?assign ?body ?done ?stop
  case assign=>
   intro l x W K hK;gi_wp2
   exact hK
  case body=>
   rintro l pre x W ⟨⟨⟨v,hv,hrow,hnil⟩,hK⟩,hm⟩ hlt;have cM:=(hK.blk bM1 (by omega) (by simp)).cells
   obtain⟨av,cv,rfl⟩:=z0G hrow;have hc:=hv.cell;have hf:=hv.frozen;have hsz:=hK.size;have HN:=zhs hnil;clear hnil;by_cases he:pre.length=many
   ·have hd:((pre.length:Int)==(many:Int))=true:=by simp[he]
    have HE2:=zhs he;clear he;gi_wp2
    exact⟨KeepsFrom.refl _ _,rfl,pre,x,rfl,HE2.out,⟨_,hv,hrow,HN.out⟩,hK⟩
   ·have hd:((pre.length:Int)==(many:Int))=false:=by simp;omega
    have hi:=HHI.out;gi_wp2_with (gi_at_builtin;refine wpListIn_append_own _ rfl _ _ 53 rfl (w1.heap.size+2) 3 i0 (.int .i64 0) 1 8 underlying53 hi hz0 hz1 hz2 rfl (by decide) _ _ _ rfl (hrow.alloc _) ⟨W.heap.size,0,none⟩ 1 1 [.int .i64 x] rfl rfl (cell_one_new _ _ _) (by simp[Value.oneCell']) (by simp only[maxLen];omega) (by omega) (by simp;omega) ?_;intro v' w2 hown' hgrow _;obtain⟨g',cap',rfl⟩:=ownsRow_succ hown';obtain⟨hv1,hv2,hr2,hk2,hb2⟩:=z5m hv hrow (by omega) (by omega) hown' hgrow;have hc1:=hv1.cell;have hf1:=hv1.frozen)
    exact⟨hk2.from _,hb2,⟨⟨_,hv2,by simpa using hr2,by simp⟩,hK.trans hb2⟩,by simp;omega⟩
  case done=>
   rintro D ys W hD rfl ⟨⟨hbox,hK⟩,hm⟩ hKd;exact⟨.inl rfl,D,rfl,hKd,by omega,by rw[z7n hm];exact hbox,hK⟩
  case stop=>
   rintro D c pre W hD ⟨k,hk,hpre⟩ ⟨rfl,pre',x,hp,hl,hbox,hK⟩ hKd;exact wpIn_exit ⟨.inr rfl,D,rfl,hKd,by omega,by rw[z9A hk (hpre.symm.trans hp) hl];exact hbox,hK⟩
 case after=>
  rintro D W ⟨hKd,hD,⟨v,hv,hrow,hnil⟩,hK⟩;obtain⟨av,cv,rfl⟩:=z0G hrow;have bS2:=hK.blk bS1 (by omega) (by simp)
  have bM2:=hK.blk bM1 (by omega) (by simp)
  have bR2:=hK.blk bR1 (by omega) (by simp)
  have cS:=bS2.cells;have cM:=bM2.cells;have cR:=bR2.cells;have fR:=bR2.free;have hc:=hv.cell;have hf:=hv.frozen;have hsz:=hK.size;have hBW:Below w.heap.size w W:=hB1.trans (hK.toBelow (by omega) (by simp))
  have hlen:(z0g us near many).length=min many (z1Y us near).length:=by simp[z0g]
  have HLEN:=zhs hlen;have hll:(z0g us near many).length≤many:=by omega
  clear hlen hB1 bS1 bM1 bR1 bL1 bI0 bI1;have hlm:(z0g us near many).length≤1000:=by rw[HLEN.out];have:=z31 us near us.length;unfold z1Y;omega
  have HIN:=zhs (z3s (us:=us) (near:=near) (many:=many) (by omega))
  by_cases hfew:(z1Y us near).length<many
  ·have hd:decide ((z0g us near many).length<many)=true:=by simp;rw[HLEN.out];omega
   have HNE:=zhs (by rw[HLEN.out];omega:(z0g us near many).length≠many)
   go_wp2
   refine z6t (C:=bodyPostM Fence.wide 9 prog Tryz.f95 (z5U s j i A c near many us w) Exit.ret _)
    (F:=fun Wf=>Blk Wf (w.heap.size+2) 47 #[.int .i64 s,.int .i64 j,.int .i64 i,.slice A us.length c]∧Blk Wf (w.heap.size+3) 53 #[.slice none 0 0]∧Wf.heap[D]?=some (.deferred (some []))∧Below w.heap.size w Wf) ?_ ?_
   ·refine⟨((((bR2.set_ 0 _).set_ 1 _).set_ 2 _).set_ 3 _).far (by simp) _,Blk.set_ ((((Blk.far hv (by simp) _).far (by simp) _).far (by simp) _).far (by simp) _) 0 _,?_,by (repeat' (first|with_reducible (first|exact zho _ _|assumption|refine zhp ?_ ?_ _|refine zhq ?_|refine z00 ?_ _|refine zhr ?_ ?_ _|exact zhT _)|omega|(simp;done)|(simp;omega)))⟩
    (repeat (first|(with_reducible exact hKd)|refine(Below.heap_setCell _ _ _ _ (by simp;omega)).trans ?_))
   ·clear hKd cS cM cR fR hc hf hv hrow bS2 bM2 bR2 hK;rintro Wf ⟨BR,BL,hKf,HBf⟩;have cR':=(z6D (o:=.deferred none) BR (by omega:_≠D)).cells
    have cL':=(z6D (o:=.deferred none) BL (by omega:_≠D)).cells
    refine z4G (.tuple #[.agg #[.int .i64 s,.int .i64 j,.int .i64 i,.slice A us.length c],.slice none 0 0,.int .i64 11]) hKf (by simp[results,results95,go_sem,cR',cL']) ?_
    exact⟨z4d HBf (by omega),.inl ⟨hfew,rfl⟩⟩
  ·have hd:decide ((z0g us near many).length<many)=false:=by simp;rw[HLEN.out];omega
   have HRW:Hid (Reads W.drew A (us.map .bool)):=zhs (hR.below hBW.drew);have HRI:Hid (Reads W.drew av ((z0g us near many).map (.int .i64))):=zhs ((Reads.of_own hrow).below (zho _ _).drew);go_wp2_with fail
   go_region_held3 (fun w'=>w'.cell? ⟨w.heap.size,0,none⟩=some (.int .i64 s)∧w'.cell? ⟨w.heap.size,1,none⟩=some (.int .i64 j)∧w'.cell? ⟨w.heap.size,2,none⟩=some (.int .i64 i)∧w'.cell? ⟨w.heap.size,3,none⟩=some (.slice A us.length c) ∧
     w'.cell? ⟨w.heap.size+3,0,none⟩=some (.slice av (z0g us near many).length cv))
    (first|(go_keep;done)|((try dsimp only);refine⟨?_,?_,?_,?_,?_⟩<;>(first|(go_keep;done)|(simp[go_sem, *];done))))
    ((go_at_call 173;refine(zcO s j i A av c cv us (z0g us near many) true W.drew HRW.out (by omega) hus HRI.out hlm HIN.out).mono ?_;rintro e w2 ⟨g,cap,rfl,hown2,hb2⟩;have cS:=(bS2.drew.belowAll hb2).cells;have cR:=(bR2.drew.belowAll hb2).cells;have fR:=(bR2.drew.belowAll hb2).free;have hc:=(Blk.belowAll (Blk.drew hv) hb2).cells;have hf:=(Blk.belowAll (Blk.drew hv) hb2).free))
   have bR3:=bR2.drew.belowAll hb2;have bL3:=Blk.belowAll (Blk.drew hv) hb2;have hrow3:=z0a (W:=W.drew) hrow hb2;have hK3:w2.heap[D]?=some (.deferred (some [])):=(hb2.block D (zhW.1 hKd).1).trans hKd;have hBW3:Below w.heap.size w w2:=hBW.trans ((zho _ _).drew.trans (hb2.mono hBW.size));have hz3:w1.heap.size+2≤W.heap.size:=by omega
   have hz4:w.heap.size+3<W.drew.heap.size:=by show _<W.heap.size;omega
   go_wp2
   refine z6t (C:=bodyPostM Fence.wide 9 prog Tryz.f95 (z5U s j i A c near many us w) Exit.ret _)
    (F:=fun Wf=>Blk Wf (w.heap.size+2) 47 #[.int .i64 s,.int .i64 j,.int .i64 i,.slice (some ⟨g,0,none⟩) us.length cap]∧Blk Wf (w.heap.size+3) 53 #[.slice av (z0g us near many).length cv]∧Wf.heap[D]?=some (.deferred (some []))∧Below w.heap.size w Wf ∧
     Wf.ownsRow W.drew.heap.size 4 1 (.slice (some ⟨g,0,none⟩) us.length cap) us.length ((z0M us (z0g us near many) true).map .bool) ∧
     Wf.ownsRow (w1.heap.size+2) 3 1 (.slice av (z0g us near many).length cv) (z0g us near many).length ((z0g us near many).map (.int .i64))) ?_ ?_
   ·refine⟨((((bR3.set_ 0 _).set_ 1 _).set_ 2 _).set_ 3 _).far (by simp) _,Blk.set_ ((((Blk.far bL3 (by simp) _).far (by simp) _).far (by simp) _).far (by simp) _) 0 _,?_,by (repeat' (first|with_reducible (first|exact zho _ _|assumption|refine zhp ?_ ?_ _|refine zhq ?_|refine z00 ?_ _|refine zhr ?_ ?_ _|exact zhT _)|omega|(simp;done)|(simp;omega))),?_,?_⟩
    ·(repeat (first|(with_reducible exact hK3)|refine(Below.heap_setCell _ _ _ _ (by simp;omega)).trans ?_))
    ·(repeat (first|(with_reducible exact hown2)|refine ownsRow_setCell_below ?_ (by simp;omega) _))
    ·(repeat (first|(with_reducible exact hrow3)|refine ownsRow_setCell_below ?_ (by simp;omega) _))
   ·clear hKd cS cM cR fR hc hf hv hrow bS2 bM2 bR2 hK bR3 bL3 hrow3 hK3 hown2;rintro Wf ⟨BR,BL,hKf,HBf,HO1,HO2⟩;have cR':=(z6D (o:=.deferred none) BR (by omega:_≠D)).cells
    have cL':=(z6D (o:=.deferred none) BL (by omega:_≠D)).cells
    refine z4G (.tuple #[.agg #[.int .i64 s,.int .i64 j,.int .i64 i,.slice (some ⟨g,0,none⟩) us.length cap],.slice av (z0g us near many).length cv,.int .i64 0]) hKf (by simp[results,results95,go_sem,cR',cL']) ?_
    exact⟨z4d HBf (by omega),.inr ⟨by omega,g,cap,av,cv,rfl,z0D (ownsRow_putObj HO1 _ hKf rfl) (by omega),z0D (ownsRow_putObj HO2 _ hKf rfl) (by omega)⟩⟩
end Go.Proofs.YtejmknghkbobnaaGreatDoor
