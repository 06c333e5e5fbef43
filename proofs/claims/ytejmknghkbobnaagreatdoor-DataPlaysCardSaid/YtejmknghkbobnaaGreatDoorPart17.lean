import Derived.Test.YtejmknghkbobnaaGreatDoorPart16
set_option linter.all false
set_option maxRecDepth 100000
set_option maxHeartbeats 0
namespace Go.Proofs.YtejmknghkbobnaaGreatDoor
open Go.Proofs.Tryz
open Go.RowKit Go.Maps
theorem gI {c:Func}{tmps:Array Value}{W:World}{R m n:Nat}{t:TypeId}{E:Int}{v:Value}(J:c.results=#[.tmp m,.cell n t])(A:tmps.getD m undef=v)(D:tmps.getD n undef=.pointer (some ⟨R,0,none⟩))(K:t=28)(I:W.cell? ⟨R,0,none⟩=some (.int .i64 E)):(results c tmps).run prog W=.ok (.tuple #[v,.int .i64 E]) W:=by
 subst K;rw[Array.getD_eq_getD_getElem?]at D A;simp[results,J,D,A,go_sem,I]
def z5a (Q:Exit->Act->World->Prop):Exit->Act->World->Prop
 | .panic _,_,_=>False
 | e,a,w=>Q e a w
theorem z78 {Q:Exit->Act->World->Prop}:∀e a w,z5a Q e a w->Q e a w:=fun e a w h=>by cases e<;>first|exact h|exact h.elim
theorem z1N {P:Program}{id:Nat}{c:Array Oper}{b:Bool}{Q:Exit->Act->World->Prop}{a:Act}{w:World}(h:(Code.region id c b).wp P (z5a Q) a w):(Code.region id c b).wp P Q a w:=wp_mono h z78
def z80 (w:World)(T:Nat)(F:List Nat)(D:Nat)(E:Int)(y:TxS)(L:List Int)(e:Ending)(w':World):Prop:=
 ∃v,e=.returned (.tuple #[v,.int .i64 E])/\w'.ownsRow w.heap.size 3 1 v L.length (L.map (.int .i64))/\∃F',TxAt w' T F' D y/\Grow w F w' F'/\∀q,v.ownBlock=some q->q∉F'
theorem z9M {s j i:Int}{us:List Bool}{near many:Int}(c:CkE s j i us.length=0):AlE s j i us near many=0\/AlE s j i us near many=7\/AlE s j i us near many=11:=by
 unfold AlE;rw[if_pos c];split
 ·exact .inr (.inl rfl)
 ·split
  ·exact .inr (.inr rfl)
  ·exact .inl rfl
theorem z0u {s j i:Int}{us:List Bool}{near many:Int}(c:CkE s j i us.length=0)(h:AlE s j i us near many=0):near.toNat<us.length:=by
 unfold AlE at h;rw[if_pos c]at h;split at h
 ·cases h
 ·omega
theorem zb8 {y:TxS}{near many:Int}(c:y.mF=0)(h:AlE y.s y.j y.i y.may near many≠0):y.take near many=(AlE y.s y.j y.i y.may near many,y.brk)/\y.nC near many=[]:=by
 have e:y.nI near many=AlE y.s y.j y.i y.may near many:=by unfold TxS.nI;rw[if_pos h]
 constructor
 ·unfold TxS.take;rw[if_neg (by simpa using c),e,if_pos h]
 ·unfold TxS.nC;rw[if_neg (by simpa using c),e,if_pos h]
theorem zb9 {y:TxS}{near many:Int}(J:y.mF=0)(h:AlE y.s y.j y.i y.may near many=0)(L:List Int)(I:ay y.may near.toNat many.toNat=L):
  y.take near many=(y.mP L.length,(y.change (bg y.now L true) L.length).after (y.mP L.length))/\y.nC near many=if y.mP L.length=0 then L else []:=by
 subst I;have e:y.nI near many=y.mP (ay y.may near.toNat many.toNat).length:=by unfold TxS.nI;rw[if_neg (by simpa using h)]
 have c:¬y.mF≠0:=by simpa using J
 rcases z0c y (ay y.may near.toNat many.toNat).length with h|⟨h,D⟩
 ·have A:¬y.mP (ay y.may near.toNat many.toNat).length≠0:=by simpa using h
  constructor
  ·unfold TxS.take;rw[if_neg c,e,if_neg A,h,TxS.oQ]
  ·unfold TxS.nC;rw[if_neg c,e,if_neg A,if_pos h]
 ·have A:y.mP (ay y.may near.toNat many.toNat).length≠0:=by rw[h];decide
  constructor
  ·unfold TxS.take;rw[if_neg c,e,if_pos A,h,D,TxS.nU (by decide) (by decide) (by decide)]
  ·unfold TxS.nC;rw[if_neg c,e,if_pos A,if_neg (by rw[h];decide)]
theorem z7H (K:Value)(near many:Int)(E:Int)(w:World)(h:StE w K E)(S:E≠0):
  Calls prog 34 #[K,.int .i64 near,.int .i64 many] w fun e Y=>e=.returned (.tuple #[.slice none 0 0,.int .i64 E])/\Zr w Y:=by
 obtain⟨M,J⟩:=zex (w.alloc (.cells #[.int .i64 0] 28));have O:Blk M w.heap.size 28 #[.int .i64 0]:=by rw[J];exact zbn
 have I:Zr w M:=by rw[J];exact zgr
 have D:=dz K E M (h.below I);have V:(E != 0)=true:=by simpa using S
 clear S;go_enter_defers func34,ntmps34
 go_wp2_with fail
 rw[<-J];go_wp2_with fail
 refine D.mono ?_;rintro e w1 ⟨rfl,A⟩;have T:=I.trans (A.mono I.size);have c:=O.mD A;clear J D A O I;obtain⟨cR,lR⟩:=c.zc;have fR:=c.free;go_wp2_with fail
 have U:=(c.mG 0 (.int .i64 E)).cells;refine⟨.tuple #[.slice none 0 0,.int .i64 E],gI (m:=6) (n:=7) (t:=28) (by rfl) (by simp) (by simp) rfl ((U 0).trans rfl),rfl,?_⟩
 exact kG (p:=⟨w.heap.size,0,none⟩) T (kE _) _
theorem z9I (T:Nat)(F:List Nat)(D:Nat)(y:TxS)(near many:Int)(w:World)(h:TxAt w T F D y)(hE:y.mF=0):
  Calls prog 34 #[.pointer (some ⟨T,0,none⟩),.int .i64 near,.int .i64 many] w (z80 w T F D (y.take near many).1 (y.take near many).2 (y.nC near many)):=by
 obtain⟨wA,hA⟩:=zex (w.alloc (.cells #[.int .i64 0] 28));have bR:Blk wA w.heap.size 28 #[.int .i64 0]:=by rw[hA];exact zbn
 have BA:Zr w wA:=by rw[hA];exact zgr
 have bN:=h.below BA;have bP:=dz _ _ wA bN.st;rw[hE]at bP;have HS:=kD hE;have V:w.heap.size∉F:=h.far (kE _);have H0:Hid (0<w.heap.size):=kD (by have:=h.lt T h.TF;omega)
 have bQ:=kD (kw h.ok);have U:Hid (y.may.length=y.now.length):=kD (dm (h.ok.now.trans h.ok.was.symm));have co:Hid (y.now.length=y.was.length):=kD (h.ok.now.trans h.ok.was.symm);have bF:Hid (y.now.length<=1000):=kD (by have:=h.ok.bds;omega)
 clear hE;go_enter_defers func34,ntmps34
 go_wp2_with fail
 rw[<-hA];go_wp2_with fail
 refine bP.mono ?_;rintro e w1 ⟨rfl,br⟩;have bp:=bN.below br;have cp:=bR.mD br;have B1:=BA.trans (br.mono BA.size);clear hA bP br bR BA bN h;go_wp2_with fail
 refine(zcA T F D y w1 bp).mono ?_;rintro e w2 ⟨gm,cm,rfl,cc,bt⟩;have bq:=bp.below bt;have bJ:=cp.mD bt;have B2:=B1.trans (bt.mono B1.size);clear bt;have bZ:Calls prog 95 #[.agg #[.int .i64 y.s,.int .i64 y.j,.int .i64 y.i,.slice (some ⟨gm,0,none⟩) y.now.length cm],.int .i64 near,.int .i64 many] w2 (z7N y.s y.j y.i (some ⟨gm,0,none⟩) cm y.may near many w2):=by
  have h:=z85 y.s y.j y.i (some ⟨gm,0,none⟩) cm y.may near many w2 (by rw[U.out];exact bF.out) (Reads.ng (n:=y.may.length) (c:=cm) (by rw[U.out];exact cc))
  rwa [U.out]at h
 clear cc;go_wp2_with fail
 refine bZ.mono ?_;rintro e w3 ⟨bu,an⟩;have bM:=bq.below bu;have a7:=bJ.mD bu;have B3:=B2.trans (bu.mono B2.size);clear bZ bu;have bk:CkE y.s y.j y.i y.may.length=0:=by rw[U.out];exact bQ.out
 obtain⟨cX,d7⟩:=a7.zc;have d1:=a7.free;rcases an with ⟨a2,rfl⟩|⟨h0,g,dT,av,cv,rfl,-,cb⟩
 ·have HX:=kD (zb8 HS.out a2);have HV:=kD (z9M (near:=near) (many:=many) bk);have HN:=kD a2;rw[U.out];generalize AlE y.s y.j y.i y.may near many=E at *;have cJ:(E != 0)=true:=by simpa using a2
  clear a2 bk;go_wp2_with fail
  have cz:=a7.mG 0 (.int .i64 E);have bW:(w3.setCell ⟨w.heap.size,0,none⟩ (.int .i64 E)).drew.cell? ⟨w.heap.size,0,none⟩=some (.int .i64 E):=(cz.drew.cells 0).trans rfl;have ci:=kD bW;clear bW;refine z1N ?_;refine aj [.take 0,.take 1,.one 2] 2 (fun w'=>w'.cell? ⟨w.heap.size,0,none⟩=some (.int .i64 E)) (by kernel_rfl) (by kernel_rfl) (fun _ _ _ _ _ h=>h.elim) ci.out ?_
  simp only[kR,kS,Ms.fill,kT,kV];iterate 2 refine ztk ?_
  refine ah (by rfl) fun K hK=>?_
  go_simp;refine hK _ _ (fun h=>absurd h (by decide)) ?_
  clear hK K;refine ax ?_;unfold z5a;have cP:=(((bM.mG (p:=⟨w.heap.size,0,none⟩) V (.int .i64 E)).mG (p:=⟨w.heap.size,0,none⟩) V (.int .i64 E))).drew;have cw:=((a7.mG 0 (.int .i64 E)).mG 0 (.int .i64 E)).drew;have BS:=((B3.setCell (p:=⟨w.heap.size,0,none⟩) (kE _) (.int .i64 E)).setCell (p:=⟨w.heap.size,0,none⟩) (kE _) (.int .i64 E)).drew;go_wp2_with fail
  refine ec (E:=E) (F0:=F) cP cw V (Grow.of_below BS F) (fun W' hc _=>gI (m:=6) (n:=7) (v:=.slice none 0 0) (t:=28) (by rfl) (by simp) (by simp) rfl hc) (fun W' a1 hg _=>?_)
  rw[TxS.nU HN.out (by have:=HV.out;omega) (by have:=HV.out;omega)]at a1
  exact⟨_,by rw[HX.out.1],by rw[HX.out.2];exact World.ownsRow_nil _ _ _ _,F,by rw[HX.out.1];exact a1,hg,fun q I=>by cases I⟩
 ·have ba:=z0u bk h0;have HX:=kD (zb9 HS.out h0 _ rfl);have cT:=fj (us:=y.may) (near:=near.toNat) (many:=many.toNat) (by omega)
  have cl:Hid (TnE y.s y.j y.i y.now (ay y.may near.toNat many.toNat) true 9=0):=kD (z6f co.out bQ.out (by rw[<-U.out];exact ba))
  have cK:(ay y.may near.toNat many.toNat).length<=1000:=by
   have h1:(ay y.may near.toNat many.toNat).length<=(ew y.may near.toNat).length:=by unfold ay;rw[kX];omega
   have h2:=i6 y.may near.toNat y.may.length;have h3:=bF.out;have h4:=U.out;unfold ew at h1;omega
  generalize ay y.may near.toNat many.toNat=L at *;rw[U.out];clear ba bk h0 cT;obtain⟨w4,a6⟩:=zex (w3.setCell ⟨w.heap.size,0,none⟩ (.int .i64 0));have b1:TxAt w4 T F D y:=by rw[a6];exact bM.mG (p:=⟨w.heap.size,0,none⟩) V _
  have a8:Blk w4 w.heap.size 28 #[.int .i64 0]:=by rw[a6];exact a7.mG 0 _
  have B4:Zr w w4:=by rw[a6];exact B3.setCell (p:=⟨w.heap.size,0,none⟩) (kE _) _
  have bA:w4.ownsRow w2.heap.size 3 1 (.slice av L.length cv) L.length (L.map (.int .i64)):=by rw[a6];exact ownsRow_setCell_below cb (by have:=bJ.lt;exact this) _
  have bG:=kD a6;have c8:w4.cell? ⟨w.heap.size,0,none⟩=some (.int .i64 0):=(a8.cells 0).trans rfl;have d8:=a8.lt;have d2:=a8.free;have cQ:=bM;obtain⟨ok,⟨M,wv,nv,bT,hT,hM,cL,hO,hw,⟨A,c,rfl,hn,b7⟩⟩,lt⟩:=cQ;have cB:w3.cell? ⟨T,13,none⟩=some (.int .i64 y.s):=(bT.cells 13).trans rfl;have cC:w3.cell? ⟨T,14,none⟩=some (.int .i64 y.j):=(bT.cells 14).trans rfl;have cD:w3.cell? ⟨T,15,none⟩=some (.int .i64 y.i):=(bT.cells 15).trans rfl;have cF:w3.cell? ⟨T,16,none⟩=some (.slice A y.now.length c):=(bT.cells 16).trans rfl;have lT:=bT.lt;have b6:Reads w4 A (y.now.map .bool):=by
   rcases hn with h0|⟨b,off,he,cU,hc⟩
   ·exact .inl h0
   ·exact .inr ⟨b,off,he,by rw[bG.out];simpa using cU,fun k u hu=>by rw[bG.out];exact(World.cell?_of_block (w:=w3) (a:=⟨b,off+k,none⟩) (Below.heap_setCell w3 ⟨w.heap.size,0,none⟩ _ b (fun e=>V (by have h9:=(b7 _ he).1;have e2:b=w.heap.size:=e;subst e2;exact h9)))).trans (hc k u hu)⟩
  clear bT hT hM cL hO hw b7 lt ok cb a6 hn;go_wp2_with fail
  rw[<-bG.out];refine(zaT y.s y.j y.i A av c cv y.now L bF.out cK w4 b6 (Reads.ng bA)).mono ?_;rintro e w5 ⟨bw,an⟩;rcases an with ⟨a2,-⟩|⟨-,g2,J,rfl,bb⟩
  ·exact absurd cl.out a2
  have bS:Hid (∀q,(Value.slice av L.length cv).ownBlock=some q->q<w4.heap.size):=kD fun q I=>by
   rcases bA.2 with ⟨he,-⟩|⟨g',bC,bX,he,-,hk,-⟩
   ·rw[he]at I;cases I
   ·rw[he]at I;cases I;exact(lu.1 hk).1
  have cM:=b1.below bw;have bK:=a8.mD bw;have B5:=B4.trans (bw.mono B4.size);have b8:=aq (W:=w4) bA bw;have bB:=cH y.now L true;generalize bg y.now L true=us at *;have z1:=bp.lt T bp.TF;have en:=B2.size;have z4:=B4.size;have d6:=bb.lt g2 rfl;have cS:g2∉F:=fun O=>by have:=(b1.lt g2 O).2;omega
  have zR:=a8.lt;have cg:=bJ.lt;have g0:0<g2:=by have:=H0.out;omega
  have HG:Hid (w.heap.size<=g2):=kD (by omega)
  obtain⟨w6,Y⟩:=zex (w5.setCell ⟨w.heap.size,0,none⟩ (.int .i64 0));have b2:TxAt w6 T F D y:=by rw[Y];exact cM.mG (p:=⟨w.heap.size,0,none⟩) V _
  have bU:Blk w6 w.heap.size 28 #[.int .i64 0]:=by rw[Y];exact bK.mG 0 _
  have B6:Zr w w6:=by rw[Y];exact B5.setCell (p:=⟨w.heap.size,0,none⟩) (kE _) _
  have b5:w6.ownsRow w4.heap.size 4 1 (.slice (some ⟨g2,0,none⟩) y.now.length J) y.now.length (us.map .bool):=by rw[Y];exact ownsRow_setCell_below bb zR _
  have b9:w6.ownsRow w2.heap.size 3 1 (.slice av L.length cv) L.length (L.map (.int .i64)):=by rw[Y];exact ownsRow_setCell_below b8 cg _
  have z6:w6.heap.size=w5.heap.size:=by rw[Y];simp
  obtain⟨w7,S⟩:=zex (w6.alloc (.cells #[.int .i64 y.s,.int .i64 y.j,.int .i64 y.i,.slice (some ⟨g2,0,none⟩) y.now.length J] 47));have cN:TxAt w7 T F D y:=by rw[S];exact b2.alloc _
  have bL:Blk w7 w.heap.size 28 #[.int .i64 0]:=by rw[S];exact bU.alloc _
  have cA:Blk w7 w5.heap.size 47 #[.int .i64 y.s,.int .i64 y.j,.int .i64 y.i,.slice (some ⟨g2,0,none⟩) y.now.length J]:=by rw[S,<-z6];exact zbn
  have B7:Zr w w7:=by rw[S];exact B6.alloc B6.size _
  have cR:w7.ownsRow w4.heap.size 4 1 (.slice (some ⟨g2,0,none⟩) y.now.length J) y.now.length (us.map .bool):=by rw[S];exact aq (W:=w6) b5 ((kF _ _).alloc (kE _) _)
  have bO:w7.ownsRow w2.heap.size 3 1 (.slice av L.length cv) L.length (L.map (.int .i64)):=by rw[S];exact aq (W:=w6) b9 ((kF _ _).alloc (kE _) _)
  rw[Y]at S;have cn:=kD S;have HC:Calls prog 97 #[.pointer (some ⟨T,0,none⟩),.agg #[.int .i64 y.s,.int .i64 y.j,.int .i64 y.i,.slice (some ⟨g2,0,none⟩) y.now.length J],.slice av L.length cv] w7 fun e w'=>e=.returned (.int .i64 (y.mP L.length))/\∃F',TxAt w' T F' D (y.change us L.length)/\KeepEx w7.heap.size F w7 w'/\∀b∈F',b∈F\/b=g2:=by
   have h:=z3J T F D y g2 J L.length cv av us bB w7 cN (Reads.ng (n:=us.length) (c:=J) (by rw[bB];exact cR)) g0 cS
   rwa [bB]at h
  obtain⟨c9,ea⟩:=bK.zc;have d3:=bK.free;clear S Y z6 b2 bU B6 b5 b9 bB bb b8 bA cB cC cD cF lT b6;go_wp2_with fail
  rw[<-cn.out];obtain⟨db,cW⟩:=bL.zc;have d4:=bL.free;obtain⟨dv,ej⟩:=cA.zc;go_wp2_with fail
  refine HC.mono ?_;rintro e w8 ⟨rfl,F',b3,ac,bn⟩;have bc:Blk w8 w.heap.size 28 #[.int .i64 0]:=ac.blk bL cW V;have ao:w.heap.size∉F':=fun O=>by
   rcases bn _ O with O|O
   ·exact V O
   ·omega
  have z7:=B7.size;have G8:Grow w F w8 F':=⟨(KeepEx.of_below B7).trans ⟨ac.os,ac.tape,ac.output,ac.size,fun b hb hn=>ac.block b (by omega) hn⟩,fun b hb=>by
   rcases bn b hb with O|O
   ·exact .inl O
   ·exact .inr (by rw[O];exact HG.out)⟩
  have ca:w8.ownsRow w2.heap.size 3 1 (.slice av L.length cv) L.length (L.map (.int .i64)):=ar bO fun q I=>ac.block q (by
   rcases bO.2 with ⟨he,-⟩|⟨g',bC,bX,he,-,hk,-⟩
   ·rw[he]at I;cases I
   ·rw[he]at I;cases I;exact(lu.1 hk).1) (fun O=>by have h8:=(bO.lt q I).1;have h9:=(bq.lt q O).2;omega)
  have ck:Hid (∀q,(Value.slice av L.length cv).ownBlock=some q->q∉F'):=kD fun q I O=>by
   have h8:=(ca.lt q I).1;rcases bn q O with O|O
   ·have h9:=(bq.lt q O).2;omega
   ·have h9:=bS.out q I;omega
  have b0:∀W',Grow (w8.setCell ⟨w.heap.size,0,none⟩ (.int .i64 (y.mP L.length))) F' W' F'->W'.ownsRow w.heap.size 3 1 (.slice av L.length cv) L.length (L.map (.int .i64)):=fun W' hg=>by
   have h1:(w8.setCell ⟨w.heap.size,0,none⟩ (.int .i64 (y.mP L.length))).ownsRow w2.heap.size 3 1 (.slice av L.length cv) L.length (L.map (.int .i64)):=ownsRow_setCell_below ca cg _;refine aI (ar h1 fun q I=>hg.keep.block q (by
    rcases h1.2 with ⟨he,-⟩|⟨g',bC,bX,he,-,hk,-⟩
    ·rw[he]at I;cases I
    ·rw[he]at I;cases I;exact(lu.1 hk).1) (fun O=>by
     have h8:=(h1.lt q I).1;rcases bn q O with O|O
     ·have h9:=(bq.lt q O).2;omega
     ·have h9:=bS.out q I;omega)) (by omega)
  obtain⟨ds,eg⟩:=bc.zc;have d5:=bc.free;have bD:=kD b0;clear b0;by_cases aL:y.mP L.length=0
  ·have ab:Hid (y.take near many=(0,(y.change us L.length).after 0)/\y.nC near many=L):=kD (by have h:=HX.out;rw[aL,if_pos rfl]at h;exact h)
   rw[aL]at bD |-;clear aL HX;go_wp2_with fail
   refine ec (E:=0) (F0:=F) (b3.mG (p:=⟨w.heap.size,0,none⟩) ao (.int .i64 0)) (bc.mG 0 (.int .i64 0)) ao (G8.cellAt (kE _) _) (fun W' hc _=>gI (m:=6) (n:=7) (v:=.slice av L.length cv) (t:=28) (by rfl) (by simp) (by simp) rfl hc) (fun W' a1 hg b4=>?_)
   exact⟨_,by rw[ab.out.1],by rw[ab.out.2];exact bD.out W' b4,F',by rw[ab.out.1];exact a1,hg,ck.out⟩
  ·have ab:Hid (y.take near many=(y.mP L.length,(y.change us L.length).after (y.mP L.length))/\y.nC near many=[]):=kD (by have h:=HX.out;rw[if_neg aL]at h;exact h)
   clear HX bD;generalize y.mP L.length=E at *;have cJ:(E != 0)=true:=by simpa using aL
   clear aL;go_wp2_with fail
   refine ec (E:=E) (F0:=F) (b3.mG (p:=⟨w.heap.size,0,none⟩) ao (.int .i64 E)) (bc.mG 0 (.int .i64 E)) ao (G8.cellAt (kE _) _) (fun W' hc _=>gI (m:=6) (n:=7) (v:=.slice none 0 0) (t:=28) (by rfl) (by simp) (by simp) rfl hc) (fun W' a1 hg b4=>?_)
   exact⟨_,by rw[ab.out.1],by rw[ab.out.2];exact World.ownsRow_nil _ _ _ _,F',by rw[ab.out.1];exact a1,hg,fun q I=>by cases I⟩
theorem zc8 (T:Nat)(F:List Nat)(D:Nat)(y:TxS)(near many:Int)(w:World)(h:TxAt w T F D y):
  Calls prog 34 #[.pointer (some ⟨T,0,none⟩),.int .i64 near,.int .i64 many] w (z80 w T F D (y.take near many).1 (y.take near many).2 (y.nC near many)):=by
 by_cases c:y.mF=0
 ·exact z9I T F D y near many w h c
 ·refine(z7H _ near many _ w h.st c).mono ?_;rintro e J ⟨rfl,A⟩;unfold TxS.take TxS.nC;rw[if_pos (by simpa using c),if_pos (by simpa using c)]
  exact⟨_,rfl,World.ownsRow_nil _ _ _ _,F,h.below A,Grow.of_below A F,fun q I=>by cases I⟩
theorem zbu (T:Nat)(F:List Nat)(D:Nat)(y:TxS)(c:Option Addr)(I:Nat)(l:List Int)(M:l.length<=1000)(w:World)(h:TxAt w T F D y)(K:Reads w c (l.map (.int .i64))):
  Calls prog 40 #[.pointer (some ⟨T,0,none⟩),.slice c l.length I] w (z9S w T F D (y.free l).1 (y.free l).2):=by
 by_cases A:y.mF=0
 ·exact z9G T F D y c I l M w h A K
 ·refine(z7F _ _ _ w h.st A).mono ?_;rintro e O ⟨rfl,J⟩;unfold TxS.free;rw[if_pos (by simpa using A)]
  exact⟨rfl,F,h.below J,Grow.of_below J F⟩
open Go.Shelf
section
variable {F:Fence}{n:Nat}{P:Program}{α:Type}
def z7Y (F:Fence)(n:Nat)(P:Program)(gf:Nat)(lb:Array Value)(encs:α->Array Value)(S:List α->Prop)(N Bs:Nat)(w:World):Prop:=
 ∀(l:Nat) (J:List α->World->Prop) (W:World),Zr w W->(∀s V v,J s V->J s (V.setCell ⟨Bs,0,none⟩ v)) ->
  (∀pre x V,J pre V->pre.length<N->YieldAt F (n - 1) P l (encs x) V fun e V'=>e=.returned (.bool true)/\J (pre++[x]) V'/\V'.heap[Bs]?=V.heap[Bs]?) ->
  J [] W->CallsIn F n P gf (#[.func (.yield l) #[] #[]]++lb) W fun e V'=>(∃v,e=.returned v)/\∃xs,S xs/\J xs V'
def zaH (B Bs:Nat)(I:List α->World->Prop)(xs:List α)(W:World):Exit->Act->World->Prop
 | .normal,_,W'=>KeepsFrom B W W'/\W'.heap[Bs]?=W.heap[Bs]?/\I xs W'
 | _,_,_=>False
theorem z00 {g:Operand}{ps:Array Tmp}{assign body:Code}{Q:Exit->Act->World->Prop}{a:Act}{w:World}
  (bw:F.round=none) (h1:1<=n) {gf:Nat} {lb:Array Value} (hg:a.eval g=.func (.func gf) #[] lb) (a7:F.fn gf) (eg:∀args w,(callFunc gf args).run P w=.ok (.enter gf args) w)
  {A:α->Array Value} {S:List α->Prop} {N T:Nat} (bA:T<w.heap.size) (a1:z7Y F (n - 1) P gf lb A S N T w) (bu:∀x,(A x).size=ps.size)
  (I:List α->World->Prop) (hI:OwnFrom w.heap.size I) (a8:∀s V v,I s V->I s (V.setCell ⟨T,0,none⟩ v)) (h0:I [] w) (a₁:α->Act)
  (O:∀(l:Nat) (x:α) (W:World) (K:Act->World->Prop),K (a₁ x) W ->
   assign.wpIn (F.inRound l) (n - 1 - 1) P (Exit.then K (fun _ _ _=>False)) { tmps:=(ps.zip (A x)).foldl (fun t (p,v)=>t.setIfInBounds p v) a.tmps,defers:=[] } W)
  (ab:∀(l:Nat) (c:List α) (x:α) (W:World),I c W->c.length<N->body.wpIn (F.inRound l) (n - 1 - 1) P (zaH w.heap.size T I (c++[x]) W) (a₁ x) W)
  (ac:∀(D:Nat) (xs:List α) (W:World),w.heap.size<=D->S xs->I xs W->W.heap[D]?=some (.deferred (some []))->Q .normal { a with defers:={ target:=.collected D,args:=#[] }::a.defers } W):
  (Code.rangeFunc g ps assign body).wpIn F n P Q a w:=by
 refine wpIn_rangeFunc fun fn bc=>?_
 rw[bw];let rc:LoopState->Option Code->Loop:=fun st pe=>{ state:=st,pending:=pe,fn,tmps:=a.tmps,params:=ps,assign,body,defers:=w.heap.size }
 obtain⟨U,J⟩:=zxe ((w.alloc (.deferred (some []))).alloc (.loop (rc .ready none)));have z1:U.heap.size=w.heap.size+2:=by rw[<-J];simp
 have bq:U.heap[w.heap.size+1]?=some (.loop (rc .ready none)):=by
  rw[<-J];have:=World.alloc_heap_new (w.alloc (.deferred (some []))) (.loop (rc .ready none));rwa [World.size_alloc]at this
 have bb:U.heap[w.heap.size]?=some (.deferred (some [])):=by
  rw[<-J];exact(Below.heap_alloc _ _ _ (by simp)).trans (World.alloc_heap_new w _)
 have bk:I [] U:=by rw[<-J];exact hI.alloc _ (hI.alloc _ h0)
 have ba:Zr w U:=by rw[<-J];exact((kF _ w).alloc (kE _) _).alloc (by simp) _
 have Y:∀(V:World) v k,w.heap.size<=k->(V.setCell ⟨T,0,none⟩ v).heap[k]?=V.heap[k]?:=fun V v k hk=>Below.heap_setCell V ⟨T,0,none⟩ v k (by show k≠T;omega)
 refine⟨w.heap.size+1,[{ target:=.collected w.heap.size,args:=#[] }],U,{ target:=.fn (.func gf) lb,args:=#[.func (.yield (w.heap.size+1)) #[] #[]] },U,gf,
  #[.func (.yield (w.heap.size+1)) #[] #[]]++lb,U,?_,?_,?_,?_,fun _=>h1,?_⟩
 ·rw[<-J];exact run_enterLoop_outer _ _ _ _ _
 ·simp only[resolve,hg];simp[go_sem]
 ·intro f' ao;simp[Target.leads]at ao;subst ao;exact a7
 ·simp[invoke,go_sem,eg]
 refine(a1 (w.heap.size+1) (fun c W=>I c W/\W.heap[w.heap.size+1]?=some (.loop (rc .ready none))/\W.heap[w.heap.size]?=some (.deferred (some []))) U ba
  (fun s V v h=>⟨a8 s V v h.1,(Y V v _ (by omega)).trans h.2.1,(Y V v _ (kE _)).trans h.2.2⟩) ?_ ⟨bk,bq,bb⟩).mono ?_
 ·rintro c x W ⟨hi,hl,hk⟩ aL;have bt:w.heap.size+1<W.heap.size:=(lu.1 hl).1;have hy:=run_yield (P:=P) (args:=A x) hl (bu x);obtain⟨Wb,M⟩:=zex (W.putObj (w.heap.size+1) (.loop { rc .ready none with state:=.busy }));have br:Wb.heap[w.heap.size+1]?=some (.loop { rc .ready none with state:=.busy }):=by rw[M];exact World.putObj_heap_same bt
  have bp:Wb.heap[w.heap.size]?=some (.deferred (some [])):=by rw[M];exact(World.putObj_heap_other (by omega)).trans hk
  have a2:Wb.heap[T]?=W.heap[T]?:=by rw[M];exact World.putObj_heap_other (by omega)
  refine⟨fn,_,assign,body,hy,roundIn_of_wpIn bc (O _ x W _ ⟨Wb,by rw[M];exact run_beginRound hl rfl,?_⟩)⟩
  refine wpIn_mono (ab _ c x Wb (by rw[M];exact hI.putObj _ hi (by omega) hl rfl) aL) ?_
  rintro e a3 W3 hp;cases e with
  | normal=>
   obtain⟨av,a6,bn⟩:=hp;have an:=av.same _ _ (by omega) br rfl
   have hr:=run_endRound (P:=P) none an;refine⟨_,_,hr,⟨rfl,⟨hI.putObj _ bn (by omega) an rfl,World.putObj_heap_same (lu.1 an).1,(World.putObj_heap_other (by omega)).trans (av.same _ _ (kE _) bp rfl)⟩,?_⟩⟩
   exact(World.putObj_heap_other (by omega)).trans (a6.trans a2)
  | ret=>exact hp.elim
  | exit id=>exact hp.elim
  | goto t=>exact hp.elim
  | panic ch=>exact hp.elim
  | outgrown=>exact hp.elim
 ·rintro e W2 ⟨⟨v,rfl⟩,xs,hS,hi,hl,hk⟩;exact⟨none,_,run_endLoop (P:=P) hl (by simp[rc]),ac _ xs _ (kE _) hS (hI.putObj _ hi (by omega) hl rfl) ((World.putObj_heap_other (by omega)).trans hk)⟩
end
attribute [local go_sem] Oper.semAt_some
def j4 (s:ByteArray)(k:Nat):ByteArray:=s.extract (96*k) (96*k+96)
def eO (n:Nat):Nat:=(n+95) / 96
def bh (s:ByteArray):List ByteArray:=(List.range (eO s.size)).map (j4 s)
def dV (s:ByteArray)(k:Nat):ByteArray:=s.extract (96*k) s.size
theorem z8e {a b:ByteArray}(h:a.data=b.data):a=b:=ByteArray.ext h
theorem z33 (s:ByteArray):dV s 0=s:=by unfold dV;simp
theorem iq (s:ByteArray)(k:Nat):(dV s k).size=s.size - 96*k:=by unfold dV;simp
theorem z1p (s:ByteArray)(k:Nat)(m:Nat)(c:m=min (s.size - 96*k) 96):(dV s k).extract 0 m=j4 s k:=by
 unfold dV j4;rw[ByteArray.extract_extract];subst c;apply z8e
 simp only[ByteArray.data_extract];apply Array.ext_getElem?
 intro i;simp only[Array.getElem?_extract];have e:s.data.size=s.size:=rfl;by_cases A:i<min (s.size - 96*k) 96
 ·rw[if_pos (by simp only[e];omega),if_pos (by simp only[e];omega),Nat.add_zero]
 ·rw[if_neg (by simp only[e];omega),if_neg (by simp only[e];omega)]
theorem z1q (s:ByteArray)(k:Nat)(m z:Nat)(c:m=min (s.size - 96*k) 96)(A:z=s.size - 96*k):(dV s k).extract m z=dV s (k+1):=by
 unfold dV;rw[ByteArray.extract_extract];subst c A;apply z8e
 simp only[ByteArray.data_extract];apply Array.ext_getElem?
 intro i;simp only[Array.getElem?_extract];have e:s.data.size=s.size:=rfl;by_cases D:i<s.size - 96*(k+1)
 ·rw[if_pos (by simp only[e];omega),if_pos (by simp only[e];omega)]
  congr 1;omega
 ·rw[if_neg (by simp only[e];omega),if_neg (by simp only[e];omega)]
theorem ByteArray.oU (r:ByteArray)(n:Nat):r.extract n n=ByteArray.empty:=by
 apply z8e;simp
theorem z1T (s:ByteArray)(k:Nat):(List.range (k+1)).map (j4 s)=(List.range k).map (j4 s)++[j4 s k]:=by rw[List.range_succ,List.map_append];rfl
def z3F (w:World)(B:Nat):Nat:=match w.cell? ⟨B,0,none⟩with|some (.string r)=>r.size|_=>0
theorem z1R {W:World}{B:Nat}{t:TypeId}{v:Value}{x:ByteArray}(b:Blk W B t #[v]):z3F (W.setCell ⟨B,0,none⟩ (.string x)) B=x.size:=by
 have h:(W.setCell ⟨B,0,none⟩ (.string x)).cell? ⟨B,0,none⟩=some (.string x):=((b.mG 0 (.string x)).cells 0).trans rfl;unfold z3F;rw[h]
theorem z8o (F:Fence)(n:Nat)(hF:F.fn 211)(a2:F.round=none)(hn:1<=n)(A:Nat)(s:ByteArray)(hs:s.size<=1000000)(w:World)(b:Blk w A 9 #[.string s]):
  z7Y F n prog 211 #[.pointer (some ⟨A,0,none⟩)] (fun x:ByteArray=>#[Value.string x]) (fun xs=>xs=bh s) (eO s.size) A w:=by
 intro l J W hW ao hY h0;refine callsIn_of_wp func211 rfl hF ?_ a2;simp only[ntmps211,List.size_toArray,lr,lH,Nat.reduceAdd,Nat.reduceSub,Array.replicate_succ,Array.replicate_zero,List.push_toArray,List.append_toArray,mo,List.cons_append];have av:=b.mD hW;gi_wp2
 gi_loopw [3] (fun q wr=>∃k:Nat,k<=eO s.size/\J ((List.range k).map (j4 s)) wr/\Blk wr A 9 #[.string (dV s k)])
  (fun q wr=>z3F wr A)
 case atStart=>exact⟨0,kP _,h0,by rw[z33];exact av⟩
 case round=>
  obtain⟨k,hk,K,Y⟩:=hrel;have S:=iq s k;have cB:wr.cell? ⟨A,0,none⟩=some (.string (dV s k)):=(Y.cells 0).trans rfl;have lB:=Y.lt;have fB:=Y.free;by_cases aL:96*k<s.size
  ·have M:k<eO s.size:=by unfold eO;omega
   have HH:=kD (z1p s k);have HT:=kD (z1q s k);have T:=kD S;have ab:=kD (z1T s k);have D:0<(dV s k).size:=by omega
   have a8:(dV s k).size<=1000000:=by omega
   generalize dV s k=r at *;clear S;rcases Nat.lt_or_ge 96 r.size with I|I
   rotate_left;focus
    have O:r.size=min (s.size - 96*k) 96:=by rw[T.out]at I |-;omega
    have HX:Hid (r=j4 s k):=kD (by have:=HH.out _ O;rwa [ByteArray.extract_zero_size]at this)
    have U:=kD (HT.out _ _ O T.out);have hi:(r.size:Int)<=96:=by omega
    have a1:min (r.size:Int) 96=(r.size:Int):=by omega
    obtain⟨fn,tmps,assign,body,hy,hR⟩:=hY _ r wr K (by simpa using M)
    clear O I;gi_wp2
   rotate_left;focus
    have O:96=min (s.size - 96*k) 96:=by have:=T.out;omega
    have HX:=kD (HH.out _ O);have U:=kD (HT.out _ _ O T.out);have hi:¬(r.size:Int)<=96:=by omega
    have a1:min (r.size:Int) 96=96:=by omega
    obtain⟨fn,tmps,assign,body,hy,hR⟩:=hY _ (r.extract 0 96) wr K (by simpa using M)
    clear O;gi_wp2
   all_goals
    refine hR.mono ?_;rintro e W3 ⟨rfl,an,ac⟩;have c:Blk W3 A 9 #[.string r]:=ac.trans Y;have a6:W3.cell? ⟨A,0,none⟩=some (.string r):=(c.cells 0).trans rfl;have ba:=c.lt;have a7:=c.free;gi_wp2
    go_roundw
    case rel=>
     refine⟨k+1,M,ao _ _ _ ?_,?_⟩
     ·rw[ab.out,<-HX.out];exact an
     ·rw[<-U.out];first|exact c.mG 0 _|(rw[ByteArray.oU];exact c.mG 0 _)
    case measure=>
     have e1:z3F wr A=r.size:=by unfold z3F;rw[cB]
     have e3:=iq s (k+1);have e4:=T.out;rw[e1];first
      | (rw[z1R c];have:(r.extract 96 r.size).size=r.size - 96:=(by simp);omega)
      | (rw[z1R c];exact D)
  ·have V:k=eO s.size:=by unfold eO at hk |-;omega
   have D:(dV s k).size=0:=by omega
   have HK:=kD V;clear V S aL hk;generalize dV s k=r at *;gi_wp2
   go_end0
   refine⟨⟨_,rfl⟩,_,rfl,?_⟩
   unfold bh;rw[<-HK.out];exact K
attribute [local go_sem] Oper.semAt_some
theorem Tryz.oO:(prog.info? 9).map (fun i=>(i.zero,i.size,i.bytes))=some (some (.string ⟨#[]⟩),1,16):=by kernel_rfl
theorem z5Q (s:ByteArray)(w:World):
  Calls prog 158 #[.string s] w fun e I=>e=.returned (.func (.func 211) #[] #[.pointer (some ⟨w.heap.size,0,none⟩)])/\I=w.alloc (.cells #[.string s] 9):=by
 have D:∀(A:Fn) (first c:Array Value) (w:World),(Instr.makeFunc A first c).run prog w=.ok (.func A first c) w:=fun _ _ _ _=>rfl
 go_enter func158,ntmps158
 go_wp2
 go_ret
 exact⟨rfl,rfl⟩
def StrsBox (B base:Nat)(l:List ByteArray)(W:World):Prop:=
 ∃v,Boxed W B 76 v/\W.ownsRow base 9 1 v l.length (l.map Value.string)/\(v=.slice none 0 0↔l=[])
theorem z5x (B base C:Nat):OwnFrom C (fun (l:List ByteArray) W=>StrsBox B base l W):=
 Own.from (holdsRow_own base B 76 9 1 (fun l:List ByteArray=>l.length) (fun l=>l.map Value.string) (fun l v=>v=.slice none 0 0↔l=[])) C
theorem StrsBox.mG {B base A:Nat}{l:List ByteArray}{W:World}(h:StrsBox B base l W)(D:A≠B)(I:A<base)(u:Value):StrsBox B base l (W.setCell ⟨A,0,none⟩ u):=by
 obtain⟨v,K,c,J⟩:=h;exact⟨v,Blk.far K (Ne.symm D) u,ownsRow_setCell_below c I u,J⟩
def z5E (l:List ByteArray)(Bs:Nat)(w:World)(e:Ending)(w':World):Prop:=
 ∃v,e=.returned v/\w'.ownsRow w.heap.size 9 1 v l.length (l.map .string)/\(v=.slice none 0 0↔l=[])/\KeepEx w.heap.size [Bs] w w'
theorem dL (s:ByteArray):(bh s).length=eO s.size:=by unfold bh;simp
theorem z1F (J:Nat)(s:ByteArray)(hs:s.size<=100000)(w:World)(b:Blk w J 9 #[.string s]):
  Calls prog 210 #[.slice none 0 0,.func (.func 211) #[] #[.pointer (some ⟨J,0,none⟩)]] w (z5E (bh s) J w):=by
 refine gW func210 rfl ?_;simp only[ntmps210,List.size_toArray,lr,lH,Nat.reduceAdd,Nat.reduceSub,Array.replicate_succ,Array.replicate_zero,List.push_toArray,List.append_toArray,mo,List.cons_append];have lB:=b.lt;obtain⟨U,I⟩:=zex (w.alloc (.cells #[.slice none 0 0] 76));have b1:Blk U J 9 #[.string s]:=by rw[I];exact b.alloc _
 have a1:Boxed U w.heap.size 76 (.slice none 0 0):=by rw[I];exact zbn
 have br:U.heap.size=w.heap.size+1:=by rw[I];simp
 have B1:Zr w U:=by rw[I];exact(kF _ _).alloc (kE _) _
 obtain⟨i0,hi,a8,bb,ba⟩:=info_parts Tryz.oO;have aL:=kD hi;clear hi;go_wp2_with fail
 rw[<-I];clear I;refine kA (n:=6) (fun D W=>W.heap[D]?=some (.deferred (some []))/\w.heap.size+1<=D/\StrsBox w.heap.size (w.heap.size+1) (bh s) W/\KeepEx (w.heap.size+1) [w.heap.size,J] U W) ?loop ?after
 case loop=>
  refine z00 rfl (by omega) (gf:=211) (lb:=#[.pointer (some ⟨J,0,none⟩)]) rfl trivial (enters_of func211 (by kernel_rfl) rfl) (by omega)
   (z8o Fence.wide (6 - 1) trivial rfl (by omega) J s (by omega) U b1) (fun _=>rfl)
   (fun T W=>StrsBox w.heap.size (w.heap.size+1) T W/\KeepEx (w.heap.size+1) [w.heap.size,J] U W)
   (OwnFrom.and (z5x _ _ _) (fC (by omega) (by omega)))
   (fun T V v h=>⟨h.1.mG (by omega) (by omega) v,h.2.trans (KeepEx.setCell V (.inl (by simp)) v)⟩)
   ⟨⟨_,a1,World.ownsRow_nil _ _ _ _,by simp⟩,KeepEx.refl _ _ _⟩
   (fun x=>{ tmps:=#[.slice none 0 0,.func (.func 211) #[] #[.pointer (some ⟨J,0,none⟩)],.pointer (some ⟨w.heap.size,0,none⟩),undef,.slice none 0 0,.string x,.func (.func 211) #[] #[.pointer (some ⟨J,0,none⟩)],.string x,undef,undef,undef,undef,undef],defers:=[] }) ?assign ?body ?done
  case assign=>
   intro l x W K M;gi_wp2
   exact M
  case body=>
   rintro l T x W ⟨⟨v,hv,c,A⟩,M⟩ an;have bk:T.length<=2000:=by unfold eO at an;omega
   obtain⟨av,cv,rfl⟩:=aw c;have hc:=hv.cell;have hf:=hv.frozen;have bq:=M.size;clear A an;have hi:=aL.out;gi_wp2_with (gi_at_builtin;refine wpListIn_append_own _ rfl _ _ 76 rfl (w.heap.size+1) 9 i0 (.string ⟨#[]⟩) 1 16 underlying76 hi a8 bb ba rfl (by decide) _ _ _ rfl (c.alloc _) ⟨W.heap.size,0,none⟩ 1 1 [.string x] rfl rfl (cell_one_new _ _ _) (by simp[Value.oneCell']) (by simp only[maxLen];omega) (by omega) (by simp;omega) ?_;intro v' w2 O Y _;obtain⟨g',bc,rfl⟩:=ownsRow_succ O;obtain⟨ao,a7,a6,a2,ab⟩:=iN hv c (by omega) (by omega) O Y;have bn:=ao.cell;have bp:=ao.frozen)
   exact⟨a2.from _,ab.block J (by omega) (by simp;omega),⟨_,a7,by simpa using a6,by simp⟩,M.trans (KeepEx.widen ab (fun k hk=>by simp at hk;simp[hk]))⟩
  case done=>
   rintro D xs W hD rfl ⟨ac,M⟩ S;exact⟨.inl rfl,D,rfl,S,by omega,ac,M⟩
 case after=>
  rintro D W ⟨S,hD,⟨v,hv,c,A⟩,M⟩;obtain⟨av,cv,rfl⟩:=aw c;have hc:=hv.cell;have hf:=hv.frozen;have HN:=kD A;clear A;go_wp2
  refine jE (.slice av (bh s).length cv) S (by simp[results,results210,go_sem]) ?_
  refine⟨_,rfl,aI (ownsRow_putObj c _ S rfl) (by omega),HN.out,?_⟩
  have h1:KeepEx w.heap.size [J] w W:=(KeepEx.of_below B1).trans ⟨M.os,M.tape,M.output,M.size,fun k hk hn=>M.block k (by omega) (by simp at hn |-;omega)⟩
  exact h1.trans ⟨rfl,rfl,rfl,by simp,fun k hk _=>World.putObj_heap_other (by omega)⟩
theorem z0d (c:Nat)(s:ByteArray)(D:s.size<=100000)(w:World)(b:Blk w c 9 #[.string s]):
  Calls prog 157 #[.func (.func 211) #[] #[.pointer (some ⟨c,0,none⟩)]] w (z5E (bh s) c w):=by
 have h:=z1F c s D w b;go_enter func157,ntmps157
 go_wp2_with fail
 refine h.mono ?_;rintro e I ⟨v,rfl,A⟩;go_wp2_with fail
 go_ret
 exact⟨v,rfl,A⟩
def zcn (s:ByteArray)(w:World)(e:Ending)(w':World):Prop:=
 Zr w w'/\((768<s.size/\e=.returned (.tuple #[.slice none 0 0,.int .i64 3])) \/
  (s.size<=768/\∃v,e=.returned (.tuple #[v,.int .i64 0])/\w'.ownsRow w.heap.size 9 1 v (bh s).length ((bh s).map .string)))
theorem z5l (s j i:Int):0<=rgD s j i/\rgD s j i<=256:=by
 unfold rgD;split
 ·rename_i h;have:=de h;omega
 ·omega
def jR (s j i b:Int):Int:=if rgE s j i=0 then (if b<0\/rgB s j i - 1<b then 7 else 0)else rgE s j i
def dn (s j i b:Int):Int:=if jR s j i b=0 then rgD s j i+b else 0
def z7W (s j i b:Int)(w:World)(e:Ending)(w':World):Prop:=e=.returned (.tuple #[.int .i64 (dn s j i b),.int .i64 (jR s j i b)])/\Zr w w'
theorem z35 {a b c A:Int}(h:a=c)(D:b=A):Ending.returned (.tuple #[.int .i64 a,.int .i64 b])=.returned (.tuple #[.int .i64 c,.int .i64 A]):=by rw[h,D]
theorem z7z (s j i b:Int)(w:World):
  Calls prog 240 #[.agg #[.int .i64 s,.int .i64 j,.int .i64 i],.int .i64 b] w (z7W s j i b w):=by
 have Y:=jM s j i;have ab:=z5l s j i;by_cases D:rgE s j i=0
 ·have S:(rgE s j i==0)=true:=by simpa using D
  have T:(rgE s j i != 0)=false:=by simpa using D
  by_cases O:b<0\/rgB s j i - 1<b
  all_goals
   first|have hO:=eB O|have hO:=eo O
   first|(have c:jR s j i b=7:=by simp only[jR,if_pos D,if_pos O])|(have c:jR s j i b=0:=by simp only[jR,if_pos D,if_neg O])
   first|(have A:dn s j i b=0:=by simp only[dn,c];rfl)|(have A:dn s j i b=rgD s j i+b:=by simp only[dn,c,if_true])
   have I:=kD c;have J:=kD A;have V:=kD D;clear c A D;first|(have ac:0<=b/\b<=256:=by omega)|skip
   go_enter func240,ntmps240
   go_wp2_with fail
   refine(eP _ _ _ _).mono ?_;rintro e w1 ⟨rfl,K⟩;have M:=dq K;have U:=M.size;unfold rgV;go_wp2_with (go_at_call 172;refine(dd _ _ _ _).mono ?_;rintro e w' ⟨rfl,rfl⟩);go_ret2;exact⟨z35 J.out.symm I.out.symm,zgr⟩
 ·have S:(rgE s j i==0)=false:=by simpa using D
  have T:(rgE s j i != 0)=true:=by simpa using D
  have c:jR s j i b=rgE s j i:=by simp only[jR,if_neg D]
  have A:dn s j i b=0:=by simp only[dn,c,if_neg D]
  have I:=kD c;have J:=kD A;have V:=kD D;clear c A D;go_enter func240,ntmps240
  go_wp2_with fail
  refine(eP _ _ _ _).mono ?_;rintro e w1 ⟨rfl,K⟩;have M:=dq K;have U:=M.size;unfold rgV;go_wp2_with fail
  go_ret2
  exact⟨z35 J.out.symm I.out.symm,zgr⟩
theorem z5u (s j i b:Int)(w:World):
  Calls prog 216 #[.agg #[.int .i64 s,.int .i64 j,.int .i64 i],.int .i64 b] w (z7W s j i b w):=by
 have Y:=jM s j i;have ab:=z5l s j i;by_cases D:rgE s j i=0
 ·have S:(rgE s j i==0)=true:=by simpa using D
  have T:(rgE s j i != 0)=false:=by simpa using D
  by_cases O:b<0\/rgB s j i - 1<b
  all_goals
   first|have hO:=eB O|have hO:=eo O
   first|(have c:jR s j i b=7:=by simp only[jR,if_pos D,if_pos O])|(have c:jR s j i b=0:=by simp only[jR,if_pos D,if_neg O])
   first|(have A:dn s j i b=0:=by simp only[dn,c];rfl)|(have A:dn s j i b=rgD s j i+b:=by simp only[dn,c,if_true])
   have I:=kD c;have J:=kD A;have V:=kD D;clear c A D;first|(have ac:0<=b/\b<=256:=by omega)|skip
   go_enter func216,ntmps216
   go_wp2_with fail
   refine(dN _ _ _ _).mono ?_;rintro e w1 ⟨rfl,K⟩;have M:=dq K;have U:=M.size;unfold rgV;go_wp2_with (go_at_call 178;refine(dX _ _ _ _).mono ?_;rintro e w' ⟨rfl,rfl⟩);go_ret2;exact⟨z35 J.out.symm I.out.symm,zgr⟩
 ·have S:(rgE s j i==0)=false:=by simpa using D
  have T:(rgE s j i != 0)=true:=by simpa using D
  have c:jR s j i b=rgE s j i:=by simp only[jR,if_neg D]
  have A:dn s j i b=0:=by simp only[dn,c,if_neg D]
  have I:=kD c;have J:=kD A;have V:=kD D;clear c A D;go_enter func216,ntmps216
  go_wp2_with fail
  refine(dN _ _ _ _).mono ?_;rintro e w1 ⟨rfl,K⟩;have M:=dq K;have U:=M.size;unfold rgV;go_wp2_with fail
  go_ret2
  exact⟨z35 J.out.symm I.out.symm,zgr⟩
theorem gG (us:List Int):∀u∈us.map (Value.int .i64),u.oneCell'=true:=by
 intro u c;obtain⟨x,-,rfl⟩:=List.mem_map.1 c;rfl
theorem Tryz.pX:(prog.info? 3).map (fun i=>(i.zero,i.size,i.bytes))=some (some (.int .i64 0),1,8):=by kernel_rfl
theorem z6x (A:Option Addr)(c:Nat)(us:List Int)(w:World)(T:Reads w A (us.map (.int .i64)))(J:A=none->us=[]/\c=0)(hn:us.length<=100000):
  Calls prog 213 #[.slice A us.length c] w fun e V=>∃v,e=.returned v/\V.ownsRow w.heap.size 3 1 v us.length (us.map (.int .i64))/\Zr w V:=by
 cases A with
 | none=>
  obtain⟨rfl,rfl⟩:=J rfl;have I:=Lib.run_eql_slice_nil (P:=prog) w 53 3 none 0 0 0 0 underlying53;clear J T;go_enter func213,ntmps213
  go_wp2_with fail
  go_ret
  exact⟨_,rfl,World.ownsRow_nil _ _ _ _,kF _ _⟩
 | some ad=>
  obtain⟨i0,Y,M,O,S⟩:=info_parts Tryz.pX;have hm:=gG us;have I:=fun (w:World)=>Lib.run_eql_slice_nil (P:=prog) w 53 3 (some ad) us.length c 0 0 underlying53
  clear J;go_enter func213,ntmps213
  go_wp2_with (at_builtin;refine dj _ rfl (.tmp 5) (.tmp 6) _ rfl w.heap.size 3 i0 (.int .i64 0) 8 underlying53 Y M O S rfl (.slice (some ⟨w.heap.size,0,none⟩) 0 0) 0 [] rfl (World.ownsRow_made w #[] 0 (kE _) (by simp) rfl) (some ad) us.length c (us.map (.int .i64)) rfl (by simp) (by simp) (T.alloc _) hm (by simp only[maxLen];omega) (by omega) (by simp) ?_;intro v1 w1 D K U)
  go_ret
  refine⟨v1,rfl,by simpa using D,((kF _ _).alloc (kE _) _).grown K (by simp) (fun k hk=>?_)⟩
  simp[Value.ownBlock]at hk;omega
end Go.Proofs.YtejmknghkbobnaaGreatDoor
