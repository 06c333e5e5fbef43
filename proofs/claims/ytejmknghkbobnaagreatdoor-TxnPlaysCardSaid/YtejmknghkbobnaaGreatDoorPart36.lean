import Derived.Test.YtejmknghkbobnaaGreatDoorPart00
import Derived.Test.YtejmknghkbobnaaGreatDoorPart35
set_option linter.unusedVariables false
set_option linter.unusedSimpArgs false
set_option maxRecDepth 100000
set_option maxHeartbeats 8000000
namespace Go.Proofs.YtejmknghkbobnaaGreatDoor
open Go.Proofs.Tryz
open Go.RowKit Go.Maps
theorem z2M {fn:Func}{tmps:Array Value}{W:World}{R m n:Nat}{t:TypeId}{E:Int}{v:Value}(hr:fn.results=#[.tmp m,.cell n t])(hm:tmps.getD m undef=v)(hn:tmps.getD n undef=.pointer (some ⟨R,0,none⟩))(ht:t=28)(hc:W.cell? ⟨R,0,none⟩=some (.int .i64 E)):(results fn tmps).run prog W=.ok (.tuple #[v,.int .i64 E]) W:=by
 subst ht;rw[Array.getD_eq_getD_getElem?]at hn hm;simp[results,hr,hn,hm,go_sem,hc]
def z9z (Q:Exit→Act→World→Prop):Exit→Act→World→Prop
 | .panic _,_,_=>False
 | e,a,w=>Q e a w
theorem zcx {Q:Exit→Act→World→Prop}:∀e a w,z9z Q e a w→Q e a w:=fun e a w h=>by cases e<;>first|exact h|exact h.elim
theorem z75 {P:Program}{id:Nat}{ops:Array Oper}{b:Bool}{Q:Exit→Act→World→Prop}{a:Act}{w:World}(h:(Code.region id ops b).wp P (z9z Q) a w):(Code.region id ops b).wp P Q a w:=wp_mono h zcx
def zeh (w:World)(T:Nat)(F:List Nat)(D:Nat)(E:Int)(y:TxS)(L:List Int)(e:Ending)(w':World):Prop:=
 ∃v,e=.returned (.tuple #[v,.int .i64 E])∧w'.ownsRow w.heap.size 3 1 v L.length (L.map (.int .i64))∧∃F',TxAt w' T F' D y∧Grow w F w' F'∧∀q,v.ownBlock=some q→q∉F'
theorem zf4 {s j i:Int}{us:List Bool}{near many:Int}(hC:CkE s j i us.length=0):AlE s j i us near many=0∨AlE s j i us near many=7∨AlE s j i us near many=11:=by
 unfold AlE;rw[if_pos hC];split
 ·exact .inr (.inl rfl)
 ·split
  ·exact .inr (.inr rfl)
  ·exact .inl rfl
theorem zb3 {s j i:Int}{us:List Bool}{near many:Int}(hC:CkE s j i us.length=0)(h:AlE s j i us near many=0):near.toNat<us.length:=by
 unfold AlE at h;rw[if_pos hC]at h;split at h
 ·cases h
 ·omega
theorem zgR {y:TxS}{near many:Int}(hs:y.stateE=0)(h:AlE y.s y.j y.i y.may near many≠0):y.take near many=(AlE y.s y.j y.i y.may near many,y.brk)∧y.takeL near many=[]:=by
 have e:y.takeE near many=AlE y.s y.j y.i y.may near many:=by unfold TxS.takeE;rw[if_pos h]
 constructor
 ·unfold TxS.take;rw[if_neg (by simpa using hs),e,if_pos h]
 ·unfold TxS.takeL;rw[if_neg (by simpa using hs),e,if_pos h]
theorem zgV {y:TxS}{near many:Int}(hs:y.stateE=0)(h:AlE y.s y.j y.i y.may near many=0)(L:List Int)(hL:z0g y.may near.toNat many.toNat=L):
  y.take near many=(y.changeE L.length,(y.change (z0M y.now L true) L.length).after (y.changeE L.length))∧y.takeL near many=if y.changeE L.length=0 then L else []:=by
 subst hL;have e:y.takeE near many=y.changeE (z0g y.may near.toNat many.toNat).length:=by unfold TxS.takeE;rw[if_neg (by simpa using h)]
 have hs':¬y.stateE≠0:=by simpa using hs
 rcases z5n y (z0g y.may near.toNat many.toNat).length with h|⟨h,h2⟩
 ·have h':¬y.changeE (z0g y.may near.toNat many.toNat).length≠0:=by simpa using h
  constructor
  ·unfold TxS.take;rw[if_neg hs',e,if_neg h',h,TxS.after_0]
  ·unfold TxS.takeL;rw[if_neg hs',e,if_neg h',if_pos h]
 ·have h':y.changeE (z0g y.may near.toNat many.toNat).length≠0:=by rw[h];decide
  constructor
  ·unfold TxS.take;rw[if_neg hs',e,if_pos h',h,h2,TxS.after_bad (by decide) (by decide) (by decide)]
  ·unfold TxS.takeL;rw[if_neg hs',e,if_pos h',if_neg (by rw[h];decide)]
theorem zbC (tv:Value)(near many:Int)(E:Int)(w:World)(h:StE w tv E)(hE:E≠0):
  Calls prog 34 #[tv,.int .i64 near,.int .i64 many] w fun e w'=>e=.returned (.tuple #[.slice none 0 0,.int .i64 E])∧Below w.heap.size w w':=by
 obtain⟨wA,hA⟩:∃wA,wA=w.alloc (.cells #[.int .i64 0] 28):=⟨_,rfl⟩;have bR:Blk wA w.heap.size 28 #[.int .i64 0]:=by rw[hA];exact(by (repeat' (first|(with_reducible assumption)|exact Blk.new' (by simp)|refine Blk.alloc ?_ _)))
 have BA:Below w.heap.size w wA:=by rw[hA];(repeat' (first|with_reducible (first|exact zho _ _|assumption|refine zhp ?_ ?_ _|refine zhq ?_|refine z00 ?_ _|refine zhr ?_ ?_ _|exact zhT _)|omega|(simp;done)|(simp;omega)))
 have hst:=z19 tv E wA (h.below BA);have hE':(E != 0)=true:=by simpa using hE
 clear hE;go_enter_defers func34,ntmps34
 go_wp2_with fail
 rw[←hA];go_wp2_with fail
 refine hst.mono ?_;rintro e w1 ⟨rfl,hb1⟩;have B1:=BA.trans (hb1.mono BA.size);have bR1:=bR.belowAll hb1;clear hA hst hb1 bR BA;have cR:=bR1.cells;have lR:=bR1.lt;have fR:=bR1.free;go_wp2_with fail
 have cF:=(bR1.set_ 0 (.int .i64 E)).cells;refine⟨.tuple #[.slice none 0 0,.int .i64 E],z2M (m:=6) (n:=7) (t:=28) (by rfl) (by simp) (by simp) rfl ((cF 0).trans rfl),rfl,?_⟩
 exact zhr (p:=⟨w.heap.size,0,none⟩) B1 (zhT _) _
theorem zdo (T:Nat)(F:List Nat)(D:Nat)(y:TxS)(near many:Int)(w:World)(h:TxAt w T F D y)(hE:y.stateE=0):
  Calls prog 34 #[.pointer (some ⟨T,0,none⟩),.int .i64 near,.int .i64 many] w (zeh w T F D (y.take near many).1 (y.take near many).2 (y.takeL near many)):=by
 obtain⟨wA,hA⟩:∃wA,wA=w.alloc (.cells #[.int .i64 0] 28):=⟨_,rfl⟩;have bR:Blk wA w.heap.size 28 #[.int .i64 0]:=by rw[hA];exact(by (repeat' (first|(with_reducible assumption)|exact Blk.new' (by simp)|refine Blk.alloc ?_ _)))
 have BA:Below w.heap.size w wA:=by rw[hA];(repeat' (first|with_reducible (first|exact zho _ _|assumption|refine zhp ?_ ?_ _|refine zhq ?_|refine z00 ?_ _|refine zhr ?_ ?_ _|exact zhT _)|omega|(simp;done)|(simp;omega)))
 have hTA:=h.below BA;have hst:=z19 _ _ wA hTA.st;rw[hE]at hst;have HS:=zhs hE;have hRF:w.heap.size∉F:=h.far (zhT _);have H0:Hid (0<w.heap.size):=zhs (by have:=h.lt T h.TF;omega)
 have HCK:=zhs (z7t h.ok);have HML:Hid (y.may.length=y.now.length):=zhs (z1h (h.ok.now.trans h.ok.was.symm));have HWL:Hid (y.now.length=y.was.length):=zhs (h.ok.now.trans h.ok.was.symm);have HNL:Hid (y.now.length≤1000):=zhs (by have:=h.ok.bds;omega)
 clear hE;go_enter_defers func34,ntmps34
 go_wp2_with fail
 rw[←hA];go_wp2_with fail
 refine hst.mono ?_;rintro e w1 ⟨rfl,hb1⟩;have hT1:=hTA.below hb1;have bR1:=bR.belowAll hb1;have B1:=BA.trans (hb1.mono BA.size);clear hA hst hb1 bR BA hTA h;go_wp2_with fail
 refine(zfM T F D y w1 hT1).mono ?_;rintro e w2 ⟨gm,cm,rfl,hom,hb2⟩;have hT2:=hT1.below hb2;have bR2:=bR1.belowAll hb2;have B2:=B1.trans (hb2.mono B1.size);clear hb2;have hAl:Calls prog 95 #[.agg #[.int .i64 y.s,.int .i64 y.j,.int .i64 y.i,.slice (some ⟨gm,0,none⟩) y.now.length cm],.int .i64 near,.int .i64 many] w2 (zdd y.s y.j y.i (some ⟨gm,0,none⟩) cm y.may near many w2):=by
  have h:=ze3 y.s y.j y.i (some ⟨gm,0,none⟩) cm y.may near many w2 (by rw[HML.out];exact HNL.out) (Reads.of_own (n:=y.may.length) (c:=cm) (by rw[HML.out];exact hom))
  rwa [HML.out]at h
 clear hom;go_wp2_with fail
 refine hAl.mono ?_;rintro e w3 ⟨hb3,hpost⟩;have hT3:=hT2.below hb3;have bR3:=bR2.belowAll hb3;have B3:=B2.trans (hb3.mono B2.size);clear hAl hb3;have hAC:CkE y.s y.j y.i y.may.length=0:=by rw[HML.out];exact HCK.out
 have cR3:=bR3.cells;have lR3:=bR3.lt;have fR3:=bR3.free;rcases hpost with ⟨hne,rfl⟩|⟨h0,g,cap,av,cv,rfl,-,hol⟩
 ·have HX:=zhs (zgR HS.out hne);have HV:=zhs (zf4 (near:=near) (many:=many) hAC);have HN:=zhs hne;rw[HML.out];generalize AlE y.s y.j y.i y.may near many=E at *;have hE':(E != 0)=true:=by simpa using hne
  clear hne hAC;go_wp2_with fail
  have bRs:=bR3.set_ 0 (.int .i64 E);have cRs:(w3.setCell ⟨w.heap.size,0,none⟩ (.int .i64 E)).drew.cell? ⟨w.heap.size,0,none⟩=some (.int .i64 E):=(bRs.drew.cells 0).trans rfl;have HCR:=zhs cRs;clear cRs;refine z75 ?_;refine z06 [.take 0,.take 1,.one 2] 2 (fun w'=>w'.cell? ⟨w.heap.size,0,none⟩=some (.int .i64 E)) (by kernel_rfl) (by kernel_rfl) (fun _ _ _ _ _ h=>h.elim) HCR.out ?_
  simp only[zhY,zhZ,Ms.fill,zhy,zhz];iterate 2 (refine z04 (by rfl) ?_ (fun w' hw'=>?_) ?_;rotate_left;(focus (go_simp;(try with_reducible rfl)));(try simp only[Act.put,zht,zhu,zhv]))
  refine z05 (by rfl) fun K hK=>?_
  go_simp;refine hK _ _ (fun h=>absurd h (by decide)) ?_
  clear hK K;refine z0f ?_;unfold z9z;have hTS:=(((hT3.set_ (p:=⟨w.heap.size,0,none⟩) hRF (.int .i64 E)).set_ (p:=⟨w.heap.size,0,none⟩) hRF (.int .i64 E))).drew;have bRS:=((bR3.set_ 0 (.int .i64 E)).set_ 0 (.int .i64 E)).drew;have BS:=((B3.setCell (p:=⟨w.heap.size,0,none⟩) (zhT _) (.int .i64 E)).setCell (p:=⟨w.heap.size,0,none⟩) (zhT _) (.int .i64 E)).drew;go_wp2_with fail
  refine z1B (E:=E) (F0:=F) hTS bRS hRF (Grow.of_below BS F) (fun W' hc _=>z2M (m:=6) (n:=7) (v:=.slice none 0 0) (t:=28) (by rfl) (by simp) (by simp) rfl hc) (fun W' hT' hg _=>?_)
  rw[TxS.after_bad HN.out (by have:=HV.out;omega) (by have:=HV.out;omega)]at hT'
  exact⟨_,by rw[HX.out.1],by rw[HX.out.2];exact World.ownsRow_nil _ _ _ _,F,by rw[HX.out.1];exact hT',hg,fun q hq=>by cases hq⟩
 ·have hnear:=zb3 hAC h0;have HX:=zhs (zgV HS.out h0 _ rfl);have hin:=z3s (us:=y.may) (near:=near.toNat) (many:=many.toNat) (by omega)
  have HTK:Hid (TnE y.s y.j y.i y.now (z0g y.may near.toNat many.toNat) true 9=0):=zhs (zas HWL.out HCK.out (by rw[←HML.out];exact hnear))
  have hLl:(z0g y.may near.toNat many.toNat).length≤1000:=by
   have h1:(z0g y.may near.toNat many.toNat).length≤(z1Y y.may near.toNat).length:=by unfold z0g;rw[zi6];omega
   have h2:=z31 y.may near.toNat y.may.length;have h3:=HNL.out;have h4:=HML.out;unfold z1Y at h1;omega
  generalize z0g y.may near.toNat many.toNat=L at *;rw[HML.out];clear hnear hAC h0 hin;obtain⟨w4,hw4⟩:∃w4,w4=w3.setCell ⟨w.heap.size,0,none⟩ (.int .i64 0):=⟨_,rfl⟩;have hT4:TxAt w4 T F D y:=by rw[hw4];exact hT3.set_ (p:=⟨w.heap.size,0,none⟩) hRF _
  have bR4:Blk w4 w.heap.size 28 #[.int .i64 0]:=by rw[hw4];exact bR3.set_ 0 _
  have B4:Below w.heap.size w w4:=by rw[hw4];exact B3.setCell (p:=⟨w.heap.size,0,none⟩) (zhT _) _
  have ho4:w4.ownsRow w2.heap.size 3 1 (.slice av L.length cv) L.length (L.map (.int .i64)):=by rw[hw4];exact ownsRow_setCell_below hol (by have:=bR2.lt;exact this) _
  have HW4:=zhs hw4;have cR4:w4.cell? ⟨w.heap.size,0,none⟩=some (.int .i64 0):=(bR4.cells 0).trans rfl;have lR4:=bR4.lt;have fR4:=bR4.free;have hTT:=hT3;obtain⟨ok,⟨M,wv,nv,bT,hT,hM,hMT,hO,hw,⟨A,c,rfl,hn,hnF⟩⟩,lt⟩:=hTT;have c13:w3.cell? ⟨T,13,none⟩=some (.int .i64 y.s):=(bT.cells 13).trans rfl;have c14:w3.cell? ⟨T,14,none⟩=some (.int .i64 y.j):=(bT.cells 14).trans rfl;have c15:w3.cell? ⟨T,15,none⟩=some (.int .i64 y.i):=(bT.cells 15).trans rfl;have c16:w3.cell? ⟨T,16,none⟩=some (.slice A y.now.length c):=(bT.cells 16).trans rfl;have lT:=bT.lt;have hn4:Reads w4 A (y.now.map .bool):=by
   rcases hn with h0|⟨b,off,he,hlt,hc⟩
   ·exact .inl h0
   ·exact .inr ⟨b,off,he,by rw[HW4.out];simpa using hlt,fun k u hu=>by rw[HW4.out];exact(World.cell?_of_block (w:=w3) (a:=⟨b,off+k,none⟩) (Below.heap_setCell w3 ⟨w.heap.size,0,none⟩ _ b (fun e=>hRF (by have h9:=(hnF _ he).1;have e2:b=w.heap.size:=e;subst e2;exact h9)))).trans (hc k u hu)⟩
  clear bT hT hM hMT hO hw hnF lt ok hol hw4 hn;go_wp2_with fail
  rw[←HW4.out];refine(zeO y.s y.j y.i A av c cv y.now L HNL.out hLl w4 hn4 (Reads.of_own ho4)).mono ?_;rintro e w5 ⟨hb5,hpost⟩;rcases hpost with ⟨hne,-⟩|⟨-,g2,cap2,rfl,hown⟩
  ·exact absurd HTK.out hne
  have HLB:Hid (∀q,(Value.slice av L.length cv).ownBlock=some q→q<w4.heap.size):=zhs fun q hq=>by
   rcases ho4.2 with ⟨he,-⟩|⟨g',cap',cur,he,-,hk,-⟩
   ·rw[he]at hq;cases hq
   ·rw[he]at hq;cases hq;exact(zhW.1 hk).1
  have hT5:=hT4.below hb5;have bR5:=bR4.belowAll hb5;have B5:=B4.trans (hb5.mono B4.size);have ho5:=z0a (W:=w4) ho4 hb5;have hus:=z1u y.now L true;generalize z0M y.now L true=us at *;have z1:=hT1.lt T hT1.TF;have z12:=B2.size;have z4:=B4.size;have hgl:=hown.lt g2 rfl;have hgF:g2∉F:=fun hm=>by have:=(hT4.lt g2 hm).2;omega
  have zR:=bR4.lt;have zR2:=bR2.lt;have g0:0<g2:=by have:=H0.out;omega
  have HG:Hid (w.heap.size≤g2):=zhs (by omega)
  obtain⟨w6,hw6⟩:∃w6,w6=w5.setCell ⟨w.heap.size,0,none⟩ (.int .i64 0):=⟨_,rfl⟩;have hT6:TxAt w6 T F D y:=by rw[hw6];exact hT5.set_ (p:=⟨w.heap.size,0,none⟩) hRF _
  have bR6:Blk w6 w.heap.size 28 #[.int .i64 0]:=by rw[hw6];exact bR5.set_ 0 _
  have B6:Below w.heap.size w w6:=by rw[hw6];exact B5.setCell (p:=⟨w.heap.size,0,none⟩) (zhT _) _
  have hg6:w6.ownsRow w4.heap.size 4 1 (.slice (some ⟨g2,0,none⟩) y.now.length cap2) y.now.length (us.map .bool):=by rw[hw6];exact ownsRow_setCell_below hown zR _
  have ho6:w6.ownsRow w2.heap.size 3 1 (.slice av L.length cv) L.length (L.map (.int .i64)):=by rw[hw6];exact ownsRow_setCell_below ho5 zR2 _
  have z6:w6.heap.size=w5.heap.size:=by rw[hw6];simp
  obtain⟨w7,hw7⟩:∃w7,w7=w6.alloc (.cells #[.int .i64 y.s,.int .i64 y.j,.int .i64 y.i,.slice (some ⟨g2,0,none⟩) y.now.length cap2] 47):=⟨_,rfl⟩;have hT7:TxAt w7 T F D y:=by rw[hw7];exact hT6.alloc _
  have bR7:Blk w7 w.heap.size 28 #[.int .i64 0]:=by rw[hw7];exact bR6.alloc _
  have bS7:Blk w7 w5.heap.size 47 #[.int .i64 y.s,.int .i64 y.j,.int .i64 y.i,.slice (some ⟨g2,0,none⟩) y.now.length cap2]:=by rw[hw7,←z6];exact Blk.new _ _ _
  have B7:Below w.heap.size w w7:=by rw[hw7];exact B6.alloc B6.size _
  have hg7:w7.ownsRow w4.heap.size 4 1 (.slice (some ⟨g2,0,none⟩) y.now.length cap2) y.now.length (us.map .bool):=by rw[hw7];exact z0a (W:=w6) hg6 ((zho _ _).alloc (zhT _) _)
  have ho7:w7.ownsRow w2.heap.size 3 1 (.slice av L.length cv) L.length (L.map (.int .i64)):=by rw[hw7];exact z0a (W:=w6) ho6 ((zho _ _).alloc (zhT _) _)
  rw[hw6]at hw7;have HW7:=zhs hw7;have HC:Calls prog 97 #[.pointer (some ⟨T,0,none⟩),.agg #[.int .i64 y.s,.int .i64 y.j,.int .i64 y.i,.slice (some ⟨g2,0,none⟩) y.now.length cap2],.slice av L.length cv] w7 fun e w'=>e=.returned (.int .i64 (y.changeE L.length))∧∃F',TxAt w' T F' D (y.change us L.length)∧KeepEx w7.heap.size F w7 w'∧∀b∈F',b∈F∨b=g2:=by
   have h:=z90 T F D y g2 cap2 L.length cv av us hus w7 hT7 (Reads.of_own (n:=us.length) (c:=cap2) (by rw[hus];exact hg7)) g0 hgF
   rwa [hus]at h
  have cR5:=bR5.cells;have lR5:=bR5.lt;have fR5:=bR5.free;clear hw7 hw6 z6 hT6 bR6 B6 hg6 ho6 hus hown ho5 ho4 c13 c14 c15 c16 lT hn4;go_wp2_with fail
  rw[←HW7.out];have cR7:=bR7.cells;have lR7:=bR7.lt;have fR7:=bR7.free;have cS7:=bS7.cells;have lS7:=bS7.lt;go_wp2_with fail
  refine HC.mono ?_;rintro e w8 ⟨rfl,F',hT8,hk8,hF8⟩;have bR8:Blk w8 w.heap.size 28 #[.int .i64 0]:=hk8.blk bR7 lR7 hRF;have hRF':w.heap.size∉F':=fun hm=>by
   rcases hF8 _ hm with hm|hm
   ·exact hRF hm
   ·omega
  have z7:=B7.size;have G8:Grow w F w8 F':=⟨(KeepEx.of_below B7).trans ⟨hk8.os,hk8.tape,hk8.output,hk8.size,fun b hb hn=>hk8.block b (by omega) hn⟩,fun b hb=>by
   rcases hF8 b hb with hm|hm
   ·exact .inl hm
   ·exact .inr (by rw[hm];exact HG.out)⟩
  have ho8:w8.ownsRow w2.heap.size 3 1 (.slice av L.length cv) L.length (L.map (.int .i64)):=z0c ho7 fun q hq=>hk8.block q (by
   rcases ho7.2 with ⟨he,-⟩|⟨g',cap',cur,he,-,hk,-⟩
   ·rw[he]at hq;cases hq
   ·rw[he]at hq;cases hq;exact(zhW.1 hk).1) (fun hm=>by have h8:=(ho7.lt q hq).1;have h9:=(hT2.lt q hm).2;omega)
  have HOF:Hid (∀q,(Value.slice av L.length cv).ownBlock=some q→q∉F'):=zhs fun q hq hm=>by
   have h8:=(ho8.lt q hq).1;rcases hF8 q hm with hm|hm
   ·have h9:=(hT2.lt q hm).2;omega
   ·have h9:=HLB.out q hq;omega
  have hKO:∀W',Grow (w8.setCell ⟨w.heap.size,0,none⟩ (.int .i64 (y.changeE L.length))) F' W' F'→W'.ownsRow w.heap.size 3 1 (.slice av L.length cv) L.length (L.map (.int .i64)):=fun W' hg=>by
   have h1:(w8.setCell ⟨w.heap.size,0,none⟩ (.int .i64 (y.changeE L.length))).ownsRow w2.heap.size 3 1 (.slice av L.length cv) L.length (L.map (.int .i64)):=ownsRow_setCell_below ho8 zR2 _;refine z0D (z0c h1 fun q hq=>hg.keep.block q (by
    rcases h1.2 with ⟨he,-⟩|⟨g',cap',cur,he,-,hk,-⟩
    ·rw[he]at hq;cases hq
    ·rw[he]at hq;cases hq;exact(zhW.1 hk).1) (fun hm=>by
     have h8:=(h1.lt q hq).1;rcases hF8 q hm with hm|hm
     ·have h9:=(hT2.lt q hm).2;omega
     ·have h9:=HLB.out q hq;omega)) (by omega)
  have cR8:=bR8.cells;have lR8:=bR8.lt;have fR8:=bR8.free;have HKO:=zhs hKO;clear hKO;by_cases hE0:y.changeE L.length=0
  ·have HX2:Hid (y.take near many=(0,(y.change us L.length).after 0)∧y.takeL near many=L):=zhs (by have h:=HX.out;rw[hE0,if_pos rfl]at h;exact h)
   rw[hE0]at HKO ⊢;clear hE0 HX;go_wp2_with fail
   refine z1B (E:=0) (F0:=F) (hT8.set_ (p:=⟨w.heap.size,0,none⟩) hRF' (.int .i64 0)) (bR8.set_ 0 (.int .i64 0)) hRF' (G8.cellAt (zhT _) _) (fun W' hc _=>z2M (m:=6) (n:=7) (v:=.slice av L.length cv) (t:=28) (by rfl) (by simp) (by simp) rfl hc) (fun W' hT' hg hg2=>?_)
   exact⟨_,by rw[HX2.out.1],by rw[HX2.out.2];exact HKO.out W' hg2,F',by rw[HX2.out.1];exact hT',hg,HOF.out⟩
  ·have HX2:Hid (y.take near many=(y.changeE L.length,(y.change us L.length).after (y.changeE L.length))∧y.takeL near many=[]):=zhs (by have h:=HX.out;rw[if_neg hE0]at h;exact h)
   clear HX HKO;generalize y.changeE L.length=E at *;have hE':(E != 0)=true:=by simpa using hE0
   clear hE0;go_wp2_with fail
   refine z1B (E:=E) (F0:=F) (hT8.set_ (p:=⟨w.heap.size,0,none⟩) hRF' (.int .i64 E)) (bR8.set_ 0 (.int .i64 E)) hRF' (G8.cellAt (zhT _) _) (fun W' hc _=>z2M (m:=6) (n:=7) (v:=.slice none 0 0) (t:=28) (by rfl) (by simp) (by simp) rfl hc) (fun W' hT' hg hg2=>?_)
   exact⟨_,by rw[HX2.out.1],by rw[HX2.out.2];exact World.ownsRow_nil _ _ _ _,F',by rw[HX2.out.1];exact hT',hg,fun q hq=>by cases hq⟩
theorem zg2 (T:Nat)(F:List Nat)(D:Nat)(y:TxS)(near many:Int)(w:World)(h:TxAt w T F D y):
  Calls prog 34 #[.pointer (some ⟨T,0,none⟩),.int .i64 near,.int .i64 many] w (zeh w T F D (y.take near many).1 (y.take near many).2 (y.takeL near many)):=by
 by_cases hE:y.stateE=0
 ·exact zdo T F D y near many w h hE
 ·refine(zbC _ near many _ w h.st hE).mono ?_;rintro e w' ⟨rfl,hb⟩;unfold TxS.take TxS.takeL;rw[if_pos (by simpa using hE),if_pos (by simpa using hE)]
  exact⟨_,rfl,World.ownsRow_nil _ _ _ _,F,h.below hb,Grow.of_below hb F,fun q hq=>by cases hq⟩
theorem zfW (T:Nat)(F:List Nat)(D:Nat)(y:TxS)(Bl:Option Addr)(cb:Nat)(l:List Int)(hl:l.length≤1000)(w:World)(h:TxAt w T F D y)(hB:Reads w Bl (l.map (.int .i64))):
  Calls prog 40 #[.pointer (some ⟨T,0,none⟩),.slice Bl l.length cb] w (zfp w T F D (y.free l).1 (y.free l).2):=by
 by_cases hE:y.stateE=0
 ·exact zdW T F D y Bl cb l hl w h hE hB
 ·refine(zbU _ _ _ w h.st hE).mono ?_;rintro e w' ⟨rfl,hb⟩;unfold TxS.free;rw[if_pos (by simpa using hE)]
  exact⟨rfl,F,h.below hb,Grow.of_below hb F⟩
end Go.Proofs.YtejmknghkbobnaaGreatDoor
