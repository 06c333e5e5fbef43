import Derived.Test.YtejmknghkbobnaaGreatDoorPart00
import Derived.Test.YtejmknghkbobnaaGreatDoorPart33
import Derived.Test.YtejmknghkbobnaaGreatDoorPart34
set_option linter.unusedVariables false
set_option linter.unusedSimpArgs false
set_option maxRecDepth 100000
set_option maxHeartbeats 8000000
namespace Go.Proofs.YtejmknghkbobnaaGreatDoor
open Go.Proofs.Tryz
open Go.RowKit Go.Maps
theorem zfj (n:Nat)(l:List Int)(k:Nat):LsE n l k=0∨LsE n l k=7∨LsE n l k=8:=by
 induction k with
 | zero=>exact .inl rfl
 | succ k ih=>
  unfold LsE;split
  ·unfold za0;split
   ·exact .inr (.inl rfl)
   ·split
    ·exact .inr (.inr rfl)
    ·exact .inl rfl
  ·exact ih
theorem zeW {s j i:Int}{us:List Bool}{l:List Int}{u:Bool}{al:Int}(hC:CkE s j i us.length=0):TnE s j i us l u al=0∨TnE s j i us l u al=7∨TnE s j i us l u al=8∨TnE s j i us l u al=al:=by
 unfold TnE;rw[if_pos hC];split
 ·split
  ·exact .inr (.inr (.inr rfl))
  ·exact .inl rfl
 ·rcases zfj us.length l l.length with h|h|h
  ·exact .inl h
  ·exact .inr (.inl h)
  ·exact .inr (.inr (.inl h))
theorem z5n (y:TxS)(n:Nat):y.changeE n=0∨(y.changeE n=12∧∀us,y.change us n=y):=by
 unfold TxS.changeE TxS.change;split
 ·exact .inl rfl
 ·split
  ·exact .inr ⟨rfl,fun _=>rfl⟩
  ·exact .inl rfl
theorem z7t {y:TxS}(h:y.Ok):CkE y.s y.j y.i y.now.length=0:=by rw[h.now];exact z7M h.rg
theorem zgS {y:TxS}{l:List Int}(hs:y.stateE=0)(h:TnE y.s y.j y.i y.now l false 4≠0):y.free l=(TnE y.s y.j y.i y.now l false 4,y.brk):=by
 have e:y.freeE l=TnE y.s y.j y.i y.now l false 4:=by unfold TxS.freeE;rw[if_pos h]
 unfold TxS.free;rw[if_neg (by simpa using hs),e,if_pos h]
theorem zh6 {y:TxS}{l:List Int}(hs:y.stateE=0)(h:TnE y.s y.j y.i y.now l false 4=0):y.free l=(y.changeE l.length,(y.change (z0M y.now l false) l.length).after (y.changeE l.length)):=by
 have e:y.freeE l=y.changeE l.length:=by unfold TxS.freeE;rw[if_neg (by simpa using h)]
 unfold TxS.free;rw[if_neg (by simpa using hs),e]
 rcases z5n y l.length with h|⟨h,h2⟩
 ·rw[if_neg (by simpa using h),h,TxS.after_0]
 ·rw[if_pos (by rw[h];decide),h,h2,TxS.after_bad (by decide) (by decide) (by decide)]
theorem zbU (tv sv:Value)(E:Int)(w:World)(h:StE w tv E)(hE:E≠0):
  Calls prog 40 #[tv,sv] w fun e w'=>e=.returned (.int .i64 E)∧Below w.heap.size w w':=by
 obtain⟨wA,hA⟩:∃wA,wA=w.alloc (.cells #[.int .i64 0] 28):=⟨_,rfl⟩;have bR:Blk wA w.heap.size 28 #[.int .i64 0]:=by rw[hA];exact(by (repeat' (first|(with_reducible assumption)|exact Blk.new' (by simp)|refine Blk.alloc ?_ _)))
 have BA:Below w.heap.size w wA:=by rw[hA];(repeat' (first|with_reducible (first|exact zho _ _|assumption|refine zhp ?_ ?_ _|refine zhq ?_|refine z00 ?_ _|refine zhr ?_ ?_ _|exact zhT _)|omega|(simp;done)|(simp;omega)))
 have hst:=z19 tv E wA (h.below BA);have hE':(E != 0)=true:=by simpa using hE
 clear hE;go_enter_defers func40,ntmps40
 go_wp2_with fail
 rw[←hA];go_wp2_with fail
 refine hst.mono ?_;rintro e w1 ⟨rfl,hb1⟩;have B1:=BA.trans (hb1.mono BA.size);have bR1:=bR.belowAll hb1;clear hA hst hb1 bR BA;have cR:=bR1.cells;have lR:=bR1.lt;have fR:=bR1.free;go_wp2_with fail
 have cF:=(bR1.set_ 0 (.int .i64 E)).cells;refine⟨.int .i64 E,z1I (n:=4) (t:=28) (by rfl) (by simp) rfl ((cF 0).trans rfl),rfl,?_⟩
 exact zhr (p:=⟨w.heap.size,0,none⟩) B1 (zhT _) _
theorem zdW (T:Nat)(F:List Nat)(D:Nat)(y:TxS)(Bl:Option Addr)(cb:Nat)(l:List Int)(hl:l.length≤1000)(w:World)(h:TxAt w T F D y)(hE:y.stateE=0)(hB:Reads w Bl (l.map (.int .i64))):
  Calls prog 40 #[.pointer (some ⟨T,0,none⟩),.slice Bl l.length cb] w (zfp w T F D (y.free l).1 (y.free l).2):=by
 obtain⟨wA,hA⟩:∃wA,wA=w.alloc (.cells #[.int .i64 0] 28):=⟨_,rfl⟩;have bR:Blk wA w.heap.size 28 #[.int .i64 0]:=by rw[hA];exact(by (repeat' (first|(with_reducible assumption)|exact Blk.new' (by simp)|refine Blk.alloc ?_ _)))
 have BA:Below w.heap.size w wA:=by rw[hA];(repeat' (first|with_reducible (first|exact zho _ _|assumption|refine zhp ?_ ?_ _|refine zhq ?_|refine z00 ?_ _|refine zhr ?_ ?_ _|exact zhT _)|omega|(simp;done)|(simp;omega)))
 have hTA:=h.below BA;have hst:=z19 _ _ wA hTA.st;rw[hE]at hst;have HS:=zhs hE;have hRF:w.heap.size∉F:=h.far (zhT _);have H0:Hid (0<w.heap.size):=zhs (by have:=h.lt T h.TF;omega)
 clear hE;go_enter_defers func40,ntmps40
 go_wp2_with fail
 rw[←hA];go_wp2_with fail
 refine hst.mono ?_;rintro e w1 ⟨rfl,hb1⟩;have hT1:=hTA.below hb1;have bR1:=bR.belowAll hb1;have B1:=BA.trans (hb1.mono BA.size);have hB1:=hB.below B1;clear hA hst hb1 bR BA hTA h hB;have HCK:=zhs (z7t hT1.ok);have hbd:=hT1.ok.bds;have HNL:Hid (y.now.length≤1000):=zhs (by omega)
 have hTT:=hT1;obtain⟨ok,⟨M,wv,nv,bT,hT,hM,hMT,hO,hw,⟨A,c,rfl,hn,hnF⟩⟩,lt⟩:=hTT;have c13:w1.cell? ⟨T,13,none⟩=some (.int .i64 y.s):=(bT.cells 13).trans rfl;have c14:w1.cell? ⟨T,14,none⟩=some (.int .i64 y.j):=(bT.cells 14).trans rfl;have c15:w1.cell? ⟨T,15,none⟩=some (.int .i64 y.i):=(bT.cells 15).trans rfl;have c16:w1.cell? ⟨T,16,none⟩=some (.slice A y.now.length c):=(bT.cells 16).trans rfl;have lT:=bT.lt;clear bT hT hM hMT hO hw hnF lt ok;go_wp2_with fail
 refine(zd3 y.s y.j y.i A Bl c cb y.now l HNL.out hl w1 hn hB1).mono ?_;rintro e w2 ⟨hb2,hpost⟩;have hT2:=hT1.below hb2;have bR2:=bR1.belowAll hb2;have B2:=B1.trans (hb2.mono B1.size);have hB2:=hB1.below hb2;clear c13 c14 c15 c16 lT hn;rcases hpost with ⟨hne,rfl⟩|⟨h0,g,cap,rfl,hown⟩
 ·have HX:=zhs (zgS HS.out hne);have HV:=zhs (zeW (l:=l) (u:=false) (al:=4) HCK.out);have HN:=zhs hne;generalize TnE y.s y.j y.i y.now l false 4=E at *;have hE':(E != 0)=true:=by simpa using hne
  clear hne;have hTS:=(((hT2.set_ (p:=⟨w.heap.size,0,none⟩) hRF (.int .i64 E)).set_ (p:=⟨w.heap.size,0,none⟩) hRF (.int .i64 E))).alloc (.cells #[.int .i64 y.s,.int .i64 y.j,.int .i64 y.i,.slice A y.now.length c] 47);have bRS:=((bR2.set_ 0 (.int .i64 E)).set_ 0 (.int .i64 E)).alloc (.cells #[.int .i64 y.s,.int .i64 y.j,.int .i64 y.i,.slice A y.now.length c] 47);have BS:=((B2.setCell (p:=⟨w.heap.size,0,none⟩) (zhT _) (.int .i64 E)).setCell (p:=⟨w.heap.size,0,none⟩) (zhT _) (.int .i64 E)).alloc (by simpa using B2.size) (.cells #[.int .i64 y.s,.int .i64 y.j,.int .i64 y.i,.slice A y.now.length c] 47)
  have cR2:=bR2.cells;have lR2:=bR2.lt;have fR2:=bR2.free;go_wp2_with fail
  refine z1B (E:=E) (F0:=F) hTS bRS hRF (Grow.of_below BS F) (fun W' hc _=>z1I (n:=4) (t:=28) (by rfl) (by simp) rfl hc) (fun W' hT' hg _=>?_)
  rw[TxS.after_bad HN.out (by have:=HV.out;omega) (by have:=HV.out;omega)]at hT'
  exact⟨by rw[HX.out],F,by rw[HX.out];exact hT',hg⟩
 ·have HX:=zhs (zh6 HS.out h0);clear h0;have hus:=z1u y.now l false;generalize z0M y.now l false=us at *;have hgl:=hown.lt g rfl;have hgF:g∉F:=fun hm=>by have:=(hT1.lt g hm).2;omega
  obtain⟨w3,hw3⟩:∃w3,w3=w2.setCell ⟨w.heap.size,0,none⟩ (.int .i64 0):=⟨_,rfl⟩;have hT3:TxAt w3 T F D y:=by rw[hw3];exact hT2.set_ (p:=⟨w.heap.size,0,none⟩) hRF _
  have bR3:Blk w3 w.heap.size 28 #[.int .i64 0]:=by rw[hw3];exact bR2.set_ 0 _
  have B3:Below w.heap.size w w3:=by rw[hw3];exact B2.setCell (p:=⟨w.heap.size,0,none⟩) (zhT _) _
  have ho3:w3.ownsRow w1.heap.size 4 1 (.slice (some ⟨g,0,none⟩) y.now.length cap) y.now.length (us.map .bool):=by rw[hw3];exact ownsRow_setCell_below hown (by have:=bR1.lt;exact this) _
  have z3:w3.heap.size=w2.heap.size:=by rw[hw3];simp
  obtain⟨w4,hw4⟩:∃w4,w4=w3.alloc (.cells #[.int .i64 y.s,.int .i64 y.j,.int .i64 y.i,.slice (some ⟨g,0,none⟩) y.now.length cap] 47):=⟨_,rfl⟩;have hT4:TxAt w4 T F D y:=by rw[hw4];exact hT3.alloc _
  have bR4:Blk w4 w.heap.size 28 #[.int .i64 0]:=by rw[hw4];exact bR3.alloc _
  have bS4:Blk w4 w2.heap.size 47 #[.int .i64 y.s,.int .i64 y.j,.int .i64 y.i,.slice (some ⟨g,0,none⟩) y.now.length cap]:=by rw[hw4,←z3];exact Blk.new _ _ _
  have B4:Below w.heap.size w w4:=by rw[hw4];exact B3.alloc B3.size _
  have ho4:w4.ownsRow w1.heap.size 4 1 (.slice (some ⟨g,0,none⟩) y.now.length cap) y.now.length (us.map .bool):=by rw[hw4];exact z0a (W:=w3) ho3 ((zho _ _).alloc (zhT _) _)
  have cR2:=bR2.cells;have lR2:=bR2.lt;have fR2:=bR2.free;have g0:0<g:=by have:=H0.out;have:=bR1.lt;omega
  rw[hw3]at hw4;have HW4:=zhs hw4;clear z3 hw3 ho3 B3 bR3 hT3 hw4;have cS4:=bS4.cells;have lS4:=bS4.lt;have HC:Calls prog 97 #[.pointer (some ⟨T,0,none⟩),.agg #[.int .i64 y.s,.int .i64 y.j,.int .i64 y.i,.slice (some ⟨g,0,none⟩) y.now.length cap],.slice Bl l.length cb] w4 fun e w'=>e=.returned (.int .i64 (y.changeE l.length))∧∃F',TxAt w' T F' D (y.change us l.length)∧KeepEx w4.heap.size F w4 w'∧∀b∈F',b∈F∨b=g:=by
   have h:=z90 T F D y g cap l.length cb Bl us hus w4 hT4 (Reads.of_own (n:=us.length) (c:=cap) (by rw[hus];exact ho4)) g0 hgF
   rwa [hus]at h
  have HUS:=zhs hus;clear hus ho4 hown;go_wp2_with fail
  rw[←HW4.out];have cR4:=bR4.cells;have lR4:=bR4.lt;have fR4:=bR4.free;go_wp2_with fail
  refine HC.mono ?_;rintro e w5 ⟨rfl,F',hT5,hk5,hF5⟩;have z4:=B4.size;have bR5:Blk w5 w.heap.size 28 #[.int .i64 0]:=hk5.blk bR4 lR4 hRF;have hRF':w.heap.size∉F':=fun hm=>by
   rcases hF5 _ hm with hm|hm
   ·exact hRF hm
   ·have:=bR1.lt;omega
  have G5:Grow w F w5 F':=⟨(KeepEx.of_below B4).trans ⟨hk5.os,hk5.tape,hk5.output,hk5.size,fun b hb hn=>hk5.block b (by omega) hn⟩,fun b hb=>by
   rcases hF5 b hb with hm|hm
   ·exact .inl hm
   ·have:=B1.size;exact .inr (by omega)⟩
  generalize y.changeE l.length=E at *;have cR5:=bR5.cells;have lR5:=bR5.lt;have fR5:=bR5.free;go_wp2_with fail
  refine z1B (E:=E) (F0:=F) (hT5.set_ (p:=⟨w.heap.size,0,none⟩) hRF' (.int .i64 E)) (bR5.set_ 0 (.int .i64 E)) hRF' (G5.cellAt (zhT _) _) (fun W' hc _=>z1I (n:=4) (t:=28) (by rfl) (by simp) rfl hc) (fun W' hT' hg _=>?_)
  exact⟨by rw[HX.out],F',by rw[HX.out];exact hT',hg⟩
end Go.Proofs.YtejmknghkbobnaaGreatDoor
