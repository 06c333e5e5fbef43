import Derived.Test.YtejmknghkbobnaaGreatDoorPart00
import Derived.Test.YtejmknghkbobnaaGreatDoorPart31
set_option linter.unusedVariables false
set_option linter.unusedSimpArgs false
set_option maxRecDepth 100000
set_option maxHeartbeats 8000000
namespace Go.Proofs.YtejmknghkbobnaaGreatDoor
open Go.Proofs.Tryz
open Go.RowKit Go.Maps
def TxS.after (y:TxS)(E:Int):TxS:=if badE E=true then y.brk else y
theorem zev {E:Int}(h:E=0∨E=1∨E=9):badE E=false:=by unfold badE;rcases h with rfl|rfl|rfl<;>decide
theorem zaz {E:Int}(h0:E≠0)(h1:E≠1)(h9:E≠9):badE E=true:=by unfold badE;simp[h0,h1,h9]
theorem za4 {fn:Func}{tmps:Array Value}{Rp:Ending→World→Prop}{T R:Nat}{F:List Nat}{D:Nat}{y:TxS}{E:Int}{W:World}(hT:TxAt W T F D y)(bR:Blk W R 28 #[.int .i64 E])(hRF:R∉F)
  (h:∀W',TxAt W' T F D (y.after E)→Blk W' R 28 #[.int .i64 E]→Grow W F W' F→∃v,(results fn tmps).run prog W'=.ok v W'∧Rp (.returned v) W'):
  Leaves prog fn tmps Rp [{ target:=.fn (.func 94) #[],args:=#[.pointer (some ⟨T,0,none⟩),.pointer (some ⟨R,0,none⟩)] }] .returning W:=by
 have cR:=(bR.cells 0).trans rfl;refine leaves_cons (f:=94) (args:=#[.pointer (some ⟨T,0,none⟩),.pointer (some ⟨R,0,none⟩)]) (by simp) (by simp[go_sem]) ?_
 by_cases hE:E=0∨E=1∨E=9
 ·refine(z9J T R E .returning W cR bR.lt hE).mono ?_;rintro e u' w' ⟨rfl,rfl,rfl⟩;refine h _ ?_ bR (Grow.refl _ _);unfold TxS.after;rw[zev hE,if_neg (by simp)]
  exact hT
 ·have h0:E≠0:=fun e=>hE (.inl e)
  have h1:E≠1:=fun e=>hE (.inr (.inl e))
  have h9:E≠9:=fun e=>hE (.inr (.inr e))
  refine(zbm T R F D y E .returning W hT cR bR.lt h0 h1 h9).mono ?_;rintro e u' w' ⟨rfl,rfl,rfl⟩;have hTF:T∈F:=by obtain⟨-,⟨M,wv,nv,-,hT,-⟩,-⟩:=hT;exact hT
  refine h _ ?_ (bR.far (fun e=>hRF (by rw[e];exact hTF)) _) ?_
  ·unfold TxS.after;rw[zaz h0 h1 h9,if_pos rfl];exact hT.broken
  ·refine⟨⟨rfl,rfl,rfl,by simp,fun b _ hn=>Below.heap_setCell W _ _ b (fun e=>hn (by rw[e];exact hTF))⟩,fun b hb=>.inl hb⟩
theorem zcD {w:World}{M n:Nat}{E:DataW Unit}(h:w.ownsMap prog 3 recR M n E):w.ownsMap prog 3 recR M (Maps.size E) E:=by
 obtain⟨es,clock,hb,F,hle,rfl⟩:=h;exact⟨es,clock,hb,F,by simp[Maps.size,Go.length_sorted],rfl⟩
theorem TxAt.puts {w w':World}{T M:Nat}{F:List Nat}{D:Nat}{y:TxS}{wv nv:Value}{r:Rec}{E:DataW Unit}{n:Nat}(ok:y.Ok)(bT:Blk w T 148 (txC D y.s y.j y.i wv nv M y.changed y.broken y.ended))(hT:T∈F)(hM:M∈F)(hMT:M≠T)(hE:RecMap E y.writes)
  (hw:SlB w F T M wv y.was) (hn:SlB w F T M nv y.now) (lt:∀b∈F,0<b∧b<w.heap.size)
  (hO:w'.ownsMap prog 3 recR M n (E.put (.int .i64 r.at_) (recD r))) (hg:w.grownBy w' (some M))
  (hr:0≤r.at_∧r.at_<y.s∧1≤r.kind∧r.kind≤255∧r.data.data.size≤112) (hl:(z0Y y.writes r.at_).isSome=true∨1≤y.left):
  TxAt w' T F D { y with writes:=z0s y.writes r }:=by
 have hb:∀b,b<w.heap.size→b≠M→w'.heap[b]?=w.heap[b]?:=fun b hb hne=>hg.block b hb (fun e=>hne (by cases e;rfl))
 have hs:w.heap.size≤w'.heap.size:=hg.size;have sl:∀v l,SlB w F T M v l→SlB w' F T M v l:=by
  rintro v l ⟨A,c,h1,h2,h3⟩;refine⟨A,c,h1,?_,h3⟩
  rcases h2 with h2|⟨b,off,rfl,hl,hc⟩
  ·exact .inl h2
  ·exact .inr ⟨b,off,rfl,zhR hl hs,fun k u hu=>(World.cell?_of_block (w:=w) (a:=⟨b,off+k,none⟩) (hb b hl (h3 _ rfl).2.2)).trans (hc k u hu)⟩
 have hO2:=zcD hO;have hput:=hE.put r;rw[hput.size_]at hO2;refine⟨⟨ok.rg,ok.was,ok.now,fun q hq=>?_,?_⟩,⟨M,wv,nv,(hb T (lt T hT).2 (Ne.symm hMT)).trans bT,hT,hM,hMT,⟨_,hput,hO2⟩,sl _ _ hw,sl _ _ hn⟩,fun b hm=>⟨(lt b hm).1,zhR (lt b hm).2 hs⟩⟩
 ·rcases z3A hq with rfl|hq
  ·exact hr
  ·exact ok.recs q hq
 ·have h1:=ok.len;have h2:=z2r hE.asc r;unfold TxS.left at h1 hl ⊢;show 0≤y.most - ((z0s y.writes r).length:Int) - _
  rw[h2];split
  ·exact h1
  ·rename_i h3
   rcases hl with hl|hl
   ·exact absurd hl h3
   ·simp only;omega
theorem z1B {fn:Func}{tmps:Array Value}{Rp:Ending→World→Prop}{T R:Nat}{F0 F:List Nat}{D:Nat}{y:TxS}{E:Int}{v:Value}{w V:World}(hT:TxAt V T F D y)(bR:Blk V R 28 #[.int .i64 E])(hRF:R∉F)(hG:Grow w F0 V F)
  (hres:∀W',W'.cell? ⟨R,0,none⟩=some (.int .i64 E)→R<W'.heap.size→(results fn tmps).run prog W'=.ok v W') (hP:∀W',TxAt W' T F D (y.after E)→Grow w F0 W' F→Grow V F W' F→Rp (.returned v) W'):
  Leaves prog fn tmps Rp [{ target:=.fn (.func 94) #[],args:=#[.pointer (some ⟨T,0,none⟩),.pointer (some ⟨R,0,none⟩)] }] .returning V:=
 za4 hT bR hRF fun W' hT' bR' hg=>⟨v,hres W' ((bR'.cells 0).trans rfl) bR'.lt,hP W' hT' (hG.trans hg) hg⟩
theorem z1I {fn:Func}{tmps:Array Value}{W:World}{R n:Nat}{t:TypeId}{E:Int}(hr:fn.results=#[.cell n t])(hn:tmps.getD n undef=.pointer (some ⟨R,0,none⟩))(ht:t=28)(hc:W.cell? ⟨R,0,none⟩=some (.int .i64 E)):(results fn tmps).run prog W=.ok (.int .i64 E) W:=by
 subst ht;rw[Array.getD_eq_getD_getElem?]at hn;simp[results,hr,hn,go_sem,hc]
theorem TxS.after_bad {y:TxS}{E:Int}(h0:E≠0)(h1:E≠1)(h9:E≠9):y.after E=y.brk:=by unfold TxS.after;rw[zaz h0 h1 h9,if_pos rfl]
theorem TxS.after_0 {y:TxS}:y.after 0=y:=by unfold TxS.after;rw[zev (.inl rfl),if_neg (by simp)]
theorem TxAt.TF {w:World}{T:Nat}{F:List Nat}{D:Nat}{y:TxS}(h:TxAt w T F D y):T∈F:=by obtain⟨-,⟨M,wv,nv,-,hT,-⟩,-⟩:=h;exact hT
theorem TxAt.drewN {w:World}{T:Nat}{F:List Nat}{D:Nat}{y:TxS}(h:TxAt w T F D y)(n:Nat):TxAt (w.drewN n) T F D y:=h.below (z00 (zho _ _) n)
theorem Blk.drewN {w:World}{g:Nat}{t:TypeId}{cs:Array Value}(h:Blk w g t cs)(n:Nat):Blk (w.drewN n) g t cs:=h.belowAll (z00 (zho _ _) n)
theorem Grow.cellAt {w V:World}{F F':List Nat}(h:Grow w F V F'){p:Addr}(hp:w.heap.size≤p.block)(u:Value):Grow w F (V.setCell p u) F':=
 ⟨h.keep.trans (KeepEx.setCell V (.inr hp) u),h.new⟩
theorem za5 (tv:Value)(E a k:Int)(d:ByteArray)(w:World)(h:StE w tv E)(hE:E≠0):
  Calls prog 35 #[tv,.int .i64 a,.int .i64 k,.string d] w fun e w'=>e=.returned (.int .i64 E)∧Below w.heap.size w w':=by
 obtain⟨wA,hA⟩:∃wA,wA=w.alloc (.cells #[.int .i64 0] 28):=⟨_,rfl⟩;have bR:Blk wA w.heap.size 28 #[.int .i64 0]:=by rw[hA];exact(by (repeat' (first|(with_reducible assumption)|exact Blk.new' (by simp)|refine Blk.alloc ?_ _)))
 have BA:Below w.heap.size w wA:=by rw[hA];(repeat' (first|with_reducible (first|exact zho _ _|assumption|refine zhp ?_ ?_ _|refine zhq ?_|refine z00 ?_ _|refine zhr ?_ ?_ _|exact zhT _)|omega|(simp;done)|(simp;omega)))
 have hst:=z19 tv E wA (h.below BA);have hE':(E != 0)=true:=by simpa using hE
 clear hE;go_enter_defers func35,ntmps35
 go_wp2_with fail
 rw[←hA];go_wp2_with fail
 refine hst.mono ?_;rintro e w1 ⟨rfl,hb1⟩;have B1:=BA.trans (hb1.mono BA.size);have bR1:=bR.belowAll hb1;clear hA hst hb1 bR BA;have cR:=bR1.cells;have lR:=bR1.lt;have fR:=bR1.free;go_wp2_with fail
 have cF:=(bR1.set_ 0 (.int .i64 E)).cells;refine⟨.int .i64 E,z1I (n:=8) (t:=28) (by rfl) (by simp) rfl ((cF 0).trans rfl),rfl,?_⟩
 exact zhr (p:=⟨w.heap.size,0,none⟩) B1 (zhT _) _
theorem TxS.write_err {y:TxS}{a k:Int}{d:ByteArray}{E:Int}(hs:y.stateE=0)(h:y.writeE a k d.size=E)(h0:E≠0):y.write a k d=(E,y.brk):=by
 unfold TxS.write;rw[if_neg (by simpa using hs),if_pos (by rw[h];exact h0),h]
theorem TxS.write_ok {y:TxS}{a k:Int}{d:ByteArray}(hs:y.stateE=0)(h:y.writeE a k d.size=0):y.write a k d=(0,{ y with writes:=z0s y.writes ⟨a,k,d⟩ }):=by
 unfold TxS.write;rw[if_neg (by simpa using hs),if_neg (by simpa using h)]
end Go.Proofs.YtejmknghkbobnaaGreatDoor
