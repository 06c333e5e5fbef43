import Derived.Test.YtejmknghkbobnaaGreatDoorPart00
import Derived.Test.YtejmknghkbobnaaGreatDoorPart16
set_option linter.unusedVariables false
set_option linter.unusedSimpArgs false
set_option maxRecDepth 100000
set_option maxHeartbeats 8000000
namespace Go.Proofs.YtejmknghkbobnaaGreatDoor
open Go.Proofs.Tryz
open Go.RowKit Go.Maps
def TxS.changeE (y:TxS)(n:Nat):Int:=if n=0 then 0 else if y.changed=false∧y.left<1 then 12 else 0
def TxS.change (y:TxS)(us:List Bool)(n:Nat):TxS:=if n=0 then y else if y.changed=false∧y.left<1 then y else { y with now:=us,changed:=true }
def zfp (w:World)(T:Nat)(F:List Nat)(D:Nat)(E:Int)(y:TxS)(e:Ending)(w':World):Prop:=e=.returned (.int .i64 E)∧∃F',TxAt w' T F' D y∧Grow w F w' F'
theorem z2b {W:World}{g o:Nat}{t ty:TypeId}{cur:Array Value}{vs:Array Value}(b:Blk W g t cur)(hl:o+vs.size≤cur.size)(h1:vs.all (·.oneCell')=true)(hsz:(sizeOf ty).run prog W=.ok vs.size W):
  (Instr.storeAt ty (.pointer (some ⟨g,o,none⟩)) (.agg vs)).run prog W=.ok () (W.setRow g (cur.toList.take o++vs.toList++cur.toList.drop (o+vs.toList.length)).toArray):=by
 have h:=z0W (P:=prog) (w:=W) (ty:=ty) (t:=t) (g:=g) (o:=o) (cur:=cur) (vs:=vs.toList) b (by simpa using hl) (fun v hv=>by
  have:=Array.all_eq_true'.1 h1 v (by simpa using hv)
  exact this) (by simpa using hsz)
 simpa using h
theorem z90 (T:Nat)(F:List Nat)(D:Nat)(y:TxS)(g cap n cl:Nat)(Al:Option Addr)(us:List Bool)(hus:us.length=y.now.length)(w:World)(h:TxAt w T F D y)(hR:Reads w (some ⟨g,0,none⟩) (us.map .bool))(hg:0<g)(hgF:g∉F):
  Calls prog 97 #[.pointer (some ⟨T,0,none⟩),.agg #[.int .i64 y.s,.int .i64 y.j,.int .i64 y.i,.slice (some ⟨g,0,none⟩) us.length cap],.slice Al n cl] w fun e w'=>e=.returned (.int .i64 (y.changeE n))∧∃F',TxAt w' T F' D (y.change us n)∧KeepEx w.heap.size F w w'∧∀b∈F',b∈F∨b=g:=by
 have HUS:=zhs hus;clear hus;obtain⟨wA,hA⟩:∃wA,wA=w.alloc (.cells #[.int .i64 y.s,.int .i64 y.j,.int .i64 y.i,.slice (some ⟨g,0,none⟩) us.length cap] 47):=⟨_,rfl⟩;have bS:Blk wA w.heap.size 47 #[.int .i64 y.s,.int .i64 y.j,.int .i64 y.i,.slice (some ⟨g,0,none⟩) us.length cap]:=by rw[hA];exact(by (repeat' (first|(with_reducible assumption)|exact Blk.new' (by simp)|refine Blk.alloc ?_ _)))
 have BA:Below w.heap.size w wA:=by rw[hA];(repeat' (first|with_reducible (first|exact zho _ _|assumption|refine zhp ?_ ?_ _|refine zhq ?_|refine z00 ?_ _|refine zhr ?_ ?_ _|exact zhT _)|omega|(simp;done)|(simp;omega)))
 have hTA:=h.below BA;have HE:Hid (y.changeE n=if n=0 then 0 else if y.changed=false∧y.left<1 then 12 else 0):=zhs rfl
 have HC:Hid (y.change us n=if n=0 then y else if y.changed=false∧y.left<1 then y else { y with now:=us,changed:=true }):=zhs rfl
 by_cases hn:n=0
 ·subst hn;go_enter func97,ntmps97
  go_wp2_with fail
  go_ret
  rw[←hA];exact⟨by rw[HE.out];rfl,F,by rw[HC.out];exact hTA,KeepEx.of_below BA,fun b hb=>.inl hb⟩
 have hn':((n:Int)==0)=false:=by rw[beq_eq_false_iff_ne];omega
 have HN:=zhs hn;have hlf:=z5v T F D y wA hTA;obtain⟨M0,wv0,nv0,bT0,-⟩:=h.mem;have c18w:w.cell? ⟨T,18,none⟩=some (.bool y.changed):=(bT0.cells 18).trans rfl;have lTw:=bT0.lt;clear bT0;clear hn;have hTA2:=hTA;obtain⟨ok,⟨M,wv,nv,bT,hT,hM,hMT,hO,hw,hnn⟩,lt⟩:=hTA;have cT:=bT.cells;have lT:=bT.lt;have cS:=bS.cells;have lS:=bS.lt;have c18:wA.cell? ⟨T,18,none⟩=some (.bool y.changed):=(cT 18).trans rfl;have hB:∀wz,Below wA.heap.size wA wz→(y.changed=true∨¬y.left<1)→(HX:Hid (y.changeE n=0∧y.change us n={ y with now:=us,changed:=true }))→True:=fun _ _ _ _=>trivial
 cases hch:y.changed;rotate_left
 ·have HX:Hid (y.changeE n=0∧y.change us n={ y with now:=us,changed:=true }):=zhs (by rw[HE.out,HC.out,if_neg HN.out,if_neg HN.out,hch,if_neg (by simp),if_neg (by simp)];exact⟨rfl,rfl⟩)
  rw[hch]at c18 c18w;clear cT;have hst:=z2b (ty:=47) (o:=13) (vs:=#[.int .i64 y.s,.int .i64 y.j,.int .i64 y.i,.slice (some ⟨g,0,none⟩) us.length cap]) bT (by simp) (by simp[Value.oneCell']) (by kernel_rfl)
  have hcs:((txC D y.s y.j y.i wv nv M y.changed y.broken y.ended).toList.take 13++(#[.int .i64 y.s,.int .i64 y.j,.int .i64 y.i,.slice (some ⟨g,0,none⟩) us.length cap]:Array Value).toList++(txC D y.s y.j y.i wv nv M y.changed y.broken y.ended).toList.drop (13+(#[.int .i64 y.s,.int .i64 y.j,.int .i64 y.i,.slice (some ⟨g,0,none⟩) us.length cap]:Array Value).toList.length)).toArray=txC D y.s y.j y.i wv (.slice (some ⟨g,0,none⟩) us.length cap) M y.changed y.broken y.ended:=rfl;rw[hcs]at hst;obtain⟨W2,hW2⟩:∃W2,W2=wA.setRow T (txC D y.s y.j y.i wv (.slice (some ⟨g,0,none⟩) us.length cap) M y.changed y.broken y.ended):=⟨_,rfl⟩;have bT2:Blk W2 T 148 (txC D y.s y.j y.i wv (.slice (some ⟨g,0,none⟩) us.length cap) M y.changed y.broken y.ended):=by rw[hW2];exact bT.setRow
  rw[←hW2,hA]at hst;have HW2:=zhs hW2;have HA:=zhs hA;clear hW2 hA;have c2:W2.cell? ⟨T,18,none⟩=some (.bool y.changed):=(bT2.cells 18).trans rfl;rw[hch]at c2;have l2:=bT2.lt;have f2:=bT2.free;go_enter func97,ntmps97
  go_wp2_with (refine z01 rfl _ _ _ rfl _ _ rfl rfl hst ?_)
  go_ret
  have bT3:=bT2.set_ 18 (.bool true);have hk:∀b,b≠T→(W2.setCell ⟨T,18,none⟩ (.bool true)).heap[b]?=wA.heap[b]?:=fun b hb=>(Below.heap_setCell W2 ⟨T,18,none⟩ _ b hb).trans (by rw[HW2.out];exact z0b wA T b _ hb)
  have hzs:(W2.setCell ⟨T,18,none⟩ (.bool true)).heap.size=wA.heap.size:=by rw[HW2.out];simp
  have hzA:wA.heap.size=w.heap.size+1:=by rw[HA.out];simp
  have hTw:=(h.lt T hT).2;refine⟨by rw[HX.out.1];rfl,g::F,?_,?_,?_⟩
  focus
   rw[HX.out.2];obtain⟨E,hE,hO⟩:=hO;have hus:=HUS.out;have hbd:=ok.bds;have hgw:g<w.heap.size:=by
    rcases hR with h0|⟨b,off,he,hl,-⟩
    ·have:=congrArg List.length h0
     rw[zhX]at this;simp only[zhP]at this;omega
    ·cases he;exact hl
   have hgT:g≠T:=fun e=>hgF (by rw[e];exact hT)
   have hgM:g≠M:=fun e=>hgF (by rw[e];exact hM)
   have hl:=ok.len;refine⟨⟨ok.rg,ok.was,hus.trans ok.now,ok.recs,?_⟩,⟨M,wv,.slice (some ⟨g,0,none⟩) us.length cap,?_,zhJ _ hT,zhJ _ hM,hMT,⟨E,hE,z0j hO (hk M hMT)⟩,?_,?_⟩,?_⟩
   focus
    unfold TxS.left at hl ⊢;rw[hch]at hl;exact hl
   focus exact bT3
   focus
    obtain⟨A,c,h1,h2,h3⟩:=hw;refine⟨A,c,h1,?_,fun a ha=>⟨zhJ _ (h3 a ha).1,(h3 a ha).2⟩⟩
    rcases h2 with h2|⟨b,off,rfl,hl2,hc⟩
    ·exact .inl h2
    ·exact .inr ⟨b,off,rfl,by rw[hzs];exact hl2,fun k u hu=>(World.cell?_of_block (w:=wA) (a:=⟨b,off+k,none⟩) (hk b (h3 _ rfl).2.1)).trans (hc k u hu)⟩
   focus
    refine⟨some ⟨g,0,none⟩,cap,rfl,?_,fun a ha=>by cases ha;exact⟨zhK,hgT,hgM⟩⟩
    rcases hR with h0|⟨b,off,he,hl2,hc⟩
    ·exact .inl h0
    ·cases he;exact .inr ⟨g,0,rfl,by rw[hzs];omega,fun k u hu=>(World.cell?_of_block (w:=w) (a:=⟨g,0+k,none⟩) ((hk g hgT).trans (BA.block g hgw))).trans (hc k u hu)⟩
   focus
    intro b hb;rw[hzs];rcases List.mem_cons.1 hb with rfl|hb
    ·exact⟨by omega,by omega⟩
    ·exact lt b hb
  focus
   have hB0:Below 0 wA (W2.setCell ⟨T,18,none⟩ (.bool true)):=by rw[HW2.out];exact(Below.setRow (zho 0 wA) (zi9 _) _).setCell (p:=⟨T,18,none⟩) (zi9 _) _
   exact⟨hB0.os.trans BA.os,hB0.tape.trans BA.tape,hB0.output.trans BA.output,by rw[hzs];omega,fun b hb hn=>(hk b (fun e=>hn (by rw[e];exact hT))).trans (BA.block b hb)⟩
  focus
   intro b hb;rcases List.mem_cons.1 hb with rfl|hb
   ·exact .inr rfl
   ·exact .inl hb
 ·rw[hch]at c18 c18w;clear cT;by_cases hl1:y.left<1
  ·have HX:Hid (y.changeE n=12∧y.change us n=y):=zhs (by rw[HE.out,HC.out,if_neg HN.out,if_neg HN.out,if_pos ⟨hch,hl1⟩,if_pos ⟨hch,hl1⟩];exact⟨rfl,rfl⟩)
   rw[hA]at hlf;have hl2:decide (y.left<1)=true:=by simpa using hl1
   clear hB;go_enter func97,ntmps97
   go_wp2_with fail
   rw[←hA]at hlf ⊢;refine hlf.mono ?_;rintro e w1 ⟨rfl,hb1⟩;go_wp2_with fail
   go_ret
   exact⟨by rw[HX.out.1];rfl,F,by rw[HX.out.2];exact hTA2.below hb1,KeepEx.of_below (BA.trans (hb1.mono BA.size)),fun b hb=>.inl hb⟩
  ·have HX:Hid (y.changeE n=0∧y.change us n={ y with now:=us,changed:=true }):=zhs (by rw[HE.out,HC.out,if_neg HN.out,if_neg HN.out,if_neg (fun hh=>hl1 hh.2),if_neg (fun hh=>hl1 hh.2)];exact⟨rfl,rfl⟩)
   rw[hA]at hlf;have hl2:decide (y.left<1)=false:=by simpa using hl1
   have HL:=zhs hl1;clear hB hl1;go_enter func97,ntmps97
   go_wp2_with fail
   rw[←hA]at hlf ⊢;clear hA;refine hlf.mono ?_;rintro e w1 ⟨rfl,hb1⟩;have B1:=BA.trans (hb1.mono BA.size);have bS1:=bS.belowAll hb1;have hT1:=hTA2.below hb1;clear ok bT hT hM hMT hO hw hnn lt bS cS lS c18 hlf hTA2 lT;clear M wv nv;obtain⟨ok,⟨M,wv,nv,bT1,hT,hM,hMT,hO,hw,hnn⟩,lt⟩:=hT1;have cS:=bS1.cells;have lS:=bS1.lt;have lT:=bT1.lt;have hst:=z2b (ty:=47) (o:=13) (vs:=#[.int .i64 y.s,.int .i64 y.j,.int .i64 y.i,.slice (some ⟨g,0,none⟩) us.length cap]) bT1 (by simp) (by simp[Value.oneCell']) (by kernel_rfl)
   have hcs:((txC D y.s y.j y.i wv nv M y.changed y.broken y.ended).toList.take 13++(#[.int .i64 y.s,.int .i64 y.j,.int .i64 y.i,.slice (some ⟨g,0,none⟩) us.length cap]:Array Value).toList++(txC D y.s y.j y.i wv nv M y.changed y.broken y.ended).toList.drop (13+(#[.int .i64 y.s,.int .i64 y.j,.int .i64 y.i,.slice (some ⟨g,0,none⟩) us.length cap]:Array Value).toList.length)).toArray=txC D y.s y.j y.i wv (.slice (some ⟨g,0,none⟩) us.length cap) M y.changed y.broken y.ended:=rfl;rw[hcs]at hst;obtain⟨W2,hW2⟩:∃W2,W2=w1.setRow T (txC D y.s y.j y.i wv (.slice (some ⟨g,0,none⟩) us.length cap) M y.changed y.broken y.ended):=⟨_,rfl⟩;have bT2:Blk W2 T 148 (txC D y.s y.j y.i wv (.slice (some ⟨g,0,none⟩) us.length cap) M y.changed y.broken y.ended):=by rw[hW2];exact bT1.setRow
   rw[←hW2]at hst;have HW2:=zhs hW2;clear hW2;have c2:W2.cell? ⟨T,18,none⟩=some (.bool y.changed):=(bT2.cells 18).trans rfl;rw[hch]at c2;have l2:=bT2.lt;have f2:=bT2.free;go_wp2_with (refine z01 rfl _ _ _ rfl _ _ rfl rfl hst ?_)
   go_ret
   have bT3:=bT2.set_ 18 (.bool true);have hk:∀b,b≠T→(W2.setCell ⟨T,18,none⟩ (.bool true)).heap[b]?=w1.heap[b]?:=fun b hb=>(Below.heap_setCell W2 ⟨T,18,none⟩ _ b hb).trans (by rw[HW2.out];exact z0b w1 T b _ hb)
   have hzs:(W2.setCell ⟨T,18,none⟩ (.bool true)).heap.size=w1.heap.size:=by rw[HW2.out];simp
   have hzA:w.heap.size≤w1.heap.size:=B1.size;have hTw:=(h.lt T hT).2;refine⟨by rw[HX.out.1];rfl,g::F,?_,?_,?_⟩
   focus
    rw[HX.out.2];obtain⟨E,hE,hO⟩:=hO;have hus:=HUS.out;have hbd:=ok.bds;have hgw:g<w.heap.size:=by
     rcases hR with h0|⟨b,off,he,hl,-⟩
     ·have:=congrArg List.length h0
      rw[zhX]at this;simp only[zhP]at this;omega
     ·cases he;exact hl
    have hgT:g≠T:=fun e=>hgF (by rw[e];exact hT)
    have hgM:g≠M:=fun e=>hgF (by rw[e];exact hM)
    have hl:=ok.len;refine⟨⟨ok.rg,ok.was,hus.trans ok.now,ok.recs,?_⟩,⟨M,wv,.slice (some ⟨g,0,none⟩) us.length cap,?_,zhJ _ hT,zhJ _ hM,hMT,⟨E,hE,z0j hO (hk M hMT)⟩,?_,?_⟩,?_⟩
    focus
     have hl3:=HL.out;unfold TxS.left TxS.most at hl hl3 ⊢;rw[hch]at hl hl3;simp only[Bool.false_eq_true,if_false,if_true]at hl hl3 ⊢;omega
    focus exact bT3
    focus
     obtain⟨A,c,h1,h2,h3⟩:=hw;refine⟨A,c,h1,?_,fun a ha=>⟨zhJ _ (h3 a ha).1,(h3 a ha).2⟩⟩
     rcases h2 with h2|⟨b,off,rfl,hl2,hc⟩
     ·exact .inl h2
     ·exact .inr ⟨b,off,rfl,by rw[hzs];exact hl2,fun k u hu=>(World.cell?_of_block (w:=w1) (a:=⟨b,off+k,none⟩) (hk b (h3 _ rfl).2.1)).trans (hc k u hu)⟩
    focus
     refine⟨some ⟨g,0,none⟩,cap,rfl,?_,fun a ha=>by cases ha;exact⟨zhK,hgT,hgM⟩⟩
     rcases hR with h0|⟨b,off,he,hl2,hc⟩
     ·exact .inl h0
     ·cases he;exact .inr ⟨g,0,rfl,by rw[hzs];omega,fun k u hu=>(World.cell?_of_block (w:=w) (a:=⟨g,0+k,none⟩) ((hk g hgT).trans (B1.block g hgw))).trans (hc k u hu)⟩
    focus
     intro b hb;rw[hzs];rcases List.mem_cons.1 hb with rfl|hb
     ·exact⟨by omega,by omega⟩
     ·exact lt b hb
   focus
    have hB0:Below 0 w1 (W2.setCell ⟨T,18,none⟩ (.bool true)):=by rw[HW2.out];exact(Below.setRow (zho 0 w1) (zi9 _) _).setCell (p:=⟨T,18,none⟩) (zi9 _) _
    exact⟨hB0.os.trans B1.os,hB0.tape.trans B1.tape,hB0.output.trans B1.output,by rw[hzs];omega,fun b hb hn=>(hk b (fun e=>hn (by rw[e];exact hT))).trans (B1.block b hb)⟩
   focus
    intro b hb;rcases List.mem_cons.1 hb with rfl|hb
    ·exact .inr rfl
    ·exact .inl hb
end Go.Proofs.YtejmknghkbobnaaGreatDoor
