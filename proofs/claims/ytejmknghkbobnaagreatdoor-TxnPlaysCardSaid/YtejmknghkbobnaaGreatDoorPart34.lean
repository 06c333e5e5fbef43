import Derived.Test.YtejmknghkbobnaaGreatDoorPart00
import Derived.Test.YtejmknghkbobnaaGreatDoorPart32
set_option linter.unusedVariables false
set_option linter.unusedSimpArgs false
set_option maxRecDepth 100000
set_option maxHeartbeats 8000000
namespace Go.Proofs.YtejmknghkbobnaaGreatDoor
open Go.Proofs.Tryz
open Go.RowKit Go.Maps
theorem TxAt.grows {w w1 W3:World}{F:List Nat}{M:Nat}(B:Below w.heap.size w w1)(hM:M∈F)(hg:w1.grownBy W3 (some M)):Grow w F W3 F:=
 ⟨(KeepEx.of_below B).trans (KeepEx.grown hg B.size (fun k e=>by cases e;exact .inl hM)),fun b hb=>.inl hb⟩
theorem zbI (T:Nat)(F:List Nat)(D:Nat)(y:TxS)(a k:Int)(d:ByteArray)(w:World)(h:TxAt w T F D y)(hE:y.stateE=0)(ha:-9223372036854775808≤a∧a≤9223372036854775807)(hdl:d.size≤1000000):
  Calls prog 35 #[.pointer (some ⟨T,0,none⟩),.int .i64 a,.int .i64 k,.string d] w (zfp w T F D (y.write a k d).1 (y.write a k d).2):=by
 obtain⟨wA,hA⟩:∃wA,wA=w.alloc (.cells #[.int .i64 0] 28):=⟨_,rfl⟩;have bR:Blk wA w.heap.size 28 #[.int .i64 0]:=by rw[hA];exact(by (repeat' (first|(with_reducible assumption)|exact Blk.new' (by simp)|refine Blk.alloc ?_ _)))
 have BA:Below w.heap.size w wA:=by rw[hA];(repeat' (first|with_reducible (first|exact zho _ _|assumption|refine zhp ?_ ?_ _|refine zhq ?_|refine z00 ?_ _|refine zhr ?_ ?_ _|exact zhT _)|omega|(simp;done)|(simp;omega)))
 have hTA:=h.below BA;have hst:=z19 _ _ wA hTA.st;rw[hE]at hst;have hbd:=h.ok.bds;have HW:Hid (y.writeE a k d.size=if (1≤a∧a<1+y.j)∨a=1+y.j then 2 else if (a<0∨y.s≤a)∨k<1∨255<k then 7 else if 96<d.size then 3 else if (z0Y y.writes a).isNone=true∧y.left<1 then 12 else 0):=zhs rfl
 have HS:=zhs hE;have hRF:w.heap.size∉F:=h.far (zhT _);clear hE;go_enter_defers func35,ntmps35
 go_wp2_with fail
 rw[←hA];go_wp2_with fail
 refine hst.mono ?_;rintro e w1 ⟨rfl,hb1⟩;have hT1:=hTA.below hb1;have bR1:=bR.belowAll hb1;have B1:=BA.trans (hb1.mono BA.size);clear hA hst hb1 bR BA hTA h;obtain⟨ok,⟨M,wv,nv,bT,hT,hM,hMT,⟨E,hEm,hO⟩,hw,hn⟩,lt⟩:=hT1;have lk:=zh1 hEm hO (a:=a) ha;generalize hr:(z0Y y.writes a).getD zRec=r at lk;clear hr;obtain⟨ra,rk,rd⟩:=r;unfold recC at lk;simp only at lk
 have c17:w1.cell? ⟨T,17,none⟩=some (.map (some M)):=(bT.cells 17).trans rfl;have lT:=bT.lt;obtain⟨W,hW⟩:∃W,W=w1.alloc (.cells #[.int .i64 ra,.int .i64 rk,.string rd] 118):=⟨_,rfl⟩;have bRW:Blk W w.heap.size 28 #[.int .i64 0]:=by rw[hW];exact bR1.alloc _
 have bTW:Blk W T 148 (txC D y.s y.j y.i wv nv M y.changed y.broken y.ended):=by rw[hW];exact bT.alloc _
 have BW:Below w.heap.size w W:=by rw[hW];exact B1.alloc B1.size _
 have B1W:Below w1.heap.size w1 W:=by rw[hW];exact(zho _ _).alloc (zhT _) _
 have hTW:TxAt W T F D y:=TxAt.below ⟨ok,⟨M,wv,nv,bT,hT,hM,hMT,⟨E,hEm,hO⟩,hw,hn⟩,lt⟩ B1W;clear ok hT hM hMT hEm hO hw hn lt;have d1:W.cell? ⟨T,1,none⟩=some (.int .i64 y.s):=(bTW.cells 1).trans rfl;have d2:W.cell? ⟨T,2,none⟩=some (.int .i64 y.j):=(bTW.cells 2).trans rfl;have d4:W.cell? ⟨T,4,none⟩=some (.int .i64 1):=(bTW.cells 4).trans rfl;have d5:W.cell? ⟨T,5,none⟩=some (.int .i64 (1+y.j)):=(bTW.cells 5).trans rfl;have lTW:=bTW.lt;have lRW:=bRW.lt;have fRW:=bRW.free;have cRW:=bRW.cells;go_wp2_with fail
 rw[←hW];clear hW c17 lT lk bR1 B1 B1W bT;have hj1:IntKind.i64.wrap (1+y.j)=1+y.j:=by rw[IntKind.wrap_i64];omega
 have HBD:=zhs hbd;clear hbd;by_cases p2:(1≤a∧a<1+y.j)∨a=1+y.j
 ·have HX:Hid (y.write a k d=(2,y.brk)):=zhs (TxS.write_err HS.out (by rw[HW.out,if_pos p2]) (by decide))
  have q1:decide (1≤a)=true:=by have:=HBD.out;simp;omega
  rcases p2 with ⟨p1,p2⟩|p2
  focus
   have q2:decide (a<1+y.j)=true:=by simpa using p2
   clear p1 p2;go_quiet (fail)
  rotate_left;focus
   have q2:decide (a<1+y.j)=false:=by simp;omega
   have q3:(a==1+y.j)=true:=by simpa using p2
   clear p2;go_quiet (fail)
  all_goals
   go_wp2_with fail
   refine z1B (E:=2) (F0:=F) ((hTW.drewN _).set_ (p:=⟨w.heap.size,0,none⟩) hRF _) ((bRW.drewN _).set_ 0 (.int .i64 2)) hRF ((Grow.of_below (z00 BW _) F).cellAt (zhT _) _) (fun W' hc _=>z1I (n:=8) (t:=28) (by rfl) (by simp) rfl hc) (fun W' hT' hg _=>?_)
   rw[TxS.after_bad (by decide) (by decide) (by decide)]at hT'
   exact⟨by rw[HX.out],F,by rw[HX.out];exact hT',hg⟩
 have hq:(decide (1≤a)=false∧(a==1+y.j)=false)∨(decide (1≤a)=true∧decide (a<1+y.j)=false∧(a==1+y.j)=false):=by
  have:=HBD.out
  rcases Int.lt_or_le a 1 with h1|h1
  ·exact .inl ⟨by simp;omega,by simp;omega⟩
  ·exact .inr ⟨by simpa using h1,by simp;omega,by simp;omega⟩
 by_cases p7:(a<0∨y.s≤a)∨k<1∨255<k
 ·have HX:Hid (y.write a k d=(7,y.brk)):=zhs (TxS.write_err HS.out (by rw[HW.out,if_neg p2,if_pos p7]) (by decide))
  have h7:(decide (a<0)=true)∨(decide (a<0)=false∧decide (y.s≤a)=true)∨(decide (a<0)=false∧decide (y.s≤a)=false∧decide (k<1)=true)∨(decide (a<0)=false∧decide (y.s≤a)=false∧decide (k<1)=false∧decide (255<k)=true):=by
   by_cases e1:a<0
   ·exact .inl (by simpa using e1)
   ·by_cases e2:y.s≤a
    ·exact .inr (.inl ⟨by simpa using e1,by simpa using e2⟩)
    ·by_cases e3:k<1
     ·exact .inr (.inr (.inl ⟨by simpa using e1,by simpa using e2,by simpa using e3⟩))
     ·exact .inr (.inr (.inr ⟨by simpa using e1,by simpa using e2,by simpa using e3,by simp;omega⟩))
  clear p2 p7;rcases hq with ⟨q1,q3⟩|⟨q1,q2,q3⟩<;>rcases h7 with g1|⟨g1,g2⟩|⟨g1,g2,g3⟩|⟨g1,g2,g3,g4⟩
  all_goals
   go_quiet (fail)
  all_goals
   go_wp2_with fail
   refine z1B (E:=7) (F0:=F) ((hTW.drewN _).set_ (p:=⟨w.heap.size,0,none⟩) hRF _) ((bRW.drewN _).set_ 0 (.int .i64 7)) hRF ((Grow.of_below (z00 BW _) F).cellAt (zhT _) _) (fun W' hc _=>z1I (n:=8) (t:=28) (by rfl) (by simp) rfl hc) (fun W' hT' hg _=>?_)
   rw[TxS.after_bad (by decide) (by decide) (by decide)]at hT'
   exact⟨by rw[HX.out],F,by rw[HX.out];exact hT',hg⟩
 have g1:decide (a<0)=false:=by simp;omega
 have g2:decide (y.s≤a)=false:=by simp;omega
 have g3:decide (k<1)=false:=by simp;omega
 have g4:decide (255<k)=false:=by simp;omega
 have HK:=zhs p7;by_cases p3:96<d.size
 ·have HX:Hid (y.write a k d=(3,y.brk)):=zhs (TxS.write_err HS.out (by rw[HW.out,if_neg p2,if_neg p7,if_pos p3]) (by decide))
  have g5:(96:Int)<(d.size:Int):=by omega
  clear p2 p7 p3;rcases hq with ⟨q1,q3⟩|⟨q1,q2,q3⟩
  all_goals
   go_quiet (fail)
  all_goals
   go_wp2_with fail
   refine z1B (E:=3) (F0:=F) ((hTW.drewN _).set_ (p:=⟨w.heap.size,0,none⟩) hRF _) ((bRW.drewN _).set_ 0 (.int .i64 3)) hRF ((Grow.of_below (z00 BW _) F).cellAt (zhT _) _) (fun W' hc _=>z1I (n:=8) (t:=28) (by rfl) (by simp) rfl hc) (fun W' hT' hg _=>?_)
   rw[TxS.after_bad (by decide) (by decide) (by decide)]at hT'
   exact⟨by rw[HX.out],F,by rw[HX.out];exact hT',hg⟩
 have g5:¬(96:Int)<(d.size:Int):=by omega
 have h0:0≤a∧a<y.s∧1≤k∧k≤255∧d.data.size≤112:=⟨by omega,by omega,by omega,by omega,by show d.size≤112;omega⟩
 have H0:=zhs h0;cases hs:z0Y y.writes a with
 | some r'=>
  have HX:Hid (y.write a k d=(0,{ y with writes:=z0s y.writes ⟨a,k,d⟩ })):=zhs (TxS.write_ok HS.out (by rw[HW.out,if_neg p2,if_neg p7,if_neg p3,if_neg (by rw[hs];simp)]))
  have HSM:Hid ((z0Y y.writes a).isSome=true∨1≤y.left):=zhs (.inl (by rw[hs];rfl))
  have hs1:(z0Y y.writes a).isSome=true:=by rw[hs];rfl
  clear p2 p7 p3 hs h0;rcases hq with ⟨q1,q3⟩|⟨q1,q2,q3⟩
  all_goals
   go_quiet (fail)
   rename_i nq
   obtain⟨W2,hW2⟩:∃W2,W2=W.drewN nq:=⟨_,rfl⟩;rw[←hW2];have hT2:TxAt W2 T F D y:=by rw[hW2];exact hTW.drewN _
   have bR2:Blk W2 w.heap.size 28 #[.int .i64 0]:=by rw[hW2];exact bRW.drewN _
   have B2:Below w.heap.size w W2:=by rw[hW2];exact z00 BW _
   clear hW2 nq;obtain⟨ok2,⟨M2,wv2,nv2,bT2,hTF,hMF,hMT2,⟨E2,hE2,hO2⟩,hw2,hn2⟩,lt2⟩:=hT2;obtain⟨W3,hup,hO3,hg3⟩:=hO2.update z3i underlying146 (by have:=ok2.left_bds;simp only[maxLen];omega) (keyOf_int_mk underlying3 (z8v ha)) (z62 ⟨a,k,d⟩)
   have hT3:TxAt W3 T F D { y with writes:=z0s y.writes ⟨a,k,d⟩ }:=TxAt.puts (r:=⟨a,k,d⟩) ok2 bT2 hTF hMF hMT2 hE2 hw2 hn2 lt2 hO3 hg3 H0.out HSM.out;have bR3:Blk W3 w.heap.size 28 #[.int .i64 0]:=bR2.grown hg3 (fun e=>hRF (by cases e;exact hMF))
   have G3:Grow w F W3 F:=TxAt.grows B2 hMF hg3;have d17:W2.cell? ⟨T,17,none⟩=some (.map (some M2)):=(bT2.cells 17).trans rfl;have d1b:W2.cell? ⟨T,1,none⟩=some (.int .i64 y.s):=(bT2.cells 1).trans rfl;have lT2:=bT2.lt;clear ok2 bT2 hTF hMF hMT2 hE2 hO2 hw2 hn2 lt2 hO3 hg3;unfold recC at hup;simp only at hup
   have cR3:=bR3.cells;have lR3:=bR3.lt;have fR3:=bR3.free;go_wp2_with fail
   refine z1B (E:=0) (F0:=F) (hT3.set_ (p:=⟨w.heap.size,0,none⟩) hRF _) (bR3.set_ 0 (.int .i64 0)) hRF (G3.cellAt (zhT _) _) (fun W' hc _=>z1I (n:=8) (t:=28) (by rfl) (by simp) rfl hc) (fun W' hT' hg _=>?_)
   rw[TxS.after_0]at hT';exact⟨by rw[HX.out],F,by rw[HX.out];exact hT',hg⟩
 | none=>
  have hs1:(z0Y y.writes a).isSome=false:=by rw[hs];rfl
  have hN:(z0Y y.writes a).isNone=true:=by rw[hs];rfl
  by_cases pl:y.left<1
  ·have HX:Hid (y.write a k d=(12,y.brk)):=zhs (TxS.write_err HS.out (by rw[HW.out,if_neg p2,if_neg p7,if_neg p3,if_pos ⟨hN,pl⟩]) (by decide))
   have hl1:decide (y.left<1)=true:=by simpa using pl
   clear p2 p7 p3 hs h0 hN;rcases hq with ⟨q1,q3⟩|⟨q1,q2,q3⟩
   all_goals
    go_quiet (fail)
   all_goals
    go_wp2_with fail
    refine(z5v T F D y _ (hTW.drewN _)).mono ?_;rintro e W2 ⟨rfl,hb2⟩;have hT2:=(hTW.drewN _).below hb2;have bR2:=(bRW.drewN _).belowAll hb2;have B2:=(z00 BW _).trans (hb2.mono (z00 BW _).size);clear hb2;have cR2:=bR2.cells;have lR2:=bR2.lt;have fR2:=bR2.free;go_wp2_with fail
    refine z1B (E:=12) (F0:=F) (hT2.set_ (p:=⟨w.heap.size,0,none⟩) hRF _) (bR2.set_ 0 (.int .i64 12)) hRF ((Grow.of_below B2 F).cellAt (zhT _) _) (fun W' hc _=>z1I (n:=8) (t:=28) (by rfl) (by simp) rfl hc) (fun W' hT' hg _=>?_)
    rw[TxS.after_bad (by decide) (by decide) (by decide)]at hT'
    exact⟨by rw[HX.out],F,by rw[HX.out];exact hT',hg⟩
  ·have HX:Hid (y.write a k d=(0,{ y with writes:=z0s y.writes ⟨a,k,d⟩ })):=zhs (TxS.write_ok HS.out (by rw[HW.out,if_neg p2,if_neg p7,if_neg p3,if_neg (fun hh=>pl hh.2)]))
   have hl1:decide (y.left<1)=false:=by simpa using pl
   have HSM:Hid ((z0Y y.writes a).isSome=true∨1≤y.left):=zhs (.inr (by omega))
   clear p2 p7 p3 hs h0 hN pl;rcases hq with ⟨q1,q3⟩|⟨q1,q2,q3⟩
   all_goals
    go_quiet (fail)
   all_goals
    go_wp2_with fail
    refine(z5v T F D y _ (hTW.drewN _)).mono ?_;rintro e W2 ⟨rfl,hb2⟩;have hT2:=(hTW.drewN _).below hb2;have bR2:=(bRW.drewN _).belowAll hb2;have B2:=(z00 BW _).trans (hb2.mono (z00 BW _).size);clear hb2;obtain⟨ok2,⟨M2,wv2,nv2,bT2,hTF,hMF,hMT2,⟨E2,hE2,hO2⟩,hw2,hn2⟩,lt2⟩:=hT2;obtain⟨W3,hup,hO3,hg3⟩:=hO2.update z3i underlying146 (by have:=ok2.left_bds;simp only[maxLen];omega) (keyOf_int_mk underlying3 (z8v ha)) (z62 ⟨a,k,d⟩)
    have hT3:TxAt W3 T F D { y with writes:=z0s y.writes ⟨a,k,d⟩ }:=TxAt.puts (r:=⟨a,k,d⟩) ok2 bT2 hTF hMF hMT2 hE2 hw2 hn2 lt2 hO3 hg3 H0.out HSM.out;have bR3:Blk W3 w.heap.size 28 #[.int .i64 0]:=bR2.grown hg3 (fun e=>hRF (by cases e;exact hMF))
    have G3:Grow w F W3 F:=TxAt.grows B2 hMF hg3;have d17:W2.cell? ⟨T,17,none⟩=some (.map (some M2)):=(bT2.cells 17).trans rfl;have d1b:W2.cell? ⟨T,1,none⟩=some (.int .i64 y.s):=(bT2.cells 1).trans rfl;have lT2:=bT2.lt;clear ok2 bT2 hTF hMF hMT2 hE2 hO2 hw2 hn2 lt2 hO3 hg3;unfold recC at hup;simp only at hup
    have cR3:=bR3.cells;have lR3:=bR3.lt;have fR3:=bR3.free;go_wp2_with fail
    refine z1B (E:=0) (F0:=F) (hT3.set_ (p:=⟨w.heap.size,0,none⟩) hRF _) (bR3.set_ 0 (.int .i64 0)) hRF (G3.cellAt (zhT _) _) (fun W' hc _=>z1I (n:=8) (t:=28) (by rfl) (by simp) rfl hc) (fun W' hT' hg _=>?_)
    rw[TxS.after_0]at hT';exact⟨by rw[HX.out],F,by rw[HX.out];exact hT',hg⟩
theorem zft (T:Nat)(F:List Nat)(D:Nat)(y:TxS)(a k:Int)(d:ByteArray)(w:World)(h:TxAt w T F D y)(ha:-9223372036854775808≤a∧a≤9223372036854775807)(hdl:d.size≤1000000):
  Calls prog 35 #[.pointer (some ⟨T,0,none⟩),.int .i64 a,.int .i64 k,.string d] w (zfp w T F D (y.write a k d).1 (y.write a k d).2):=by
 by_cases hE:y.stateE=0
 ·exact zbI T F D y a k d w h hE ha hdl
 ·refine(za5 _ _ a k d w h.st hE).mono ?_;rintro e w' ⟨rfl,hb⟩;unfold TxS.write;rw[if_pos (by simpa using hE)]
  exact⟨rfl,F,h.below hb,Grow.of_below hb F⟩
end Go.Proofs.YtejmknghkbobnaaGreatDoor
