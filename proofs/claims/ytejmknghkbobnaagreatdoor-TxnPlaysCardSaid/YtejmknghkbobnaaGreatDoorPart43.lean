import Derived.Test.YtejmknghkbobnaaGreatDoorPart00
import Derived.Test.YtejmknghkbobnaaGreatDoorPart42
import Derived.Test.YtejmknghkbobnaaGreatDoorPart36
import Derived.Test.YtejmknghkbobnaaGreatDoorPart37
import Derived.Test.YtejmknghkbobnaaGreatDoorPart29
import Derived.Test.YtejmknghkbobnaaGreatDoorPart22
import Derived.Test.YtejmknghkbobnaaGreatDoorPart16
set_option linter.unusedVariables false
set_option linter.unusedSimpArgs false
set_option maxRecDepth 100000
set_option maxHeartbeats 8000000
namespace Go.Proofs.YtejmknghkbobnaaGreatDoor
open Go.Proofs.Tryz
open Go.RowKit Go.Maps
theorem zaR {y:TxS}(ok:y.Ok){near many:Int}(h0:AlE y.s y.j y.i y.may near many=0):
  TnE y.s y.j y.i y.now (z0g y.may near.toNat many.toNat) true 9=0∧(z0g y.may near.toNat many.toNat).length≤1000:=by
 have hml:y.may.length=y.now.length:=z1h (ok.now.trans ok.was.symm);have hck:=z7t ok;have hnl:=z7F ok;have hAC:CkE y.s y.j y.i y.may.length=0:=by rw[hml];exact hck
 have hnear:=zb3 hAC h0;refine⟨zas (ok.now.trans ok.was.symm) hck (by rw[←hml];exact hnear),?_⟩
 have h1:(z0g y.may near.toNat many.toNat).length≤(z1Y y.may near.toNat).length:=by unfold z0g;rw[zi6];omega
 have h2:=z31 y.may near.toNat y.may.length;unfold z1Y at h1;omega
theorem z2o {fn:Func}{m n k R:Nat}{ty t:TypeId}{tmps:Array Value}{w:World}{cs:Array Value}{fr:Nat × Nat}{v:Value}{e:Int}{fs:_}(hr:fn.results=#[.cell m ty,.tmp n,.tmp k])(hm:tmps.getD m undef=.pointer (some ⟨R,0,none⟩))(hn:tmps.getD n undef=v)(hk:tmps.getD k undef=.int .i64 e)
  (hg:w.heap[R]?=some (.cells cs t fr)) (hu:prog.underlying ty=some (.struct fs)) (hi:(prog.info? ty).map (·.size)=some cs.size):
  (results fn tmps).run prog w=.ok (.tuple #[.agg cs,v,.int .i64 e]) w:=by
 have h:=run_loadVar_row (P:=prog) w R t ty cs fr _ hg hu rfl hi;have h1:(asAddr (.pointer (some ⟨R,0,none⟩))).run prog w=.ok ⟨R,0,none⟩ w:=rfl;have hm':tmps[m]?.getD undef=.pointer (some ⟨R,0,none⟩):=by simpa using hm
 have hn':tmps[n]?.getD undef=v:=by simpa using hn
 have hk':tmps[k]?.getD undef=.int .i64 e:=by simpa using hk
 simp[results,hr,hm',hn',hk',h1,h]
def RTake (w:World)(P:Nat→Prop)(x:DevS)(r:Int × TxS)(al:List Int)(e:Ending)(w':World):Prop:=
 ∃tv A c,e=.returned (.tuple #[.agg tv,.slice A al.length c,.int .i64 r.1])∧RTx w' P x r.2 tv∧Reads w' A (al.map (.int .i64))∧Below w.heap.size w w'
theorem RTake.nil {w W:World}{P:Nat→Prop}{x:DevS}{E0 R:Nat}{z:TxS}{tv:Array Value}(e:Int)(hq:RTx W (Apt_ P w.heap.size E0) x z tv)(hB:Below w.heap.size w W)(h1:w.heap.size≤R)(h2:R<E0):RTake w P x (e,z) [] (.returned (.tuple #[.agg tv,.slice none 0 0,.int .i64 e])) (W.setRow R tv):=
 ⟨tv,none,0,rfl,(hq.row (Apt_.ne h1 h2) tv).unapt,Reads.nil,Below.setRow hB h1 tv⟩
theorem RTake.mk {w W:World}{P:Nat→Prop}{x:DevS}{E0 R base:Nat}{z:TxS}{tv:Array Value}{A:Option Addr}{c:Nat}{al:List Int}(e:Int)(hq:RTx W (Apt_ P w.heap.size E0) x z tv)(hB:Below w.heap.size w W)(h1:w.heap.size≤R)(h2:R<E0)(ho:W.ownsRow base 3 1 (.slice A al.length c) al.length (al.map (.int .i64)))(hb:R<base):RTake w P x (e,z) al (.returned (.tuple #[.agg tv,.slice A al.length c,.int .i64 e])) (W.setRow R tv):=
 ⟨tv,A,c,rfl,(hq.row (Apt_.ne h1 h2) tv).unapt,Reads.of_own (z0c ho fun q hq'=>z0b W R q tv (by have:=(ho.lt q hq').1;omega)),Below.setRow hB h1 tv⟩
theorem zfZ {w:World}{P:Nat→Prop}{x:DevS}{y:TxS}{tv:Array Value}(hq:RTx w P x y tv)(hP:∀b,w.heap.size≤b→P b)(ok:y.Ok)(hc:y.Clean)(near many:Int):
  Calls prog 67 #[.agg tv,.int .i64 near,.int .i64 many] w (RTake w P x (y.take near many) (y.takeL near many)):=by
 obtain⟨w0,hw0⟩:∃w0,w0=(w.alloc (.cells tv 50)).alloc (.cells txZ 50):=⟨_,rfl⟩;have bT:Blk w0 w.heap.size 50 tv:=by rw[hw0];exact(Blk.new _ _ _).alloc _
 have bR:Blk w0 (w.heap.size+1) 50 txZ:=by rw[hw0];exact Blk.new' (by simp)
 have B0:Below w.heap.size w w0:=by rw[hw0];(repeat' (first|with_reducible (first|exact zho _ _|assumption|refine zhp ?_ ?_ _|refine zhq ?_|refine z00 ?_ _|refine zhr ?_ ?_ _|exact zhT _)|omega|(simp;done)|(simp;omega)))
 have hQ0:=hq.apt B0 w0.heap.size;have HN:=zhs (Apt_.new hP B0.size);have hsz:=hq.size;have hone:=hq.one;have zR:=zhs bR.lt;have hst0:=z2R hQ0;have hnl:=z7F ok;have hml:y.may.length≤1000:=by rw[show y.may.length=y.now.length from z1h (ok.now.trans ok.was.symm)];omega
 have HW:Hid (y.take near many=if y.stateE≠0 then (y.stateE,y)else if y.takeE near many≠0 then (y.takeE near many,y.brk)else (0,y.change (z0M y.now (z0g y.may near.toNat many.toNat) true) (z0g y.may near.toNat many.toNat).length)):=zhs rfl
 have HWL:Hid (y.takeL near many=if y.stateE≠0 then []else if y.takeE near many≠0 then []else z0g y.may near.toNat many.toNat):=zhs rfl
 have HWE:Hid (y.takeE near many=if AlE y.s y.j y.i y.may near many≠0 then AlE y.s y.j y.i y.may near many else y.changeE (z0g y.may near.toNat many.toNat).length):=zhs rfl
 have HLW:Hid (AlE y.s y.j y.i y.may near many=0→TnE y.s y.j y.i y.now (z0g y.may near.toNat many.toNat) true 9=0∧(z0g y.may near.toNat many.toNat).length≤1000):=zhs (zaR ok);clear hq hP;unfold txZ txR at hw0;go_enter func67,ntmps67
 go_upto_region 1 with fail
 rw[←hw0];clear hw0;have l0:=z0n bT hsz;go_wp2_with (refine z02 (by rfl) _ _ rfl (.agg tv) (.pointer (some ⟨w.heap.size,0,none⟩)) rfl l0 ?_)
 refine hst0.mono ?_;rintro e w1 ⟨rfl,hb1⟩;have bT1:=bT.belowAll hb1;have bR1:=bR.belowAll hb1;have B1:=B0.trans (hb1.mono B0.size);have hQ1:=hQ0.below hb1;have HZ1:=zhs hb1.size;clear hst0 l0 bT bR B0 hb1 hQ0;by_cases hE:y.stateE=0
 rotate_left
 ·as_aux_lemma=>
  have HH:Hid (y.take near many=(y.stateE,y)):=zhs (by rw[HW.out,if_pos hE])
  have HHL:Hid (y.takeL near many=[]):=zhs (by rw[HWL.out,if_pos hE])
  clear HW HWE HWL HLW;generalize y.stateE=E at *;have hE':(E != 0)=true:=by simpa using hE
  have l1:=z0n bT1 hsz;have hst:=z0v bR1 rfl hsz hone;have bR2:=bR1.setRow (cs':=tv);have hfin:=RTake.nil (R:=w.heap.size+1) E hQ1 B1 (by omega) zR.out
  clear hE;go_wp2_with (first|(refine z02 (by rfl) _ _ rfl (.agg tv) (.pointer (some ⟨w.heap.size,0,none⟩)) rfl l1 ?_)|(refine z01 rfl _ _ _ rfl _ _ rfl rfl hst ?_))
  refine bodyPost_ret (z2o (cs:=tv) rfl rfl rfl rfl bR2 underlying50 (by rw[hsz];kernel_rfl)) rfl ?_
  rw[HH.out,HHL.out];exact hfin
 have HW1:Hid (y.take near many=if y.takeE near many≠0 then (y.takeE near many,y.brk)else (0,y.change (z0M y.now (z0g y.may near.toNat many.toNat) true) (z0g y.may near.toNat many.toNat).length)):=zhs (by rw[HW.out,if_neg (by rw[hE];simp)])
 have HWL1:Hid (y.takeL near many=if y.takeE near many≠0 then []else z0g y.may near.toNat many.toNat):=zhs (by rw[HWL.out,if_neg (by rw[hE];simp)])
 rw[hE];clear hE HW HWL;have hm:=zfy hQ1 ok;have l1:=z0n bT1 hsz;go_wp2_with (refine z02 (by rfl) _ _ rfl (.agg tv) (.pointer (some ⟨w.heap.size,0,none⟩)) rfl l1 ?_)
 refine hm.mono ?_;rintro e w2 ⟨A,c,rfl,ho,hb2⟩;have hal:=zbz y.s y.j y.i A c y.may near many w2 hml (Reads.of_own ho);clear hm l1 ho;go_wp2_with fail
 refine hal.mono ?_;clear hal;rintro e w3 ⟨hb3,⟨hA,rfl⟩|⟨hA,g,cap,av,cv,rfl,ho1,ho2⟩⟩
 ·as_aux_lemma=>
  have HT:Hid (y.takeE near many=AlE y.s y.j y.i y.may near many):=zhs (by rw[HWE.out,if_pos hA])
  have HH:Hid (y.take near many=(AlE y.s y.j y.i y.may near many,y.brk)):=zhs (by rw[HW1.out,HT.out,if_pos hA])
  have HHL:Hid (y.takeL near many=[]):=zhs (by rw[HWL1.out,HT.out,if_pos hA])
  clear HW1 HWE HWL1 HLW HT;generalize AlE y.s y.j y.i y.may near many=E at *;have hE':(E != 0)=true:=by simpa using hA
  go_upto_region 5 with fail
  obtain⟨w4,hw4⟩:∃w4,w4=w3.alloc (.cells #[.int .i64 y.s,.int .i64 y.j,.int .i64 y.i,.slice A y.may.length c] 47):=⟨_,rfl⟩;have hb4:Below w1.heap.size w1 w4:=by rw[hw4];exact(hb2.trans (hb3.mono hb2.size)).alloc (zhS hb2.size hb3.size) _
  rw[←hw4];clear hw4 hA;have bT4:=bT1.belowAll hb4;have bR4:=bR1.belowAll hb4;have B4:=B1.trans (hb4.mono B1.size);have hbr:=z2y (hQ1.below hb4) E;have l1:=z0n bT4 hsz;clear bT1 bR1 B1 hQ1;go_wp2_with (refine z02 (by rfl) _ _ rfl (.agg tv) (.pointer (some ⟨w.heap.size,0,none⟩)) rfl l1 ?_)
  refine hbr.mono ?_;rintro e w9 ⟨tv9,rfl,hq9,hb9⟩;clear hbr l1;have hsz9:=hq9.size;have hst:=z0v (bT4.belowAll hb9) hsz hsz9 hq9.one;have bT9:=(bT4.belowAll hb9).setRow (cs':=tv9);have bR9:=(bR4.belowAll hb9).rowFar (cs':=tv9) (show w.heap.size+1≠w.heap.size by omega)
  have B9:=Below.setRow (B4.trans (hb9.mono B4.size)) (zhT _) tv9;have hQ9:=hq9.row (g:=w.heap.size) (Apt_.ne (zhT _) (by have:=zR.out;omega)) tv9
  clear bT4 bR4 B4 hq9;go_upto_region 7 with (refine z01 rfl _ _ _ rfl _ _ rfl rfl hst ?_)
  clear hst;generalize w9.setRow w.heap.size tv9=W9 at *;have l9:=z0n bT9 hsz9;have hst:=z0v bR9 rfl hsz9 hQ9.one;have bR10:=bR9.setRow (cs':=tv9);have hfin:=RTake.nil (R:=w.heap.size+1) E hQ9 B9 (by omega) zR.out
  go_wp2_with (first|(refine z02 (by rfl) _ _ rfl (.agg tv9) (.pointer (some ⟨w.heap.size,0,none⟩)) rfl l9 ?_)|(refine z01 rfl _ _ _ rfl _ _ rfl rfl hst ?_))
  refine bodyPost_ret (z2o (cs:=tv9) rfl rfl rfl rfl bR10 underlying50 (by rw[hsz9];kernel_rfl)) rfl ?_
  rw[HH.out,HHL.out];exact hfin
 ·as_aux_lemma=>
  obtain⟨hT,hL9⟩:=HLW.out hA;have HT:Hid (y.takeE near many=y.changeE (z0g y.may near.toNat many.toNat).length):=zhs (by rw[HWE.out,if_neg (by rw[hA];simp)])
  clear HWE HLW hA ho1;generalize z0g y.may near.toNat many.toNat=al at *;go_upto_region 5 with fail
  obtain⟨w4,hw4⟩:∃w4,w4=w3.alloc (.cells #[.int .i64 y.s,.int .i64 y.j,.int .i64 y.i,.slice (some ⟨g,0,none⟩) y.may.length cap] 47):=⟨_,rfl⟩;have hb34:Below w3.heap.size w3 w4:=by rw[hw4];exact(zho _ _).alloc (zhT _) _
  have hb4:Below w1.heap.size w1 w4:=(hb2.trans (hb3.mono hb2.size)).trans (hb34.mono (zhS hb2.size hb3.size));have ho4:=z0y (z0a ho2 hb34) hb2.size;rw[←hw4];clear hw4 ho2;have bT4:=bT1.belowAll hb4;have bR4:=bR1.belowAll hb4;have B4:=B1.trans (hb4.mono B1.size);have hQ4:=hQ1.below hb4;have HZ4:=zhs (zhS HZ1.out hb4.size);clear bT1 bR1 B1 hQ1;obtain⟨N,nc,n17,n18,n19,n20,hRN,hLN,hcap⟩:=hQ4.nowP;have c17:=(bT4.cells 17).trans n17;have c18:=(bT4.cells 18).trans n18;have c19:=(bT4.cells 19).trans n19;have c20:=(bT4.cells 20).trans n20;have lT:=bT4.lt;have htk:=zfS y.s y.j y.i N av nc cv y.now al (by omega) hL9 w4 hRN (Reads.of_own ho4)
  go_upto_region 8 with fail
  go_wp2_with fail
  refine htk.mono ?_;clear htk c17 c18 c19 c20 lT n17 n18 n19 n20;rintro e w5 ⟨hb5,⟨hT2,rfl⟩|⟨-,g2,cap2,rfl,ho⟩⟩
  ·exact absurd hT hT2
  have hul:(z0M y.now al true).length=y.now.length:=z1u _ _ _;generalize z0M y.now al true=us at *;rw[←hul]at ho;have hLies:us=[]∨Lies (Apt_ P w.heap.size w0.heap.size) (some ⟨g2,0,none⟩):=.inr (z2m ho fun b hb=>HN.out b (zhS HZ4.out hb))
  have hcp:=z5H ho;have hRd:=Reads.of_own ho;go_upto_region 9 with fail
  rw[←hul];obtain⟨w6,hw6⟩:∃w6,w6=w5.alloc (.cells #[.int .i64 y.s,.int .i64 y.j,.int .i64 y.i,.slice (some ⟨g2,0,none⟩) us.length cap2] 47):=⟨_,rfl⟩;obtain⟨G,hG⟩:∃G,G=w5.heap.size:=⟨_,rfl⟩;have bG:Blk w6 G 47 #[.int .i64 y.s,.int .i64 y.j,.int .i64 y.i,.slice (some ⟨g2,0,none⟩) us.length cap2]:=by rw[hw6,hG];exact Blk.new _ _ _
  have hb56:Below w5.heap.size w5 w6:=by rw[hw6];exact(zho _ _).alloc (zhT _) _
  have hb6:Below w4.heap.size w4 w6:=by rw[hw6];exact hb5.alloc hb5.size _
  rw[←hw6,←hG];clear hw6 hG;have bT6:=bT4.belowAll hb6;have bR6:=bR4.belowAll hb6;have B6:=B4.trans (hb6.mono B4.size);have ho6:=z0a ho4 hb6;have hch:=z7r (hQ4.below hb6) ok hc (some ⟨g2,0,none⟩) cap2 us (hRd.below hb56) hLies hcp al.length av cv;have l1:=z0n bT6 hsz;have l2:=z3S bG rfl;have HCG:Hid (y.chg us al.length=if y.changeE al.length≠0 then (12,y.brk)else (0,y.change us al.length)):=zhs rfl
  have HC12:Hid (y.changeE al.length=0∨y.changeE al.length=12):=zhs (by unfold TxS.changeE;split;exact .inl rfl;split;exact .inr rfl;exact .inl rfl)
  obtain⟨rr,hrr⟩:∃rr,y.chg us al.length=rr:=⟨_,rfl⟩;rw[hrr]at hch HCG;clear bT4 bR4 B4 hQ4 hLies hRd ho hul hrr ho4 hT;go_wp2_with (first|(refine z02 (by rfl) _ _ rfl (.agg tv) (.pointer (some ⟨w.heap.size,0,none⟩)) rfl l1 ?_)|(refine z02 (by rfl) _ _ rfl (.agg #[.int .i64 y.s,.int .i64 y.j,.int .i64 y.i,.slice (some ⟨g2,0,none⟩) us.length cap2]) (.pointer (some ⟨G,0,none⟩)) rfl l2 ?_))
  refine hch.mono ?_;rintro e w9 ⟨tv9,rfl,hq9,hb9⟩;clear hch l1 l2;obtain⟨e9,y9⟩:=rr;have hsz9:=hq9.size;have hst:=z0v (bT6.belowAll hb9) hsz hsz9 hq9.one;have bT9:=(bT6.belowAll hb9).setRow (cs':=tv9);have bR9:=(bR6.belowAll hb9).rowFar (cs':=tv9) (show w.heap.size+1≠w.heap.size by omega)
  have B9:=Below.setRow (B6.trans (hb9.mono B6.size)) (zhT _) tv9;have hQ9:=hq9.row (g:=w.heap.size) (Apt_.ne (zhT _) (by have:=zR.out;omega)) tv9
  have hz9:w.heap.size+1<w1.heap.size:=zhR zR.out HZ1.out;have ho9:=z0c (w':=w9.setRow w.heap.size tv9) (z0a ho6 hb9) fun q hq'=>z0b w9 w.heap.size q tv9 (by have:=((z0a ho6 hb9).lt q hq').1;omega)
  clear bT6 bR6 B6 hq9 ho6;go_upto_region 10 with (refine z01 rfl _ _ _ rfl _ _ rfl rfl hst ?_)
  clear hst;generalize w9.setRow w.heap.size tv9=W9 at *;have l9:=z0n bT9 hsz9;have hst:=z0v bR9 rfl hsz9 hQ9.one;have bR10:=bR9.setRow (cs':=tv9);rcases HC12.out with h12|h12
  ·have hcg:=HCG.out;rw[h12,if_neg (by simp)]at hcg
   injection hcg with h1 h2
   have HH:Hid (y.take near many=(e9,y9)):=zhs (by rw[HW1.out,HT.out,h12,if_neg (by simp),h1,h2])
   have HHL:Hid (y.takeL near many=al):=zhs (by rw[HWL1.out,HT.out,h12,if_neg (by simp)])
   have hfin:=RTake.mk (R:=w.heap.size+1) e9 hQ9 B9 (by omega) zR.out ho9 hz9
   clear h2 HCG HC12 HT HW1 HWL1;subst h1;go_wp2_with (first|(refine z02 (by rfl) _ _ rfl (.agg tv9) (.pointer (some ⟨w.heap.size,0,none⟩)) rfl l9 ?_)|(refine z01 rfl _ _ _ rfl _ _ rfl rfl hst ?_))
   refine bodyPost_ret (z2o (cs:=tv9) rfl rfl rfl rfl bR10 underlying50 (by rw[hsz9];kernel_rfl)) rfl ?_
   rw[HH.out,HHL.out];exact hfin
  ·have hcg:=HCG.out;rw[h12,if_pos (by simp)]at hcg
   injection hcg with h1 h2
   have HH:Hid (y.take near many=(e9,y9)):=zhs (by rw[HW1.out,HT.out,h12,if_pos (by simp),h1,h2])
   have HHL:Hid (y.takeL near many=[]):=zhs (by rw[HWL1.out,HT.out,h12,if_pos (by simp)])
   have hfin:=RTake.nil (R:=w.heap.size+1) e9 hQ9 B9 (by omega) zR.out
   clear h2 HCG HC12 HT HW1 HWL1;subst h1;go_wp2_with (first|(refine z02 (by rfl) _ _ rfl (.agg tv9) (.pointer (some ⟨w.heap.size,0,none⟩)) rfl l9 ?_)|(refine z01 rfl _ _ _ rfl _ _ rfl rfl hst ?_))
   refine bodyPost_ret (z2o (cs:=tv9) rfl rfl rfl rfl bR10 underlying50 (by rw[hsz9];kernel_rfl)) rfl ?_
   rw[HH.out,HHL.out];exact hfin
structure Live (x:DevS)(s j i:Int)(us:List Bool)(N:Nat):Prop where
 runs:x.Runs N
 size:(x.stable.length:Int)=s
 head:∃q,HeadAt x 1 q
 map_:x.ge (1+j)=0∧∃q,x.fr (1+j)=⟨5,q,mapS us⟩
 len:us.length=(rgB s j i).toNat
theorem Live.mono {x:DevS}{s j i:Int}{us:List Bool}{N M:Nat}(h:Live x s j i us N)(hm:M≤N):Live x s j i us M:=⟨h.runs.mono hm,h.size,h.head,h.map_,h.len⟩
theorem Fresh.live {y:DevS}{s j i:Int}{N:Nat}(h:Fresh y s j i N):Live y s j i (List.replicate (rgB s j i).toNat false) N:=⟨h.runs,h.size,⟨1,h.head⟩,⟨h.map_.1,1,h.map_.2⟩,zhG ..⟩
def zco (s j i:Int)(us:List Bool):TxS:=⟨s,j,i,us,us,[],false,false,false⟩
theorem z9v {s j i:Int}(hj:0≤j)(us:List Bool):(zco s j i us).Clean:=⟨List.Pairwise.nil,fun _ h=>(by cases h),fun _ h=>(by cases h),hj⟩
theorem zbX {y:DevS}{s j i:Int}{us:List Bool}{N:Nat}(h:rgE s j i=0)(hy:Live y s j i us N):(∀E,y.beginE s j i E↔E=0)∧y.begins s j i=zco s j i us∧(y.fr (1+j)).data.size≤1000:=by
 have hb:=z10 h;have hB:rgB s j i=s - (2+j+i):=(z3R h).2.2.2.2;obtain⟨hg,q,hf0⟩:=hy.map_;have hl:=hy.len;have hst:strL (mapS us)=encL us us.length:=z4x (z3I _ _);have hde:=zek (us:=us) (by rw[hl];omega)
 rw[←hst,hl]at hde;have hmo:z3P (y.fr (1+j)).data (rgB s j i).toNat:=by
  rw[hf0];exact⟨by rw[hst,z1p],hde.2⟩
 have hf:z0R y.stable.length s j i=0:=by
  unfold z0R;rw[if_neg (by simpa using h),if_neg (by have:=hy.size;omega),if_neg (by have:=hy.size;omega)]
 refine⟨fun E=>⟨fun hE=>?_,fun hE=>?_⟩,?_,?_⟩
 ·rcases hE with ⟨h1,-⟩|⟨-,h1,-⟩|⟨-,-,h1,-⟩|⟨-,-,-,-,h1⟩
  ·exact absurd hf h1
  ·exact absurd hg h1
  ·exact absurd ⟨hmo,by rw[hf0]⟩ h1
  ·exact h1
 ·exact .inr (.inr (.inr ⟨hf,hg,hmo,by rw[hf0],hE⟩))
 ·unfold DevS.begins zco;rw[hf0];simp only
  rw[hde.1]
 ·rw[hf0];show (mapS _).size≤1000
  rw[z20];omega
theorem zdU {y:TxS}(ok:y.Ok)(hc:y.Clean){r:Rec}(hr:r∈y.recs){l:List Rec}(hl:r.at_∉l.map (·.at_)):recE y.s 1 y.j l r=0:=by
 have hbd:=z10 ok.rg;have h:=(z2C hc).mem_iff.1 hr;have h9:¬(1≤r.at_∧r.at_<1+y.j)∧0≤r.at_∧r.at_<y.s∧1≤r.kind∧r.kind≤255∧r.data.size≤96:=by
  rcases zi0.1 h with h|h
  ·have h1:=ok.recs r h;have h2:=hc.out r h;have h3:=hc.small r h;omega
  ·split at h
   ·simp at h;subst h;refine⟨by show ¬(1≤1+y.j∧1+y.j<1+y.j);omega,by show 0≤1+y.j;omega,by show 1+y.j<y.s;omega,by show (1:Int)≤5;omega,by show (5:Int)≤255;omega,by show (mapS _).size≤96;rw[z20];omega⟩
   ·cases h
 unfold recE;rw[if_neg h9.1,if_neg (by omega),if_neg (by omega),if_neg hl]
theorem zbT {y:TxS}(ok:y.Ok)(hc:y.Clean):z0X y.s 1 y.j y.recs=0:=by
 have hbd:=z10 ok.rg;have hlen:(y.recs.length:Int)≤z0Z y.j:=by
  rw[z28 hc];have:=ok.len
  unfold TxS.left TxS.most at this;unfold z0Z;split at this<;>simp_all<;>omega
 have hA:=zar hc;have hk:∀k,k≤y.recs.length→z0N y.s 1 y.j y.recs k=0:=by
  intro k;induction k with
  | zero=>intro _;rfl
  | succ k ih=>
   intro hk;rw[z3K (ih (by omega)) (by omega)]
   refine zdU ok hc (zhQ _) fun hm=>?_
   obtain⟨r,hr,he⟩:=List.mem_map.1 hm;obtain⟨i,hi,rfl⟩:=List.mem_iff_getElem.1 hr;rw[List.getElem_take]at he;have h1:i<k:=by rw[zi6]at hi;omega
   have:=List.pairwise_iff_getElem.1 hA i k (by omega) (by omega) h1
   omega
 unfold z0X;rw[if_neg (by omega)]
 exact hk _ (zhT _)
theorem zae {x:DevS}{y:TxS}{us:List Bool}{N:Nat}(ok:y.Ok)(hc:y.Clean)(hx:Live x y.s y.j y.i us (N+200))(hn:y.changed=false→y.now=us):
  ∃x',y.commit x=(0,x')∧Live x' y.s y.j y.i y.now N∧(∀r∈y.writes,x'.ge r.at_=0∧∃q,x'.fr r.at_=⟨r.kind,q,r.data⟩)∧(∀b:Int,0≤b→b<y.s→(b<1∨1+y.j<b)→b∉y.writes.map (·.at_)→sameFr x x' b):=by
 have hbd:=z10 ok.rg;by_cases h0:y.recs=[]
 ·have hw:y.writes=[]∧y.changed=false:=by
   have:=z28 hc
   rw[h0]at this;cases hch:y.changed
   ·rw[hch]at this;exact⟨List.eq_nil_of_length_eq_zero (by simpa using this.symm),rfl⟩
   ·rw[hch]at this;simp at this
  refine⟨x,by unfold TxS.commit;rw[if_pos h0],?_,?_,fun b _ _ _ _=>sameFr.refl _ _⟩
  ·rw[hn hw.2];exact hx.mono (by omega)
  ·rw[hw.1];exact fun _ h=>(by cases h)
 ·obtain⟨q,hq⟩:=hx.head;have hlen:y.recs.length≤80:=by
   rw[z28 hc];have:=ok.len
   unfold TxS.left TxS.most at this;split at this<;>simp_all<;>omega
  have hck:z0p 1 y.j=0:=by unfold z0p;rw[if_neg (by omega)]
  obtain⟨x',e,r,sz,hh,hw,ho⟩:=z6v (x:=x) (F:=1) (Z:=y.j) (q:=q) (n:=N) (l:=y.recs) hck (by rw[hx.size];omega) hq (by rw[hx.size];exact zbT ok hc) (hx.runs.mono (by omega))
  have hmem:∀r∈y.writes,r∈y.recs:=fun r hr=>(z2C hc).mem_iff.2 (zhH _ hr)
  refine⟨x',by unfold TxS.commit;rw[if_neg h0,e],⟨r,by rw[sz];exact hx.size,⟨_,hh⟩,?_,ok.now⟩,fun r hr=>⟨(hw r (hmem r hr)).1,_,(hw r (hmem r hr)).2⟩,fun b h1 h2 h3 h4=>?_⟩
  ·cases hch:y.changed
   ·have hnr:1+y.j∉y.recs.map (·.at_):=fun hm=>by
     obtain⟨r,hr,he⟩:=List.mem_map.1 hm;unfold TxS.recs at hr;rw[hch]at hr;have:=hc.out r (by simpa using hr)
     omega
    have hs:=ho (1+y.j) (by omega) (by rw[hx.size];omega) (by omega) hnr
    obtain⟨g1,q1,f1⟩:=hx.map_;exact⟨hs.1.trans g1,q1,by rw[hs.2,f1,hn hch]⟩
   ·have hm:y.bmap∈y.recs:=(z2C hc).mem_iff.2 (zhI _ (by rw[hch];simp))
    exact⟨(hw _ hm).1,_,(hw _ hm).2⟩
  ·refine ho b h1 (by rw[hx.size];exact h2) (by omega) fun hm=>h4 ?_
   obtain⟨r,hr,he⟩:=List.mem_map.1 hm;rcases zi0.1 ((z2C hc).mem_iff.1 hr)with hr|hr
   ·exact List.mem_map.2 ⟨r,hr,he⟩
   ·split at hr
    ·simp at hr;subst hr;have:1+y.j=b:=he
     omega
    ·cases hr
theorem zfx {x:DevS}(ok:x.Ok){n:Int}(hn:-1≤n∧n≤1000000000000):(x.limit n).Ok:=⟨ok.lo,ok.hi,ok.sec,ok.cac,ok.len,ok.tk,hn⟩
def After (z:DevS)(p:Int)(N:Nat)(Fin:DevS→Prop):Prop:=
 ∀k1,z6r z k1→((((z.crashed k1).limit p).replay 1 8).2.1=0∨(((z.crashed k1).limit p).replay 1 8).2.1=13)∧∀k2,z6r (((z.crashed k1).limit p).replay 1 8).2.2 k2 →
  (((((z.crashed k1).limit p).replay 1 8).2.2.crashed k2).replay 1 8).2.1=0∧(((((z.crashed k1).limit p).replay 1 8).2.2.crashed k2).replay 1 8).2.2.Runs N∧(((((z.crashed k1).limit p).replay 1 8).2.2.crashed k2).replay 1 8).2.2.stable.length=64∧Fin (((((z.crashed k1).limit p).replay 1 8).2.2.crashed k2).replay 1 8).2.2
structure LiveR (x:DevS)(us:List Bool)(q:Int)(N:Nat):Prop where
 live:Live x 64 8 40 us N
 rest:Rest x 1 8 q
def Fin64 (x:DevS)(q:Int)(l:List Rec)(E:Int)(u:DevS):Prop:=(∃r,HeadAt u 1 r)∧((E≠0∧Out0 x u 1 8)∨Full x u 1 8 q l)
section
variable {x:DevS}{y:TxS}{us:List Bool}{q:Int}{N:Nat}
def Alike (y:TxS)(x:DevS)(z:TxS)(u:DevS):Prop:=y.now=z.now∧∀i:Nat,i<64→(i=0∨8<i)→(y.read x i).1=(z.read u i).1∧(y.read x i).2.1=(z.read u i).2.1
end
def z1d (n:Nat)(z:DevS):Prop:=z.Ok∧z.stable.length=n
theorem z4p {x:DevS}{n:Nat}(h:z1d n x){p:Int × Fr}(hp:FitP n p):z1d n (x.put p.1 p.2.kind p.2.seq p.2.data).2∧((x.put p.1 p.2.kind p.2.seq p.2.data).1=0∨(x.put p.1 p.2.kind p.2.seq p.2.data).2.off=true):=by
 obtain⟨ok,rfl⟩:=h;refine⟨⟨zfK ok hp,?_⟩,?_⟩
 all_goals
  have hE:z11 p.1 p.2.kind p.2.data.size=0:=z5z (by have:=ok.hi;have:=hp.at_;omega) hp.kind hp.data
  unfold DevS.put;rw[if_pos hE];unfold DevS.write
 ·split
  ·rfl
  ·split
   ·rfl
   ·exact ok.room.2.2.1
 ·cases ho:x.off
  ·rw[if_neg (by rw[z6L ho hp.at_];simp)]
   split
   ·exact .inr rfl
   ·exact .inl rfl
  ·have:x.atE p.1=13:=by unfold DevS.atE atE;rw[ho];rfl
   rw[if_pos (by rw[this];decide)]
   exact .inr ho
theorem z4P {x:DevS}{n:Nat}(h:z1d n x){L:List (Int × Fr)}(hL:∀p∈L,FitP n p):∀m,m≤L.length→z1d n (x.puts L m).2∧((x.puts L m).1=0∨(x.puts L m).2.off=true)
 | 0,_=>⟨h,.inl rfl⟩
 | m+1,hm=>by
  obtain⟨h1,h2⟩:=z4P h hL m (by omega)
  unfold DevS.puts;split
  ·exact⟨h1,h2⟩
  ·rw[zhw,zhx (by omega)]
   exact z4p h1 (hL _ (zhQ _))
theorem z5V {x:DevS}{n:Nat}(h:z1d n x):z1d n x.flush.2∧x.flush.2.Calm:=by
 unfold DevS.flush;cases ho:x.off
 ·exact⟨⟨h.1.flushed,(z0e _ _).trans h.2⟩,.inl rfl⟩
 ·exact⟨h,.inr ho⟩
theorem z4O {p:Int × DevS}{n:Nat}(h:z1d n p.2)(he:p.1=0∨p.2.off=true):z1d n (DevS.done p).2∧(DevS.done p).2.Calm:=by
 unfold DevS.done;split
 ·rename_i h1
  exact⟨h,.inr (he.resolve_left h1)⟩
 ·exact z5V h
theorem ze8 {x:DevS}{n:Nat}{F Z:Int}{l:List Rec}(h:z1d n x)(hc:x.Calm)(hk:z0p F Z=0)(hF:F+Z≤n):z1d n (x.log F Z l).2∧(x.log F Z l).2.Calm:=by
 unfold DevS.log;split
 ·exact⟨h,hc⟩
 ·split
  ·exact⟨h,hc⟩
  ·rename_i h2
   have hv:ValidL n F Z l:=by rw[←h.2];exact zfL (by simpa using h2)
   have hfit:∀p∈zdv F (x.head F Z).2 l,FitP n p:=fun p hp=>(zbr hk hF hv p hp).1
   obtain⟨h3,h4⟩:=z4P (L:=logL F (next (x.head F Z).2) l) h (fun p hp=>hfit p (zhH _ hp)) l.length (by rw[zdO];exact zhT _)
   split
   ·rename_i h5
    exact⟨h3,.inr (h4.resolve_left h5)⟩
   ·have h6:=z4p h3 (hfit (F+1+l.length,⟨3,next (x.head F Z).2,z0k l.length⟩) (zhI _ (zi4.2 rfl)));exact z4O h6.1 h6.2
theorem zel {n F Z:Int}{f:Fr}(h:z1F n F Z f=true):0≤(z0i f).at_∧(z0i f).at_<n∧1≤(z0i f).kind∧(z0i f).kind≤255∧(z0i f).data.size≤112:=by
 have hk:f.kind=2:=by
  by_cases hk:f.kind=2
  ·exact hk
  ·rw[z3Z hk]at h;cases h
 unfold z1F at h;split at h
 ·cases h
 ·rename_i h9
  simp only[Bool.and_eq_true,decide_eq_true_eq]at h;obtain⟨⟨h1,-⟩,h2⟩:=h;rw[z6u hk]at *;unfold z1U at *;rw[if_neg (by omega)]at *
  have y0:=z0x (z14 f.data) 0;have y1:=z0x (z14 f.data) 1;have y2:=z0x (z14 f.data) 2;simp only at h1 h2 ⊢
  refine⟨by omega,h1,by omega,by omega,?_⟩
  rw[ByteArray.size_extract];omega
theorem z3D {x:DevS}{F Z q:Int}:∀k,∀r∈(x.lookTo F Z q k).run,0≤r.at_∧r.at_<x.stable.length∧1≤r.kind∧r.kind≤255∧r.data.size≤112
 | 0,r,hr=>by simp[DevS.lookTo]at hr
 | k+1,r,hr=>by
  unfold DevS.lookTo at hr;split at hr
  ·exact z3D k r hr
  ·split at hr
   ·simp at hr
   ·split at hr
    ·exact z3D k r hr
    ·rename_i h3
     simp only[zi0,zi4]at hr;rcases hr with hr|rfl
     ·exact z3D k r hr
     ·simp only[Bool.or_eq_true,not_or,Bool.not_eq_true,Bool.not_eq_false']at h3;exact zel h3.1.1.2
theorem zeE {x:DevS}{F Z:Int}{n:Nat}(hn:x.stable.length=n):∀p∈appL (next (x.look F Z).2.1) (x.look F Z).2.2.1,FitP n p:=fun p hp=>by
 have hnx:=z3J (x.look F Z).2.1;unfold appL at hp;obtain⟨r,hm,rfl⟩:=List.mem_map.1 hp;have h9:0≤r.at_∧r.at_<x.stable.length∧1≤r.kind∧r.kind≤255∧r.data.size≤112:=by
  unfold DevS.look at hm;split at hm
  ·cases hm
  ·split at hm
   ·cases hm
   ·exact z3D _ r hm
 exact⟨⟨h9.1,by rw[←hn];exact h9.2.1⟩,⟨h9.2.2.1,h9.2.2.2.1⟩,h9.2.2.2.2,hnx⟩
theorem z4o {x:DevS}{n:Nat}{F Z:Int}(h:z1d n x):z1d n (x.applies (x.look F Z).2.1 (x.look F Z).2.2.1).2∧(x.applies (x.look F Z).2.1 (x.look F Z).2.2.1).2.Calm:=by
 have h1:=z4P h (zeE (F:=F) (Z:=Z) h.2) (x.look F Z).2.2.1.length (by unfold appL;rw[zhX];exact zhT _)
 exact z4O h1.1 h1.2
theorem zai {x:DevS}{n:Nat}{F Z:Int}(h:z1d n x)(hc:x.Calm):z1d n (x.apply F Z).2.2∧(x.apply F Z).2.2.Calm:=by
 unfold DevS.apply;split
 ·exact⟨h,hc⟩
 ·split
  ·exact⟨h,hc⟩
  ·split<;>exact z4o h
theorem z44 {x:DevS}{n:Nat}{F Z:Int}(h:z1d n x)(hc:x.Calm)(hk:z0p F Z=0)(hF:F+Z≤n):z1d n (x.clear F Z).2∧(x.clear F Z).2.Calm:=by
 have hz:=z1e hk;unfold DevS.clear;split
 ·exact⟨h,hc⟩
 ·have h6:=z4p (p:=(F,⟨1,next (x.head F Z).2,⟨#[]⟩⟩)) h ⟨⟨by show 0≤F;omega,by show F<_;omega⟩,⟨by show (1:Int)≤1;omega,by show (1:Int)≤255;omega⟩,by show (ByteArray.mk #[]).size≤112;decide,z3J _⟩
  exact z4O h6.1 h6.2
theorem z5h {x:DevS}{n:Nat}{F Z:Int}{l:List Rec}(h:z1d n x)(hc:x.Calm)(hk:z0p F Z=0)(hF:F+Z≤n):z1d n (x.commit F Z l).2∧(x.commit F Z l).2.Calm:=by
 obtain⟨h1,c1⟩:=ze8 (l:=l) h hc hk hF;obtain⟨h2,c2⟩:=zai (F:=F) (Z:=Z) h1 c1;unfold DevS.commit;split
 ·exact⟨h1,c1⟩
 ·split
  ·exact⟨h2,c2⟩
  ·exact z44 h2 c2 hk hF
theorem za3 {x:DevS}{n:Nat}(h:z1d n x){a:Int}{s:List Int}(ha:0≤a∧a<n)(hs:s.length=128∧z0V s):z1d n (x.write a s).2∧((x.write a s).1=0∨(x.write a s).2.off=true):=by
 obtain⟨ok,rfl⟩:=h;refine⟨⟨ok.write a hs,?_⟩,?_⟩
 all_goals unfold DevS.write
 ·split
  ·rfl
  ·split
   ·rfl
   ·exact ok.room.2.2.1
 ·cases ho:x.off
  ·rw[if_neg (by rw[z6L ho ha];simp)]
   split
   ·exact .inr rfl
   ·exact .inl rfl
  ·have:x.atE a=13:=by unfold DevS.atE atE;rw[ho];rfl
   rw[if_pos (by rw[this];decide)]
   exact .inr ho
theorem z5p {x:DevS}{n:Nat}(h:z1d n x){a:Int}(h0:0≤a):∀k:Nat,a+k≤n→z1d n (x.blanks a k).2∧((x.blanks a k).1=0∨(x.blanks a k).2.off=true)
 | 0,_=>⟨h,.inl rfl⟩
 | k+1,hk=>by
  obtain⟨h1,h2⟩:=z5p h h0 k (by omega)
  unfold DevS.blanks;split
  ·exact⟨h1,h2⟩
  ·exact za3 h1 (by omega) ⟨by unfold zsec;simp,z29⟩
theorem z7y {x:DevS}{n:Nat}{F Z:Int}(h:z1d n x)(hc:x.Calm)(hF:F+Z≤n):z1d n (x.jfmt F Z).2∧(x.jfmt F Z).2.Calm:=by
 unfold DevS.jfmt;split
 ·exact⟨h,hc⟩
 ·rename_i h0
  have hk:z0p F Z=0:=by simpa using h0
  have hz:=z1e hk;obtain⟨h1,h2⟩:=z4p (p:=(F,⟨1,0,⟨#[]⟩⟩)) h ⟨⟨by show 0≤F;omega,by show F<_;omega⟩,⟨by show (1:Int)≤1;omega,by show (1:Int)≤255;omega⟩,by show (ByteArray.mk #[]).size≤112;decide,by show (0:Int)≤0;omega,by show (0:Int)<4294967296;omega⟩
  simp only at h1 h2
  split
  ·rename_i h3;exact⟨h1,.inr (h2.resolve_left h3)⟩
  ·obtain⟨h4,h5⟩:=z5p h1 (a:=F+1) (by omega) (Z - 1).toNat (by omega)
   split
   ·rename_i h6;exact⟨h4,.inr (h5.resolve_left h6)⟩
   ·exact z5V h4
theorem z8s {x:DevS}{n:Nat}{F Z:Int}(h:z1d n x)(hc:x.Calm)(hk:z0p F Z=0)(hF:F+Z≤n):z1d n (x.replay F Z).2.2∧(x.replay F Z).2.2.Calm:=by
 have hac:z1d n (x.ac F Z (x.look F Z).2.1 (x.look F Z).2.2.1).2∧(x.ac F Z (x.look F Z).2.1 (x.look F Z).2.2.1).2.Calm:=by
  obtain⟨h1,c1⟩:=z4o (F:=F) (Z:=Z) h;unfold DevS.ac;split
  ·exact⟨h1,c1⟩
  ·exact z44 h1 c1 hk hF
 unfold DevS.replay;split
 ·exact⟨h,hc⟩
 ·split
  ·split<;>exact hac
  ·split
   ·exact⟨h,hc⟩
   ·split
    ·exact z44 h hc hk hF
    ·exact⟨h,hc⟩
theorem z9X {x:DevS}{n:Nat}(h:z1d n x){keep:List Nat}(hk:z6r x keep):z1d n (x.crashed keep)∧(x.crashed keep).Calm:=⟨⟨zbx h.1 hk,(z9c _ _).trans h.2⟩,.inl rfl⟩
theorem zak {x:DevS}{n:Nat}(h:z1d n x)(hc:x.Calm){m:Int}(hm:-1≤m∧m≤1000000000000):z1d n (x.limit m)∧(x.limit m).Calm:=⟨⟨zfx h.1 hm,h.2⟩,hc⟩
theorem zeT {n:Nat}(h:n≠0)(s j i:Int):fitE n s j i=z0R n s j i:=by
 have h9:¬(n:Int)=0:=by omega
 unfold fitE z0R;by_cases h1:rgE s j i=0
 ·by_cases h2:(n:Int)=s
  ·simp[h1,h2,h9]
   try omega
  ·simp[h1,h2,h9]
   try omega
 ·simp[h1]
theorem zgW {w:World}{P:Nat→Prop}{x:DevS}{sv:Array Value}(hq:RSv w P x sv)(s j i:Int):
  Calls prog 42 #[.agg sv,.agg #[.int .i64 s,.int .i64 j,.int .i64 i]] w fun e w'=>Below w.heap.size w w'∧e=.returned (.tuple #[rgV s j i,.int .i64 (z0R x.stable.length s j i)]):=by
 obtain⟨A,c,C,d,rfl,hq⟩:=hq;have hlo:=hq.ok.lo;have hne:x.stable≠[]:=fun e=>by rw[e]at hlo;simp at hlo
 have hne2:0<(x.stable.flatMap secV).length:=by
  cases h:x.stable with
  | nil=>exact absurd h hne
  | cons s0 t=>
   have h0:=(hq.ok.sec s0 (by rw[h];exact zhK ..)).1
   rw[zhN,zhF];unfold secV;rw[zhX];omega
 obtain⟨b,off,hA,-,-⟩:=hq.sta.at_ (k:=0) hne2;have h1:=(hq.la _ hA).2;simp only[Addr.mk.injEq,true_and,and_true]at h1;subst h1;subst hA;rw[←zeT (by omega)]
 exact z9p (.slice C x.cache.length d) b x.stable.length c x.taken x.power s j i x.off w
end Go.Proofs.YtejmknghkbobnaaGreatDoor
