import Derived.Test.YtejmknghkbobnaaGreatDoorPart00
import Derived.Test.YtejmknghkbobnaaGreatDoorPart41
import Derived.Test.YtejmknghkbobnaaGreatDoorPart23
set_option linter.unusedVariables false
set_option linter.unusedSimpArgs false
set_option maxRecDepth 100000
set_option maxHeartbeats 8000000
namespace Go.Proofs.YtejmknghkbobnaaGreatDoor
open Go.Proofs.Tryz
open Go.RowKit Go.Maps
theorem zgi (s j i:Int)(A Bl:Option Addr)(c cb:Nat)(us:List Bool)(l:List Int)(hus:us.length≤1000)(hl:l.length≤1000)(w:World)(hR:Reads w A (us.map .bool))(hB:Reads w Bl (l.map (.int .i64))):
  Calls prog 151 #[.agg #[.int .i64 s,.int .i64 j,.int .i64 i,.slice A us.length c],.slice Bl l.length cb] w (TnPost s j i A c us l false 4 w):=by
 obtain⟨w0,hw0⟩:∃w0,w0=(w.alloc (.cells #[.int .i64 s,.int .i64 j,.int .i64 i,.slice A us.length c] 47)).alloc (.cells #[.int .i64 0,.int .i64 0,.int .i64 0,.slice none 0 0] 47):=⟨_,rfl⟩;have bT:Blk w0 w.heap.size 47 #[.int .i64 s,.int .i64 j,.int .i64 i,.slice A us.length c]:=by rw[hw0];exact(Blk.new _ _ _).alloc _
 have bR:Blk w0 (w.heap.size+1) 47 #[.int .i64 0,.int .i64 0,.int .i64 0,.slice none 0 0]:=by rw[hw0];exact Blk.new' (by simp)
 have B0:Below w.heap.size w w0:=by rw[hw0];(repeat' (first|with_reducible (first|exact zho _ _|assumption|refine zhp ?_ ?_ _|refine zhq ?_|refine z00 ?_ _|refine zhr ?_ ?_ _|exact zhT _)|omega|(simp;done)|(simp;omega)))
 have hT:=z8L s j i A Bl c cb us l false 4 (by decide) hus hl w0 (hR.below B0) (hB.below B0)
 have l1:=z3S bT rfl;have zR:=zhs bR.lt;clear hR hB;go_enter func151,ntmps151
 go_upto_region 1 with fail
 rw[←hw0];clear hw0;go_wp2_with (refine z02 (by rfl) _ _ rfl (.agg #[.int .i64 s,.int .i64 j,.int .i64 i,.slice A us.length c]) (.pointer (some ⟨w.heap.size,0,none⟩)) rfl l1 ?_)
 refine hT.mono ?_;rintro e w1 ⟨hb1,⟨hE,rfl⟩|⟨hE,g,cap,rfl,ho⟩⟩
 ·have bR1:=bR.belowAll hb1;have hst:=z0q (ty:=47) (vs:=#[.int .i64 s,.int .i64 j,.int .i64 i,.slice A us.length c]) bR1 rfl (by simp[Value.oneCell']) (by kernel_rfl)
  have bR2:=bR1.setRow (cs':=#[.int .i64 s,.int .i64 j,.int .i64 i,.slice A us.length c]);have B2:=Below.setRow (B0.trans (hb1.mono B0.size)) (show w.heap.size≤w.heap.size+1 by omega) #[.int .i64 s,.int .i64 j,.int .i64 i,.slice A us.length c]
  clear hT l1;go_wp2_with (refine z01 rfl _ _ _ rfl _ _ rfl rfl hst ?_)
  refine bodyPost_ret (z08 (cs:=#[.int .i64 s,.int .i64 j,.int .i64 i,.slice A us.length c]) rfl rfl rfl bR2 underlying47 (by kernel_rfl)) rfl ?_
  exact⟨B2,.inl ⟨hE,rfl⟩⟩
 ·have bR1:=bR.belowAll hb1;have hst:=z0q (ty:=47) (vs:=#[.int .i64 s,.int .i64 j,.int .i64 i,.slice (some ⟨g,0,none⟩) us.length cap]) bR1 rfl (by simp[Value.oneCell']) (by kernel_rfl)
  have bR2:=bR1.setRow (cs':=#[.int .i64 s,.int .i64 j,.int .i64 i,.slice (some ⟨g,0,none⟩) us.length cap]);have B2:=Below.setRow (B0.trans (hb1.mono B0.size)) (show w.heap.size≤w.heap.size+1 by omega) #[.int .i64 s,.int .i64 j,.int .i64 i,.slice (some ⟨g,0,none⟩) us.length cap]
  have ho2:(w1.setRow (w.heap.size+1) #[.int .i64 s,.int .i64 j,.int .i64 i,.slice (some ⟨g,0,none⟩) us.length cap]).ownsRow w.heap.size 4 1 (.slice (some ⟨g,0,none⟩) us.length cap) us.length ((z0M us l false).map .bool):=z0c (z0y ho B0.size) fun q hq=>z0b _ _ _ _ (by have:=(ho.lt q hq).1;have:=zR.out;omega)
  have HF:=zhs (And.intro B2 ho2);clear hT l1 ho ho2 B2;go_wp2_with (refine z01 rfl _ _ _ rfl _ _ rfl rfl hst ?_)
  refine bodyPost_ret (z08 (cs:=#[.int .i64 s,.int .i64 j,.int .i64 i,.slice (some ⟨g,0,none⟩) us.length cap]) rfl rfl rfl bR2 underlying47 (by kernel_rfl)) rfl ?_
  exact⟨HF.out.1,.inr ⟨hE,g,cap,rfl,HF.out.2⟩⟩
theorem zfS (s j i:Int)(A Bl:Option Addr)(c cb:Nat)(us:List Bool)(l:List Int)(hus:us.length≤1000)(hl:l.length≤1000)(w:World)(hR:Reads w A (us.map .bool))(hB:Reads w Bl (l.map (.int .i64))):
  Calls prog 149 #[.agg #[.int .i64 s,.int .i64 j,.int .i64 i,.slice A us.length c],.slice Bl l.length cb] w (TnPost s j i A c us l true 9 w):=by
 obtain⟨w0,hw0⟩:∃w0,w0=(w.alloc (.cells #[.int .i64 s,.int .i64 j,.int .i64 i,.slice A us.length c] 47)).alloc (.cells #[.int .i64 0,.int .i64 0,.int .i64 0,.slice none 0 0] 47):=⟨_,rfl⟩;have bT:Blk w0 w.heap.size 47 #[.int .i64 s,.int .i64 j,.int .i64 i,.slice A us.length c]:=by rw[hw0];exact(Blk.new _ _ _).alloc _
 have bR:Blk w0 (w.heap.size+1) 47 #[.int .i64 0,.int .i64 0,.int .i64 0,.slice none 0 0]:=by rw[hw0];exact Blk.new' (by simp)
 have B0:Below w.heap.size w w0:=by rw[hw0];(repeat' (first|with_reducible (first|exact zho _ _|assumption|refine zhp ?_ ?_ _|refine zhq ?_|refine z00 ?_ _|refine zhr ?_ ?_ _|exact zhT _)|omega|(simp;done)|(simp;omega)))
 have hT:=z8L s j i A Bl c cb us l true 9 (by decide) hus hl w0 (hR.below B0) (hB.below B0)
 have l1:=z3S bT rfl;have zR:=zhs bR.lt;clear hR hB;go_enter func149,ntmps149
 go_upto_region 1 with fail
 rw[←hw0];clear hw0;go_wp2_with (refine z02 (by rfl) _ _ rfl (.agg #[.int .i64 s,.int .i64 j,.int .i64 i,.slice A us.length c]) (.pointer (some ⟨w.heap.size,0,none⟩)) rfl l1 ?_)
 refine hT.mono ?_;rintro e w1 ⟨hb1,⟨hE,rfl⟩|⟨hE,g,cap,rfl,ho⟩⟩
 ·have bR1:=bR.belowAll hb1;have hst:=z0q (ty:=47) (vs:=#[.int .i64 s,.int .i64 j,.int .i64 i,.slice A us.length c]) bR1 rfl (by simp[Value.oneCell']) (by kernel_rfl)
  have bR2:=bR1.setRow (cs':=#[.int .i64 s,.int .i64 j,.int .i64 i,.slice A us.length c]);have B2:=Below.setRow (B0.trans (hb1.mono B0.size)) (show w.heap.size≤w.heap.size+1 by omega) #[.int .i64 s,.int .i64 j,.int .i64 i,.slice A us.length c]
  clear hT l1;go_wp2_with (refine z01 rfl _ _ _ rfl _ _ rfl rfl hst ?_)
  refine bodyPost_ret (z08 (cs:=#[.int .i64 s,.int .i64 j,.int .i64 i,.slice A us.length c]) rfl rfl rfl bR2 underlying47 (by kernel_rfl)) rfl ?_
  exact⟨B2,.inl ⟨hE,rfl⟩⟩
 ·have bR1:=bR.belowAll hb1;have hst:=z0q (ty:=47) (vs:=#[.int .i64 s,.int .i64 j,.int .i64 i,.slice (some ⟨g,0,none⟩) us.length cap]) bR1 rfl (by simp[Value.oneCell']) (by kernel_rfl)
  have bR2:=bR1.setRow (cs':=#[.int .i64 s,.int .i64 j,.int .i64 i,.slice (some ⟨g,0,none⟩) us.length cap]);have B2:=Below.setRow (B0.trans (hb1.mono B0.size)) (show w.heap.size≤w.heap.size+1 by omega) #[.int .i64 s,.int .i64 j,.int .i64 i,.slice (some ⟨g,0,none⟩) us.length cap]
  have ho2:(w1.setRow (w.heap.size+1) #[.int .i64 s,.int .i64 j,.int .i64 i,.slice (some ⟨g,0,none⟩) us.length cap]).ownsRow w.heap.size 4 1 (.slice (some ⟨g,0,none⟩) us.length cap) us.length ((z0M us l true).map .bool):=z0c (z0y ho B0.size) fun q hq=>z0b _ _ _ _ (by have:=(ho.lt q hq).1;have:=zR.out;omega)
  have HF:=zhs (And.intro B2 ho2);clear hT l1 ho ho2 B2;go_wp2_with (refine z01 rfl _ _ _ rfl _ _ rfl rfl hst ?_)
  refine bodyPost_ret (z08 (cs:=#[.int .i64 s,.int .i64 j,.int .i64 i,.slice (some ⟨g,0,none⟩) us.length cap]) rfl rfl rfl bR2 underlying47 (by kernel_rfl)) rfl ?_
  exact⟨HF.out.1,.inr ⟨hE,g,cap,rfl,HF.out.2⟩⟩
def TxS.lefts (y:TxS):Int × Int × Int:=if y.stateE≠0 then (0,0,y.stateE)else (z1V y.s y.j y.i y.may,y.left,0)
theorem zeQ {w:World}{P:Nat→Prop}{x:DevS}{y:TxS}{tv:Array Value}(hq:RTx w P x y tv)(ok:y.Ok)(hc:y.Clean):
  Calls prog 69 #[.agg tv] w fun e w'=>e=.returned (.tuple #[.int .i64 y.lefts.1,.int .i64 y.lefts.2.1,.int .i64 y.lefts.2.2])∧Below w.heap.size w w':=by
 obtain⟨w0,hw0⟩:∃w0,w0=w.alloc (.cells tv 50):=⟨_,rfl⟩;have bT:Blk w0 w.heap.size 50 tv:=by rw[hw0];exact Blk.new _ _ _
 have B0:Below w.heap.size w w0:=by rw[hw0];(repeat' (first|with_reducible (first|exact zho _ _|assumption|refine zhp ?_ ?_ _|refine zhq ?_|refine z00 ?_ _|refine zhr ?_ ?_ _|exact zhT _)|omega|(simp;done)|(simp;omega)))
 have hQ0:=hq.below B0;have hsz:=hq.size;have hst:=z2R hQ0;have l0:=z0n bT hsz;have hml:y.may.length≤1000:=by
  have h1:=ok.now;have h2:=z10 ok.rg;unfold TxS.may orL;rw[List.length_zipWith];unfold rgB at h1;omega
 have HL:Hid (y.lefts=if y.stateE≠0 then (0,0,y.stateE)else (z1V y.s y.j y.i y.may,y.left,0)):=zhs rfl
 clear hq;go_enter func69,ntmps69
 go_upto_region 1 with fail
 rw[←hw0];clear hw0;go_wp2_with (refine z02 (by rfl) _ _ rfl (.agg tv) (.pointer (some ⟨w.heap.size,0,none⟩)) rfl l0 ?_)
 refine hst.mono ?_;rintro e w1 ⟨rfl,hb1⟩;clear hst l0;have B1:=B0.trans (hb1.mono B0.size);by_cases hE:y.stateE=0
 ·rw[hE];have HH:Hid (y.lefts=(z1V y.s y.j y.i y.may,y.left,0)):=zhs (by rw[HL.out,if_neg (by rw[hE];simp)])
  clear HL hE;have bT1:=bT.belowAll hb1;have hQ1:=hQ0.below hb1;have hm:=zfy hQ1 ok;have l1:=z0n bT1 hsz;clear bT hQ0 B0;go_wp2_with (refine z02 (by rfl) _ _ rfl (.agg tv) (.pointer (some ⟨w.heap.size,0,none⟩)) rfl l1 ?_)
  refine hm.mono ?_;rintro e w2 ⟨A,c,rfl,ho,hb2⟩;clear hm l1;have hcn:=zck y.s y.j y.i A c y.may hml w2 (Reads.of_own ho);go_wp2_with fail
  refine hcn.mono ?_;rintro e w3 ⟨rfl,hb3⟩;have hb13:Below w1.heap.size w1 w3:=hb2.trans (hb3.mono hb2.size);have bT3:=bT1.belowAll hb13;have hlf:=z9P (hQ1.below hb13) ok hc;have l3:=z0n bT3 hsz;have B3:=B1.trans (hb13.mono B1.size);clear hcn ho;go_wp2_with (refine z02 (by rfl) _ _ rfl (.agg tv) (.pointer (some ⟨w.heap.size,0,none⟩)) rfl l3 ?_)
  refine hlf.mono ?_;rintro e w4 ⟨rfl,hb4⟩;have B4:=B3.trans (hb4.mono B3.size);clear hlf l3;go_wp2_with fail
  go_ret3
  exact⟨by rw[HH.out];rfl,B4⟩
 ·have HH:Hid (y.lefts=(0,0,y.stateE)):=zhs (by rw[HL.out,if_pos hE])
  have hE':(y.stateE != 0)=true:=by simpa using hE
  clear HL hE;generalize y.stateE=E at *;go_wp2_with fail
  go_ret3
  exact⟨by rw[HH.out];rfl,B1⟩
theorem RTx.nowP {w:World}{P:Nat→Prop}{x:DevS}{y:TxS}{tv:Array Value}(h:RTx w P x y tv):∃N nc,tv[17]?=some (.int .i64 y.s)∧tv[18]?=some (.int .i64 y.j)∧tv[19]?=some (.int .i64 y.i)∧tv[20]?=some (.slice N y.now.length nc)∧Reads w N (y.now.map .bool)∧(y.now=[]∨Lies P N)∧y.now.length≤nc:=by
 obtain⟨p,rfl,h⟩:=h;exact⟨p.N,p.nc,rfl,rfl,rfl,rfl,h.now,h.ln,h.nc⟩
theorem z7F {y:TxS}(ok:y.Ok):y.now.length≤800:=by
 have h1:=ok.now;have h2:=z10 ok.rg;unfold rgB at h1;omega
theorem zfY {w:World}{P:Nat→Prop}{x:DevS}{y:TxS}{tv:Array Value}(hq:RTx w P x y tv)(hP:∀b,w.heap.size≤b→P b)(ok:y.Ok)(hc:y.Clean)(Bl:Option Addr)(cb:Nat)(l:List Int)(hl:l.length≤1000)(hB:Reads w Bl (l.map (.int .i64))):
  Calls prog 68 #[.agg tv,.slice Bl l.length cb] w (RTgot w P x (y.free l)):=by
 obtain⟨w0,hw0⟩:∃w0,w0=(w.alloc (.cells tv 50)).alloc (.cells txZ 50):=⟨_,rfl⟩;have bT:Blk w0 w.heap.size 50 tv:=by rw[hw0];exact(Blk.new _ _ _).alloc _
 have bR:Blk w0 (w.heap.size+1) 50 txZ:=by rw[hw0];exact Blk.new' (by simp)
 have B0:Below w.heap.size w w0:=by rw[hw0];(repeat' (first|with_reducible (first|exact zho _ _|assumption|refine zhp ?_ ?_ _|refine zhq ?_|refine z00 ?_ _|refine zhr ?_ ?_ _|exact zhT _)|omega|(simp;done)|(simp;omega)))
 have hQ0:=hq.apt B0 w0.heap.size;have HN:=zhs (Apt_.new hP B0.size);have hsz:=hq.size;have hone:=hq.one;have zR:=zhs bR.lt;have hst0:=z2R hQ0;have HB:=zhs (hB.below B0);have hnl:=z7F ok;have HW:Hid (y.free l=if y.stateE≠0 then (y.stateE,y)else if y.freeE l≠0 then (y.freeE l,y.brk)else (0,y.change (z0M y.now l false) l.length)):=zhs rfl
 have HWE:Hid (y.freeE l=if TnE y.s y.j y.i y.now l false 4≠0 then TnE y.s y.j y.i y.now l false 4 else y.changeE l.length):=zhs rfl
 have HCG:Hid (y.chg (z0M y.now l false) l.length=if y.changeE l.length≠0 then (12,y.brk)else (0,y.change (z0M y.now l false) l.length)):=zhs rfl
 have HC12:Hid (y.changeE l.length=0∨y.changeE l.length=12):=zhs (by unfold TxS.changeE;split;exact .inl rfl;split;exact .inr rfl;exact .inl rfl)
 clear hq hP hB;unfold txZ txR at hw0;go_enter func68,ntmps68
 go_upto_region 1 with fail
 rw[←hw0];clear hw0;have l0:=z0n bT hsz;go_wp2_with (refine z02 (by rfl) _ _ rfl (.agg tv) (.pointer (some ⟨w.heap.size,0,none⟩)) rfl l0 ?_)
 refine hst0.mono ?_;rintro e w1 ⟨rfl,hb1⟩;have bT1:=bT.belowAll hb1;have bR1:=bR.belowAll hb1;have B1:=B0.trans (hb1.mono B0.size);have hQ1:=hQ0.below hb1;have HB1:=zhs (HB.out.below hb1);have HZ1:=zhs hb1.size;clear hst0 l0 bT bR B0 hb1 hQ0;by_cases hE:y.stateE=0
 rotate_left
 ·as_aux_lemma=>
  have HH:Hid (y.free l=(y.stateE,y)):=zhs (by rw[HW.out,if_pos hE])
  clear HW HWE HCG HC12;generalize y.stateE=E at *;have hE':(E != 0)=true:=by simpa using hE
  have l1:=z0n bT1 hsz;have hst:=z0v bR1 rfl hsz hone;have bR2:=bR1.setRow (cs':=tv);have hfin:=RTgot.mk (R:=w.heap.size+1) E hQ1 B1 (by omega) zR.out
  clear hE;go_wp2_with (first|(refine z02 (by rfl) _ _ rfl (.agg tv) (.pointer (some ⟨w.heap.size,0,none⟩)) rfl l1 ?_)|(refine z01 rfl _ _ _ rfl _ _ rfl rfl hst ?_))
  refine bodyPost_ret (z08 (cs:=tv) rfl rfl rfl bR2 underlying50 (by rw[hsz];kernel_rfl)) rfl ?_
  rw[HH.out];exact hfin
 have HW1:Hid (y.free l=if y.freeE l≠0 then (y.freeE l,y.brk)else (0,y.change (z0M y.now l false) l.length)):=zhs (by rw[HW.out,if_neg (by rw[hE];simp)])
 rw[hE];clear hE HW;obtain⟨N,nc,n17,n18,n19,n20,hRN,hLN,hcap⟩:=hQ1.nowP;have c17:=(bT1.cells 17).trans n17;have c18:=(bT1.cells 18).trans n18;have c19:=(bT1.cells 19).trans n19;have c20:=(bT1.cells 20).trans n20;have lT:=bT1.lt;have hfr:=zgi y.s y.j y.i N Bl nc cb y.now l (by omega) hl w1 hRN HB1.out
 go_wp2_with fail
 refine hfr.mono ?_;clear hfr c17 c18 c19 c20 lT n17 n18 n19 n20;rintro e w2 ⟨hb2,⟨hT,rfl⟩|⟨hT,g,cap,rfl,ho⟩⟩
 ·as_aux_lemma=>
  have HH:Hid (y.free l=(TnE y.s y.j y.i y.now l false 4,y.brk)):=zhs (by
   have e:y.freeE l=TnE y.s y.j y.i y.now l false 4:=by rw[HWE.out,if_pos hT]
   rw[HW1.out,e,if_pos hT])
  clear HW1 HWE HCG HC12;generalize TnE y.s y.j y.i y.now l false 4=E at *;have hT':(E != 0)=true:=by simpa using hT
  go_upto_region 5 with fail
  obtain⟨w3,hw3⟩:∃w3,w3=w2.alloc (.cells #[.int .i64 y.s,.int .i64 y.j,.int .i64 y.i,.slice N y.now.length nc] 47):=⟨_,rfl⟩;have hb3:Below w1.heap.size w1 w3:=by rw[hw3];exact hb2.alloc hb2.size _
  rw[←hw3];clear hw3 hT;have bT3:=bT1.belowAll hb3;have bR3:=bR1.belowAll hb3;have B3:=B1.trans (hb3.mono B1.size);have hbr:=z2y (hQ1.below hb3) E;have l1:=z0n bT3 hsz;clear bT1 bR1 B1 hQ1;go_wp2_with (refine z02 (by rfl) _ _ rfl (.agg tv) (.pointer (some ⟨w.heap.size,0,none⟩)) rfl l1 ?_)
  refine hbr.mono ?_;rintro e w9 ⟨tv9,rfl,hq9,hb9⟩;have hsz9:=hq9.size;have hst:=z0v (bR3.belowAll hb9) rfl hsz9 hq9.one;have bR9:=(bR3.belowAll hb9).setRow (cs':=tv9);have hfin:=RTgot.mk (R:=w.heap.size+1) E hq9 (B3.trans (hb9.mono B3.size)) (by omega) zR.out
  clear hbr l1;go_wp2_with (refine z01 rfl _ _ _ rfl _ _ rfl rfl hst ?_)
  refine bodyPost_ret (z08 (cs:=tv9) rfl rfl rfl bR9 underlying50 (by rw[hsz9];kernel_rfl)) rfl ?_
  rw[HH.out];exact hfin
 ·as_aux_lemma=>
  have HH:Hid (y.free l=y.chg (z0M y.now l false) l.length):=zhs (by
   have e:y.freeE l=y.changeE l.length:=by rw[HWE.out,if_neg (by rw[hT];simp)]
   rw[HW1.out,HCG.out,e];rcases HC12.out with h|h<;>rw[h]<;>rfl)
  clear HW1 HWE HCG HC12 hT;have hul:(z0M y.now l false).length=y.now.length:=z1u _ _ _;generalize z0M y.now l false=us at *;rw[←hul]at ho;have hLies:us=[]∨Lies (Apt_ P w.heap.size w0.heap.size) (some ⟨g,0,none⟩):=.inr (z2m ho fun b hb=>HN.out b (zhS HZ1.out hb))
  have hcp:=z5H ho;have hRd:=Reads.of_own ho;go_upto_region 5 with fail
  rw[←hul];obtain⟨w3,hw3⟩:∃w3,w3=w2.alloc (.cells #[.int .i64 y.s,.int .i64 y.j,.int .i64 y.i,.slice (some ⟨g,0,none⟩) us.length cap] 47):=⟨_,rfl⟩;obtain⟨G,hG⟩:∃G,G=w2.heap.size:=⟨_,rfl⟩;have bG:Blk w3 G 47 #[.int .i64 y.s,.int .i64 y.j,.int .i64 y.i,.slice (some ⟨g,0,none⟩) us.length cap]:=by rw[hw3,hG];exact Blk.new _ _ _
  have hb23:Below w2.heap.size w2 w3:=by rw[hw3];exact(zho _ _).alloc (zhT _) _
  have hb3:Below w1.heap.size w1 w3:=by rw[hw3];exact hb2.alloc hb2.size _
  rw[←hw3,←hG];clear hw3 hG;have bT3:=bT1.belowAll hb3;have bR3:=bR1.belowAll hb3;have B3:=B1.trans (hb3.mono B1.size);have hch:=z7r (hQ1.below hb3) ok hc (some ⟨g,0,none⟩) cap us (hRd.below hb23) hLies hcp l.length Bl cb;have l1:=z0n bT3 hsz;have l2:=z3S bG rfl;obtain⟨rr,hrr⟩:∃rr,y.chg us l.length=rr:=⟨_,rfl⟩;rw[hrr]at hch HH;clear bT1 bR1 B1 hQ1 hLies hRd ho hul hrr;go_wp2_with (first|(refine z02 (by rfl) _ _ rfl (.agg tv) (.pointer (some ⟨w.heap.size,0,none⟩)) rfl l1 ?_)|(refine z02 (by rfl) _ _ rfl (.agg #[.int .i64 y.s,.int .i64 y.j,.int .i64 y.i,.slice (some ⟨g,0,none⟩) us.length cap]) (.pointer (some ⟨G,0,none⟩)) rfl l2 ?_))
  refine hch.mono ?_;rintro e w9 ⟨tv9,rfl,hq9,hb9⟩;obtain⟨e9,y9⟩:=rr;have hsz9:=hq9.size;have hst:=z0v (bR3.belowAll hb9) rfl hsz9 hq9.one;have bR9:=(bR3.belowAll hb9).setRow (cs':=tv9);have hfin:=RTgot.mk (R:=w.heap.size+1) e9 hq9 (B3.trans (hb9.mono B3.size)) (by omega) zR.out
  clear hch l1 l2;go_wp2_with (refine z01 rfl _ _ _ rfl _ _ rfl rfl hst ?_)
  refine bodyPost_ret (z08 (cs:=tv9) rfl rfl rfl bR9 underlying50 (by rw[hsz9];kernel_rfl)) rfl ?_
  rw[HH.out];exact hfin
def zbb (s j i:Int)(near many:Nat)(us:List Bool)(w:World)(e:Ending)(w':World):Prop:=
 Below w.heap.size w w'∧∃g cap av cv,e=.returned (.tuple #[.agg #[.int .i64 s,.int .i64 j,.int .i64 i,.slice (some ⟨g,0,none⟩) us.length cap],.slice av (z0g us near many).length cv,.int .i64 0]) ∧
  w'.ownsRow w.heap.size 4 1 (.slice (some ⟨g,0,none⟩) us.length cap) us.length ((z0M us (z0g us near many) true).map .bool) ∧
  w'.ownsRow w.heap.size 3 1 (.slice av (z0g us near many).length cv) (z0g us near many).length ((z0g us near many).map (.int .i64))
theorem zdZ (s j i:Int)(A:Option Addr)(c near many:Nat)(us:List Bool)(hnear:near<us.length)(hus:us.length≤1000)(w:World)
  (hR:Reads w A (us.map .bool)) (hE:CkE s j i us.length=0) (hfr:many≤z3e us):
  Calls prog 147 #[.agg #[.int .i64 s,.int .i64 j,.int .i64 i,.slice A us.length c],.int .i64 near,.int .i64 many] w (zbb s j i near many us w):=by
 have hE':(CkE s j i us.length != 0)=false:=by simp[hE]
 have hE2:(CkE s j i us.length==0)=true:=by simp[hE]
 have hO':outB near 0 ((us.length:Int) - 1)=false:=z2e (by omega)
 have hm0:decide ((many:Int)<0)=false:=by simp
 have hfl:=z6O hnear;have hnf:=z7I us;have hf1:decide (z3e us<many)=false:=by simp;omega
 have HE:=zhs hE;have HFL:=zhs hfl;clear hE hfl;obtain⟨i0,hi,hz0,hz1,hz2⟩:=info_parts Tryz.info3;go_enter func147,ntmps147
 go_wp2_with fail
 refine(z1x s j i A us.length c _ (by unfold maxLen;omega)).mono ?_
 rintro e w1 ⟨rfl,hb1⟩;have bS:Blk w1 w.heap.size 47 #[.int .i64 s,.int .i64 j,.int .i64 i,.slice A us.length c]:=Blk.belowAll (by (repeat' (first|(with_reducible assumption)|exact Blk.new' (by simp)|refine Blk.alloc ?_ _))) hb1
 have bR:Blk w1 (w.heap.size+1) 47 #[.int .i64 0,.int .i64 0,.int .i64 0,.slice none 0 0]:=Blk.belowAll (by (repeat' (first|(with_reducible assumption)|exact Blk.new' (by simp)|refine Blk.alloc ?_ _))) hb1
 have B1:Below w.heap.size w w1:=z1W hb1;clear hb1;have cS:=bS.cells;go_wp2_with fail
 refine(z1D _ _ _ _).mono ?_;rintro e w2 ⟨rfl,rfl⟩;go_wp2_with fail
 refine(z6x s j i A c us _ (hR.below B1) hus).mono ?_;rintro e w2 ⟨rfl,hb2⟩;replace bS:=bS.belowAll hb2;replace bR:=bR.belowAll hb2;have B2:=B1.trans (hb2.mono B1.size);clear hb2 B1 cS;have cS:=bS.cells;have lS:=bS.lt;have lR:=bR.lt;go_wp2_with fail
 go_loopw [10,11] (fun v q wr=>∃k:Nat,k≤us.length∧q=.int .i64 k∧wr.ownsRow w2.heap.size 3 1 v (z0r us near k).length ((z0r us near k).map (.int .i64))∧(z0r us near k).length≤many∧Below w2.heap.size w2 wr) (fun _ q _=>us.length - (RowKit.intOf q).toNat)
 case atStart=>exact⟨0,zi9 _,rfl,by rw[z4r];exact World.ownsRow_nil _ _ _ _,by rw[z4r];simp,zho _ _⟩
 case round=>
  obtain⟨k,hk,rfl,hown,hlm,hnx⟩:=hrel;obtain⟨av,cv,rfl⟩:=z0G hown;have bS3:=bS.belowAll hnx;have cS:=bS3.cells;have lS3:=bS3.lt;have B3:=B2.trans (hnx.mono B2.size);have hlk:=z31 us near k;have hsz:=hnx.size;by_cases hlt:k<us.length
  ·by_cases hmm:(z0r us near k).length<many
   ·have hm:(near+k) % us.length<us.length:=Nat.mod_lt _ (by omega)
    have hbd:0≤((near:Int)+(k:Int)) % (us.length:Int)∧((near:Int)+(k:Int)) % (us.length:Int)<(us.length:Int):=⟨Int.emod_nonneg _ (by omega),Int.emod_lt_of_pos _ (by omega)⟩
    obtain⟨b,off,rfl,hb,hc⟩:=(hR.below B3).at_ (k:=(near+k) % us.length) (by simpa using hm)
    rw[List.getElem_map]at hc;cases hu:us[(near+k) % us.length]<;>rw[hu]at hc
    ·have hr:=zhs (z42 (us:=us) (near:=near) (k:=k) (by rw[zhx hm,hu]))
     clear hu;go_wp2_with (at_builtin;refine wpList_append_own _ rfl _ _ 53 rfl w2.heap.size 3 i0 (.int .i64 0) 1 8 underlying53 hi hz0 hz1 hz2 rfl (by decide) _ _ _ rfl (hown.alloc _) ⟨wr.heap.size,0,none⟩ 1 1 [.int .i64 (((near:Int)+(k:Int)) % (us.length:Int))] rfl rfl (cell_one_new _ _ _) (by simp[Value.oneCell']) (by simp only[maxLen];omega) (by omega) (by simp;omega) ?_;intro v' w4 hown' hgrow _;obtain⟨g',cap',rfl,_,_⟩:=z2f hown' (by omega))
     have hnx4:Below w2.heap.size w2 w4:=(hnx.alloc hsz _).grown hgrow (by simp;omega) (fun q hq=>(hown.lt q hq).1)
     go_wp2
     go_roundw
     case rel=>exact⟨k+1,by omega,by go_num,by rw[hr.out];simpa using hown',by rw[hr.out];simp;omega,hnx4⟩
     case measure=>simp[RowKit.intOf];omega
    ·have hr:=zhs (z3t (us:=us) (near:=near) (k:=k) (by rw[zhx hm,hu]))
     clear hu;go_wp2_with fail
     go_roundw
     case rel=>exact⟨k+1,by omega,by go_num,by rw[hr.out];exact hown,by rw[hr.out];exact hlm,hnx⟩
     case measure=>simp[RowKit.intOf];omega
   ·have hal:z0g us near many=z0r us near k:=by
     obtain⟨r,hr⟩:=z6j us near k us.length hk;have:(z0r us near k).length=many:=by omega
     unfold z0g z1Y;rw[←hr,←this];simp
    have hd:decide ((z0r us near k).length<many)=false:=by simp;omega
    have HAL:=zhs hal;have HIN:Hid (∀b∈z0r us near k,0≤b∧b<(us.length:Int)):=zhs (by rw[←hal];exact z3s (by omega))
    clear hal;have hL:(z0r us near k).length≤1000:=by omega
    have HRW:=zhs (hR.below B3);have HRI:=zhs (Reads.of_own hown);go_wp2_with fail
    refine(z81 s j i A av c cv us (z0r us near k) true _ HRW.out (by omega) hus HRI.out hL HIN.out).mono ?_
    rintro e w5 ⟨g,cap,rfl,hown5,hb5⟩;have bR5:=(bR.belowAll hnx).belowAll hb5;have cR:=bR5.cells;have fR:=bR5.free;have lR5:=bR5.lt;have hown6:=z0a hown hb5;have B5:=B3.trans (hb5.mono B3.size);have zz:=B2.size;go_wp2_with fail
    refine bodyPost_ret (v:=.tuple #[.agg #[.int .i64 s,.int .i64 j,.int .i64 i,.slice (some ⟨g,0,none⟩) us.length cap],.slice av (z0r us near k).length cv,.int .i64 0]) (by simp[results,results147,go_sem,cR]) rfl ?_
    refine⟨by (repeat' (first|with_reducible (first|exact zho _ _|assumption|refine zhp ?_ ?_ _|refine zhq ?_|refine z00 ?_ _|refine zhr ?_ ?_ _|exact zhT _)|omega|(simp;done)|(simp;omega))),g,cap,av,cv,by rw[HAL.out],?_,?_⟩
    ·rw[HAL.out];exact z0D (ownsRow_setCell_below (ownsRow_setCell_below (ownsRow_setCell_below (ownsRow_setCell_below hown5 (by simp;omega) _) (by simp;omega) _) (by simp;omega) _) (by simp;omega) _) (by omega)
    ·rw[HAL.out];exact z0D (ownsRow_setCell_below (ownsRow_setCell_below (ownsRow_setCell_below (ownsRow_setCell_below hown6 (by simp;omega) _) (by simp;omega) _) (by simp;omega) _) (by simp;omega) _) (by omega)
  ·obtain rfl:k=us.length:=by omega
   have hal:z0g us near many=z0r us near us.length:=z7n hlm;by_cases hone:True
   ·skip
    have HAL:=zhs hal;have HIN:Hid (∀b∈z0r us near us.length,0≤b∧b<(us.length:Int)):=zhs (by rw[←hal];exact z3s (by omega))
    clear hal;have hL:(z0r us near us.length).length≤1000:=by omega
    have HRW:=zhs (hR.below B3);have HRI:=zhs (Reads.of_own hown);go_wp2_with fail
    refine(z81 s j i A av c cv us (z0r us near us.length) true _ HRW.out (by omega) hus HRI.out hL HIN.out).mono ?_
    rintro e w5 ⟨g,cap,rfl,hown5,hb5⟩;have bR5:=(bR.belowAll hnx).belowAll hb5;have cR:=bR5.cells;have fR:=bR5.free;have lR5:=bR5.lt;have hown6:=z0a hown hb5;have B5:=B3.trans (hb5.mono B3.size);have zz:=B2.size;go_wp2_with fail
    refine bodyPost_ret (v:=.tuple #[.agg #[.int .i64 s,.int .i64 j,.int .i64 i,.slice (some ⟨g,0,none⟩) us.length cap],.slice av (z0r us near us.length).length cv,.int .i64 0]) (by simp[results,results147,go_sem,cR]) rfl ?_
    refine⟨by (repeat' (first|with_reducible (first|exact zho _ _|assumption|refine zhp ?_ ?_ _|refine zhq ?_|refine z00 ?_ _|refine zhr ?_ ?_ _|exact zhT _)|omega|(simp;done)|(simp;omega))),g,cap,av,cv,by rw[HAL.out],?_,?_⟩
    ·rw[HAL.out];exact z0D (ownsRow_setCell_below (ownsRow_setCell_below (ownsRow_setCell_below (ownsRow_setCell_below hown5 (by simp;omega) _) (by simp;omega) _) (by simp;omega) _) (by simp;omega) _) (by omega)
    ·rw[HAL.out];exact z0D (ownsRow_setCell_below (ownsRow_setCell_below (ownsRow_setCell_below (ownsRow_setCell_below hown6 (by simp;omega) _) (by simp;omega) _) (by simp;omega) _) (by simp;omega) _) (by omega)
   ·exact absurd trivial hone
theorem z56 (s j i:Int)(A:Option Addr)(c:Nat)(us:List Bool)(near many:Int)(hus:us.length≤1000)(w:World)(hR:Reads w A (us.map .bool))(E:Int)
  (h:(CkE s j i us.length≠0∧E=CkE s j i us.length)∨(CkE s j i us.length=0∧(near<0∨(us.length:Int) - 1<near∨many<0)∧E=7) ∨
   (CkE s j i us.length=0∧¬(near<0∨(us.length:Int) - 1<near∨many<0)∧(z3e us:Int)<many∧E=11)):
  Calls prog 147 #[.agg #[.int .i64 s,.int .i64 j,.int .i64 i,.slice A us.length c],.int .i64 near,.int .i64 many] w fun e w'=>
   e=.returned (.tuple #[.agg #[.int .i64 s,.int .i64 j,.int .i64 i,.slice A us.length c],.slice none 0 0,.int .i64 E])∧Below w.heap.size w w':=by
 have hnf:=z7I us;rcases h with ⟨hE,rfl⟩|⟨hE,hr,rfl⟩|⟨hE,hr,hfm,rfl⟩
 ·have hE':(CkE s j i us.length != 0)=true:=by simpa using hE
  have hE2:(CkE s j i us.length==0)=false:=by simpa using hE
  have HE:=zhs hE;clear hE;go_enter func147,ntmps147
  go_wp2_with fail
  refine(z1x s j i A us.length c _ (by unfold maxLen;omega)).mono ?_
  rintro e w1 ⟨rfl,hb1⟩;have bS:Blk w1 w.heap.size 47 #[.int .i64 s,.int .i64 j,.int .i64 i,.slice A us.length c]:=Blk.belowAll (by (repeat' (first|(with_reducible assumption)|exact Blk.new' (by simp)|refine Blk.alloc ?_ _))) hb1
  have bR:Blk w1 (w.heap.size+1) 47 #[.int .i64 0,.int .i64 0,.int .i64 0,.slice none 0 0]:=Blk.belowAll (by (repeat' (first|(with_reducible assumption)|exact Blk.new' (by simp)|refine Blk.alloc ?_ _))) hb1
  have B1:Below w.heap.size w w1:=z1W hb1;clear hb1;have cS:=bS.cells;have cR:=bR.cells;have fR:=bR.free;go_wp2_with fail
  refine bodyPost_ret (v:=.tuple #[.agg #[.int .i64 s,.int .i64 j,.int .i64 i,.slice A us.length c],.slice none 0 0,.int .i64 (CkE s j i us.length)]) (by simp[results,results147,go_sem,cR]) rfl ?_
  exact⟨rfl,by (repeat' (first|with_reducible (first|exact zho _ _|assumption|refine zhp ?_ ?_ _|refine zhq ?_|refine z00 ?_ _|refine zhr ?_ ?_ _|exact zhT _)|omega|(simp;done)|(simp;omega)))⟩
 ·have hE':(CkE s j i us.length != 0)=false:=by simpa using hE
  have hE2:(CkE s j i us.length==0)=true:=by simpa using hE
  have HE:=zhs hE;clear hE;by_cases hnr:near<0∨(us.length:Int) - 1<near
  all_goals
   first|have hO:=z2g hnr|have hO:=z2e hnr
   have hm0:¬(near<0∨(us.length:Int) - 1<near)→decide (many<0)=true:=fun h'=>by simp;omega
   first|(have hm1:=hm0 hnr;clear hm0)|clear hm0
   go_enter func147,ntmps147
   go_wp2_with fail
   refine(z1x s j i A us.length c _ (by unfold maxLen;omega)).mono ?_
   rintro e w1 ⟨rfl,hb1⟩;have bS:Blk w1 w.heap.size 47 #[.int .i64 s,.int .i64 j,.int .i64 i,.slice A us.length c]:=Blk.belowAll (by (repeat' (first|(with_reducible assumption)|exact Blk.new' (by simp)|refine Blk.alloc ?_ _))) hb1
   have bR:Blk w1 (w.heap.size+1) 47 #[.int .i64 0,.int .i64 0,.int .i64 0,.slice none 0 0]:=Blk.belowAll (by (repeat' (first|(with_reducible assumption)|exact Blk.new' (by simp)|refine Blk.alloc ?_ _))) hb1
   have B1:Below w.heap.size w w1:=z1W hb1;clear hb1;have cS:=bS.cells;have cR:=bR.cells;have fR:=bR.free;go_wp2_with (go_at_call 178;refine(z1D _ _ _ _).mono ?_;rintro e w' ⟨rfl,rfl⟩);refine bodyPost_ret (v:=.tuple #[.agg #[.int .i64 s,.int .i64 j,.int .i64 i,.slice A us.length c],.slice none 0 0,.int .i64 7]) (by simp[results,results147,go_sem,cR]) rfl ?_
   exact⟨rfl,by (repeat' (first|with_reducible (first|exact zho _ _|assumption|refine zhp ?_ ?_ _|refine zhq ?_|refine z00 ?_ _|refine zhr ?_ ?_ _|exact zhT _)|omega|(simp;done)|(simp;omega)))⟩
 ·have hE':(CkE s j i us.length != 0)=false:=by simpa using hE
  have hE2:(CkE s j i us.length==0)=true:=by simpa using hE
  have HE:=zhs hE;clear hE;have hO:=z2e (n:=near) (lo:=0) (hi:=(us.length:Int) - 1) (by omega)
  have hm1:decide (many<0)=false:=by simp;omega
  have hfd:decide ((z3e us:Int)<many)=true:=by simpa using hfm
  go_enter func147,ntmps147
  go_wp2_with fail
  refine(z1x s j i A us.length c _ (by unfold maxLen;omega)).mono ?_
  rintro e w1 ⟨rfl,hb1⟩;have bS:Blk w1 w.heap.size 47 #[.int .i64 s,.int .i64 j,.int .i64 i,.slice A us.length c]:=Blk.belowAll (by (repeat' (first|(with_reducible assumption)|exact Blk.new' (by simp)|refine Blk.alloc ?_ _))) hb1
  have bR:Blk w1 (w.heap.size+1) 47 #[.int .i64 0,.int .i64 0,.int .i64 0,.slice none 0 0]:=Blk.belowAll (by (repeat' (first|(with_reducible assumption)|exact Blk.new' (by simp)|refine Blk.alloc ?_ _))) hb1
  have B1:Below w.heap.size w w1:=z1W hb1;clear hb1;have cS:=bS.cells;go_wp2_with (go_at_call 178;refine(z1D _ _ _ _).mono ?_;rintro e w' ⟨rfl,rfl⟩);refine(z6x s j i A c us _ (hR.below B1) hus).mono ?_;rintro e w2 ⟨rfl,hb2⟩;replace bS:=bS.belowAll hb2;replace bR:=bR.belowAll hb2;have B2:=B1.trans (hb2.mono B1.size);clear hb2 B1 cS;have cS:=bS.cells;have cR:=bR.cells;have fR:=bR.free;go_wp2_with fail;refine bodyPost_ret (v:=.tuple #[.agg #[.int .i64 s,.int .i64 j,.int .i64 i,.slice A us.length c],.slice none 0 0,.int .i64 11]) (by simp[results,results147,go_sem,cR]) rfl ?_
  exact⟨rfl,by (repeat' (first|with_reducible (first|exact zho _ _|assumption|refine zhp ?_ ?_ _|refine zhq ?_|refine z00 ?_ _|refine zhr ?_ ?_ _|exact zhT _)|omega|(simp;done)|(simp;omega)))⟩
theorem zbz (s j i:Int)(A:Option Addr)(c:Nat)(us:List Bool)(near many:Int)(w:World)(hn:us.length≤1000)(hR:Reads w A (us.map .bool)):
  Calls prog 147 #[.agg #[.int .i64 s,.int .i64 j,.int .i64 i,.slice A us.length c],.int .i64 near,.int .i64 many] w (zdd s j i A c us near many w):=by
 by_cases hE:CkE s j i us.length=0
 ·by_cases hr:near<0∨(us.length:Int) - 1<near∨many<0
  ·have h7:AlE s j i us near many=7:=by simp only[AlE,if_pos hE,if_pos hr]
   exact(z56 s j i A c us near many hn w hR 7 (.inr (.inl ⟨hE,hr,rfl⟩))).mono fun e w' ⟨he,hb⟩=>⟨hb,.inl ⟨by omega,by rw[he,h7]⟩⟩
  ·obtain⟨nr,rfl⟩:=Int.eq_ofNat_of_zero_le (show 0≤near by omega)
   obtain⟨mn,rfl⟩:=Int.eq_ofNat_of_zero_le (show 0≤many by omega)
   have hfl:=z6O (us:=us) (near:=nr) (by omega)
   by_cases hf:z3e us<mn
   ·have h11:AlE s j i us nr mn=11:=by
     simp only[AlE,if_pos hE,if_neg hr];rw[if_pos (by rw[zhU,zhU,hfl];exact hf)]
    exact(z56 s j i A c us nr mn hn w hR 11 (.inr (.inr ⟨hE,hr,by omega,rfl⟩))).mono fun e w' ⟨he,hb⟩=>⟨hb,.inl ⟨by omega,by rw[he,h11]⟩⟩
   ·have h00:AlE s j i us nr mn=0:=by
     simp only[AlE,if_pos hE,if_neg hr];rw[if_neg (by rw[zhU,zhU,hfl];exact hf)]
    refine(zdZ s j i A c nr mn us (by omega) hn w hR hE (by omega)).mono fun e w' ⟨hb,g,cap,av,cv,he,h1,h2⟩=>⟨hb,.inr ⟨h00,g,cap,av,cv,?_,?_,?_⟩⟩
    ·simpa using he
    ·simpa using h1
    ·simpa using h2
 ·have hx:AlE s j i us near many=CkE s j i us.length:=by simp only[AlE,if_neg hE]
  exact(z56 s j i A c us near many hn w hR _ (.inl ⟨hE,rfl⟩)).mono fun e w' ⟨he,hb⟩=>⟨hb,.inl ⟨by omega,by rw[he,hx]⟩⟩
end Go.Proofs.YtejmknghkbobnaaGreatDoor
