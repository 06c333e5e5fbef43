import Derived.Test.YtejmknghkbobnaaGreatDoorPart00
import Derived.Test.YtejmknghkbobnaaGreatDoorPart43
import Derived.Test.YtejmknghkbobnaaGreatDoorPart23
import Derived.Test.YtejmknghkbobnaaGreatDoorPart01
import Derived.Test.YtejmknghkbobnaaGreatDoorProg
import Derived.ProofKit
import Derived.Deep.Slices
import Derived.Test.YtejmknghkbobnaaGreatDoorPart07
import Derived.Test.YtejmknghkbobnaaGreatDoorPart24
set_option linter.unusedVariables false
set_option linter.unusedSimpArgs false
set_option maxRecDepth 100000
set_option maxHeartbeats 8000000
namespace Go.Proofs.YtejmknghkbobnaaGreatDoor
open Go.Proofs.Tryz
open Go.RowKit Go.Maps
theorem zcp {n:Nat}{s j i:Int}(h:z0R n s j i=0)(hr:rgE s j i=0)(hn:n≠0):(n:Int)=s:=by
 have h9:¬(n:Int)=0:=by omega
 unfold z0R at h;simp[hr,h9]at h
 omega
theorem zce {w:World}{P:Nat→Prop}{x:DevS}{sv:Array Value}(hq:RSv w P x sv)(hcalm:x.Calm)(hP:∀b,w.heap.size≤b→P b)(s j i:Int):
  Calls prog 9 #[.agg sv,.agg #[.int .i64 s,.int .i64 j,.int .i64 i]] w (RGv w P (x.tfmt s j i)):=by
 obtain⟨w0,hw0⟩:∃w0,w0=((w.alloc (.cells sv 34)).alloc (.cells #[.int .i64 s,.int .i64 j,.int .i64 i] 23)).alloc (.cells svZ 34):=⟨_,rfl⟩;have bD:Blk w0 w.heap.size 34 sv:=by rw[hw0];exact((Blk.new _ _ _).alloc _).alloc _
 have bL:Blk w0 (w.heap.size+1) 23 #[.int .i64 s,.int .i64 j,.int .i64 i]:=by rw[hw0];exact(Blk.new' (by simp)).alloc _
 have bR:Blk w0 (w.heap.size+1+1) 34 svZ:=by rw[hw0];exact Blk.new' (by simp)
 have B0:Below w.heap.size w w0:=by rw[hw0];(repeat' (first|with_reducible (first|exact zho _ _|assumption|refine zhp ?_ ?_ _|refine zhq ?_|refine z00 ?_ _|refine zhr ?_ ?_ _|exact zhT _)|omega|(simp;done)|(simp;omega)))
 have hQ0:=hq.apt B0 w0.heap.size;have HN:=zhs (Apt_.new hP B0.size);have hsz:=hq.size;have hone:=hq.one;have zR:=zhs bR.lt;have hft:=zgW hQ0 s j i;have l0:=z0z bD hsz;have HF:Hid (x.tfmt s j i=if z0R x.stable.length s j i≠0 then (z0R x.stable.length s j i,x)else if (x.jfmt 1 j).1≠0 then x.jfmt 1 j else (x.jfmt 1 j).2.commit 1 j [z0L s j i]):=zhs rfl
 have cL:=bL.cells;have lL:=bL.lt;clear hq hP;unfold svZ at hw0;go_enter func9,ntmps9
 go_upto_region 1 with fail
 rw[←hw0];clear hw0;go_wp2_with (refine z02 (by rfl) _ _ rfl (.agg sv) (.pointer (some ⟨w.heap.size,0,none⟩)) rfl l0 ?_)
 refine hft.mono ?_;rintro e w1 ⟨hb1,rfl⟩;obtain⟨a1,a2,a3,a4,a5,hv⟩:∃a1 a2 a3 a4 a5:Int,rgV s j i=.agg #[.int .i64 a1,.int .i64 a2,.int .i64 a3,.int .i64 a4,.int .i64 a5]:=⟨_,_,_,_,_,rfl⟩;have HV:=zhs hv;rw[hv];clear hv hft l0 cL lL;obtain⟨w2,hw2⟩:∃w2,w2=w1.alloc (.cells #[.int .i64 a1,.int .i64 a2,.int .i64 a3,.int .i64 a4,.int .i64 a5] 44):=⟨_,rfl⟩;have bG:Blk w2 w1.heap.size 44 #[.int .i64 a1,.int .i64 a2,.int .i64 a3,.int .i64 a4,.int .i64 a5]:=by rw[hw2];exact Blk.new _ _ _
 have hb2:Below w0.heap.size w0 w2:=by rw[hw2];exact hb1.alloc hb1.size _
 go_upto_region 2 with fail
 rw[←hw2];clear hw2;have bD2:=bD.belowAll hb2;have bL2:=bL.belowAll hb2;have bR2:=bR.belowAll hb2;have B2:=B0.trans (hb2.mono B0.size);have hQ2:=hQ0.below hb2;have HZ2:=zhs hb2.size;clear bD bL bR B0 hQ0;by_cases hE:z0R x.stable.length s j i=0
 rotate_left
 ·as_aux_lemma=>
  have HH:Hid (x.tfmt s j i=(z0R x.stable.length s j i,x)):=zhs (by rw[HF.out,if_pos hE])
  clear HF;generalize z0R x.stable.length s j i=E at *;have hE':(E != 0)=true:=by simpa using hE
  have l1:=z0z bD2 hsz;have hst:=z0l bR2 rfl hsz hone;have bR3:=bR2.setRow (cs':=sv);have hfin:=RGv.mk (R:=w.heap.size+1+1) E hQ2 B2 (by omega) zR.out
  clear hE;go_wp2_with (first|(refine z02 (by rfl) _ _ rfl (.agg sv) (.pointer (some ⟨w.heap.size,0,none⟩)) rfl l1 ?_)|(refine z01 rfl _ _ _ rfl _ _ rfl rfl hst ?_))
  refine bodyPost_ret (z08 (cs:=sv) rfl rfl rfl bR3 underlying34 (by rw[hsz];kernel_rfl)) rfl ?_
  rw[HH.out];exact hfin
 have HF1:Hid (x.tfmt s j i=if (x.jfmt 1 j).1≠0 then x.jfmt 1 j else (x.jfmt 1 j).2.commit 1 j [z0L s j i]):=zhs (by rw[HF.out,if_neg (by rw[hE];simp)])
 have hrg:rgE s j i=0:=by
  unfold z0R at hE;split at hE
  ·rename_i h;exact absurd hE h
  ·rename_i h;simpa using h
 have hjr:=fun W=>z2J s j i W
 rw[show rgJ s j i=1 by unfold rgJ;rw[if_pos hrg]]at hjr
 have HFE:=zhs hE;rw[hE];clear HF;have hS1:∀W,Below w2.heap.size w2 W→Blk W w.heap.size 34 sv∧W.cell? ⟨w.heap.size+1,0,none⟩=some (.int .i64 s)∧W.cell? ⟨w.heap.size+1,1,none⟩=some (.int .i64 j)∧W.cell? ⟨w.heap.size+1,2,none⟩=some (.int .i64 i):=fun W hW=>by
  have b:=(bL2.belowAll hW).cells;exact⟨bD2.belowAll hW,(b 0).trans rfl,(b 1).trans rfl,(b 2).trans rfl⟩
 go_upto_region 4 with fail
 refine z13 (Us.takes [0,1] (.one 2 (.one 3 (Us.pures [4,5,6] (.late 7 (.late 8 .done)))))) 7 (fun W=>Blk W w.heap.size 34 sv∧W.cell? ⟨w.heap.size+1,0,none⟩=some (.int .i64 s)∧W.cell? ⟨w.heap.size+1,1,none⟩=some (.int .i64 j)∧W.cell? ⟨w.heap.size+1,2,none⟩=some (.int .i64 i)) (by kernel_rfl) (by kernel_rfl) (fun _ _ _ _ _ h=>h) (hS1 _ (zho _ _).drew) ?_
 simp only[Us.takes,Us.pures,Us.fill,zhy,zhz];refine z0K (by rfl) (.agg sv) (fun w' hw'=>z0w 34 _ rfl rfl (z0z hw'.1 hsz)) ?_
 (try simp only[Act.put,zht,zhu,zhv])
 iterate 1 (refine z0K (by rfl) ?_ (fun w' hw'=>?_) ?_;rotate_left;(focus (go_simp;(try with_reducible rfl)));(try simp only[Act.put,zht,zhu,zhv]))
 refine z1b fun K hK=>?_
 go_simp;refine(hjr w2.drew).mono ?_;rintro e w4 ⟨rfl,hb4⟩;have hb4':Below w2.heap.size w2 w4:=(zho _ _).drew.trans hb4;refine hK _ _ (hS1 _ hb4') ?_;clear hK K;have hfm:=zfn (hQ2.below hb4') (fun b hb=>HN.out b (zhS HZ2.out (zhS hb4'.size hb))) 1 j
 have hsnd:=(z7y (Z:=j) (F:=1) (n:=x.stable.length) ⟨hQ2.ok,rfl⟩ hcalm (by have:=zcp hE hrg (by have:=hQ2.ok.lo;omega);have:=z10 hrg;omega))
 obtain⟨r,hr⟩:∃r,x.jfmt 1 j=r:=⟨_,rfl⟩;rw[hr]at hfm HF1 hsnd;have HR:=zhs hr;clear hr;refine z1b fun K hK=>?_
 go_simp;refine hfm.mono ?_;rintro e w5 ⟨sv5,rfl,hq5,hb5⟩;have hb5':Below w2.heap.size w2 w5:=hb4'.trans (hb5.mono hb4'.size);refine hK _ _ (hS1 _ hb5') ?_;clear hK K hfm;iterate 3 (refine z1s (by rfl) ?_ (fun w' hw'=>?_) ?_;rotate_left;(focus (go_simp;(try with_reducible rfl)));(try simp only[Act.put,zht,zhu,zhv]))
 have hsz5:=hq5.size;have bD5:=bD2.belowAll hb5';have bL5:=bL2.belowAll hb5';have bR5:=bR2.belowAll hb5';have hT:w.heap.size<w0.heap.size:=by have:=zR.out;omega
 have hst:=z0l bD5 hsz hsz5 hq5.one;have hQ6:=hq5.row (g:=w.heap.size) (Apt_.ne (zhT _) hT) sv5;have bD6:=bD5.setRow (cs':=sv5);have bL6:=bL5.rowFar (cs':=sv5) (show w.heap.size+1≠w.heap.size by omega)
 have bR6:=bR5.rowFar (cs':=sv5) (show w.heap.size+1+1≠w.heap.size by omega)
 have bG6:=(bG.belowAll hb5').rowFar (cs':=sv5) (show w1.heap.size≠w.heap.size by have:=hb1.size;omega)
 have B6:=Below.setRow (B2.trans (hb5'.mono B2.size)) (zhT _) sv5;refine z0H fun K hK=>?_
 refine z0h _ _ _ rfl _ _ rfl rfl hst ?_;refine hK _ _ ?_;clear hK K hst;(try simp only[Act.put,zht,zhu,zhv])
 have HZ6:Hid (w0.heap.size≤(w5.setRow w.heap.size sv5).heap.size):=zhs (by have h1:=hb5'.size;have h2:=HZ2.out;simp;omega)
 generalize w5.setRow w.heap.size sv5=W6 at *;refine z0H fun K hK=>?_
 go_simp;refine hK _ _ ?_;clear hK K;refine z1G ?_;clear hS1 bD2 bL2 bR2 B2 hQ2 bD5 bL5 bR5;by_cases hE1:r.1=0
 rotate_left
 ·as_aux_lemma=>
  have HH:Hid (x.tfmt s j i=r):=zhs (by rw[HF1.out,if_pos hE1])
  clear HF1;obtain⟨E,z⟩:=r;simp only at hE1 hQ6 HH
  have hE':(E != 0)=true:=by simpa using hE1
  have l1:=z0z bD6 hsz5;have hst:=z0l bR6 rfl hsz5 hQ6.one;have bR7:=bR6.setRow (cs':=sv5);have hfin:=RGv.mk (R:=w.heap.size+1+1) E hQ6 B6 (by omega) zR.out
  clear hE1;go_wp2_with (first|(refine z02 (by rfl) _ _ rfl (.agg sv5) (.pointer (some ⟨w.heap.size,0,none⟩)) rfl l1 ?_)|(refine z01 rfl _ _ _ rfl _ _ rfl rfl hst ?_))
  refine bodyPost_ret (z08 (cs:=sv5) rfl rfl rfl bR7 underlying34 (by rw[hsz5];kernel_rfl)) rfl ?_
  rw[HH.out];exact hfin
 have HF2:Hid (x.tfmt s j i=r.2.commit 1 j [z0L s j i]):=zhs (by rw[HF1.out,if_neg (by rw[hE1];simp)])
 rw[hE1];clear HF1 hE1;obtain⟨E0,z⟩:=r;simp only at hQ6 HF2 hsnd
 have cL:=bL6.cells;have lL:=bL6.lt;have hnw:=zb2 s j i W6;go_upto_region 7 with fail
 go_wp2_with fail
 refine hnw.mono ?_;rintro e w7 ⟨hb7,hn7⟩;obtain⟨-,g,rfl,hg7,hb⟩:=hn7.resolve_left (fun h=>h.1 hrg)
 go_upto_region 8 with fail
 obtain⟨us,hus⟩:∃us,us=List.replicate (rgB s j i).toNat false:=⟨_,rfl⟩;have hul:us.length=(rgB s j i).toNat:=by rw[hus,zhG]
 have hul2:us.length≤1000:=by rw[hul];unfold rgB;have:=z10 hrg;rw[if_pos hrg];omega
 have HFR:Hid (z0L s j i=⟨1+j,5,strOfNums (encL us us.length)⟩):=zhs (by rw[hus];rfl)
 have hck:CkE s j i us.length=0:=by rw[hul];exact z7M hrg
 have hb':Blk w7 g 4 (us.map Value.bool).toArray:=by
  have e:(us.map Value.bool).toArray=fill (.bool false) (rgB s j i).toNat:=by
   rw[hus];rw[List.map_replicate];simp only[List.map_replicate,fill,madeCells];apply Array.ext
   ·simp
   ·intro k _ _;simp[Nat.mod_one]
  rw[e];exact hb
 have hR7:Reads w7 (some ⟨g,0,none⟩) (us.map Value.bool):=.inr ⟨g,0,rfl,hb'.lt,fun k u hu=>by rw[zi8];exact(hb'.cells k).trans (by simpa using hu)⟩
 rw[←hul];obtain⟨w8,hw8⟩:∃w8,w8=w7.alloc (.cells #[.int .i64 s,.int .i64 j,.int .i64 i,.slice (some ⟨g,0,none⟩) us.length us.length] 47):=⟨_,rfl⟩;have b78:Below w7.heap.size w7 w8:=by rw[hw8];exact(zho _ _).alloc (zhT _) _
 have bK:Blk w8 w7.heap.size 47 #[.int .i64 s,.int .i64 j,.int .i64 i,.slice (some ⟨g,0,none⟩) us.length us.length]:=by rw[hw8];exact Blk.new _ _ _
 have hen:=z6a s j i (some ⟨g,0,none⟩) us.length us hul2 w8 (hR7.below b78);have l8:=z3S bK rfl;rw[←hw8];clear hw8 hus hul hb' hb hnw cL lL;go_wp2_with (refine z02 (by rfl) _ _ rfl (.agg #[.int .i64 s,.int .i64 j,.int .i64 i,.slice (some ⟨g,0,none⟩) us.length us.length]) (.pointer (some ⟨w7.heap.size,0,none⟩)) rfl l8 ?_)
 refine hen.mono ?_;rintro e w9 ⟨hb9,he9⟩;obtain⟨-,g9,rfl,hg9,hR9⟩:=he9.resolve_left (fun h=>h.1 hck)
 have ha2:a2=1+j:=by
  have h:=HV.out;unfold rgV rgM at h;rw[if_pos hrg]at h;simp only[Value.agg.injEq]at h;have h2:=congrArg (fun a:Array Value=>a[1]?) h
  simp at h2
  omega
 have hb69:Below W6.heap.size W6 w9:=hb7.trans ((b78.trans (hb9.mono b78.size)).mono hb7.size);have bD9:=bD6.belowAll hb69;have bL9:=bL6.belowAll hb69;have bR9:=bR6.belowAll hb69;have bG9:=bG6.belowAll hb69;have B9:=B6.trans (hb69.mono B6.size);have hQ9:=hQ6.below hb69;have HZ9:=zhs (zhS HZ6.out hb69.size);subst ha2;have HR9:=zhs hR9;have hcv:=fun (W:World) (hW:Below w9.heap.size w9 W)=>z1T (some ⟨g9,0,none⟩) 96 96 (encL us us.length) (z1p _ _) W (HR9.out.below hW)
 generalize strOfNums (encL us us.length)=ms at *;clear bD6 bL6 bR6 bG6 B6 hQ6 hb9 hR9 hb7 b78;go_upto_region 9 with fail
 have hS1:∀W,Below w9.heap.size w9 W→Blk W w.heap.size 34 sv5∧W.cell? ⟨w.heap.size+1,0,none⟩=some (.int .i64 s)∧W.cell? ⟨w.heap.size+1,1,none⟩=some (.int .i64 j)∧W.cell? ⟨w.heap.size+1,2,none⟩=some (.int .i64 i)∧W.cell? ⟨w1.heap.size,1,none⟩=some (.int .i64 (1+j)):=fun W hW=>by
  have b:=(bL9.belowAll hW).cells;exact⟨bD9.belowAll hW,(b 0).trans rfl,(b 1).trans rfl,(b 2).trans rfl,((bG9.belowAll hW).cells 1).trans rfl⟩
 refine z13 (Us.takes [0,1,3,4,5] (.fork 2 6 (.one 6 (Us.pures [7] (.one 8 (.one 9 (Us.pures [10,11] (.late 12 (.late 13 .done))))))) (Us.pures [7] (.fork 2 8 (.one 8 (.one 9 (Us.pures [10,11] (.late 12 (.late 13 .done))))) (.one 2 (.one 9 (Us.pures [10,11] (.late 12 (.late 13 .done))))))))) 12 (fun W=>Blk W w.heap.size 34 sv5∧W.cell? ⟨w.heap.size+1,0,none⟩=some (.int .i64 s)∧W.cell? ⟨w.heap.size+1,1,none⟩=some (.int .i64 j)∧W.cell? ⟨w.heap.size+1,2,none⟩=some (.int .i64 i)∧W.cell? ⟨w1.heap.size,1,none⟩=some (.int .i64 (1+j))) (by kernel_rfl) (by kernel_rfl) (fun _ _ _ _ _ h=>h) (hS1 _ (zho _ _).drew) ?_
 simp only[Us.takes,Us.pures,Us.fill,zhy,zhz];refine z0K (by rfl) (.agg sv5) (fun w' hw'=>z0w 34 _ rfl rfl (z0z hw'.1 hsz5)) ?_
 (try simp only[Act.put,zht,zhu,zhv])
 iterate 4 (refine z0K (by rfl) ?_ (fun w' hw'=>?_) ?_;rotate_left;(focus (go_simp;(try with_reducible rfl)));(try simp only[Act.put,zht,zhu,zhv]))
 have hX:Below w9.heap.size w9 w9.drew:=(zho _ _).drew;refine z3X (fun K hK=>?_) (fun K hK=>?_)
 ·go_simp;refine(hjr w9.drew).mono ?_;rintro e w10 ⟨rfl,hb10⟩;have hb10':Below w9.heap.size w9 w10:=hX.trans hb10;refine hK _ _ (hS1 _ hb10') ?_;clear hK K;have hc:=hcv w10 hb10';refine z1b fun K hK=>?_
  go_simp;refine hK _ _ (hS1 _ hb10') ?_;clear hK K hc;iterate 1 (refine z1s (by rfl) ?_ (fun w' hw'=>?_) ?_;rotate_left;(focus (go_simp;(try with_reducible rfl)));(try simp only[Act.put,zht,zhu,zhv]))
  obtain⟨w11,hw11⟩:∃w11,w11=w10.alloc (.cells #[.int .i64 (1+j),.int .i64 5,.string ms] 118):=⟨_,rfl⟩;have hb11:Below w9.heap.size w9 w11:=by rw[hw11];exact hb10'.alloc hb10'.size _
  have hrun:RunAt w11 (some ⟨w10.heap.size,0,none⟩) [z0L s j i]:=by
   have h:=z4f w10 ⟨1+j,5,ms⟩;rw[HFR.out,hw11];show Reads _ _ (List.flatMap recV [(⟨1+j,5,ms⟩:Rec)])
   rw[zhN,List.flatMap_nil,zi5];exact h
  refine z1b fun K hK=>?_
  go_simp;rw[←hw11];refine hK _ _ (hS1 _ hb11) ?_;clear hK K hw11;have hok:z37 [z0L s j i]:=⟨by simp,fun r hr=>by
   have e:r=z0L s j i:=by simpa using hr
   have hbd:=z10 hrg;rw[e];exact⟨⟨by show _≤1+j;omega,by show 1+j≤_;omega⟩,by show (mapS _).size≤maxLen;rw[z20];decide⟩⟩
  have hcm:=z5x (hQ9.below hb11) hsnd.2 (fun b hb=>HN.out b (zhS HZ9.out (zhS hb11.size hb))) 1 j (some ⟨w10.heap.size,0,none⟩) 1 [z0L s j i] (by simp) hok hrun
  obtain⟨r,hr⟩:∃r,z.commit 1 j [z0L s j i]=r:=⟨_,rfl⟩;rw[hr]at hcm HF2;simp only[zhO,zhP,zi8]at hcm;refine z1b fun K hK=>?_
  go_simp;refine hcm.mono ?_;rintro e w12 ⟨sv12,rfl,hq12,hb12⟩;have hb12':Below w9.heap.size w9 w12:=hb11.trans (hb12.mono hb11.size);refine hK _ _ (hS1 _ hb12') ?_;clear hK K hcm;iterate 2 (refine z1s (by rfl) ?_ (fun w' hw'=>?_) ?_;rotate_left;(focus (go_simp;(try with_reducible rfl)));(try simp only[Act.put,zht,zhu,zhv]))
  have hsz12:=hq12.size;have hst:=z0l (bR9.belowAll hb12') rfl hsz12 hq12.one;have bR13:=(bR9.belowAll hb12').setRow (cs':=sv12);obtain⟨E1,z1⟩:=r;have hfin:=RGv.mk (R:=w.heap.size+1+1) E1 hq12 (B9.trans (hb12'.mono B9.size)) (by omega) zR.out
  refine z0H fun K hK=>?_
  refine z0h _ _ _ rfl _ _ rfl rfl hst ?_;refine hK _ _ ?_;clear hK K hst;(try simp only[Act.put,zht,zhu,zhv])
  refine z0H fun K hK=>?_
  go_simp;refine hK _ _ ?_;clear hK K;refine z1G ?_;clear hS1;go_wp2_with fail
  refine bodyPost_ret (z08 (cs:=sv12) rfl rfl rfl bR13 underlying34 (by rw[hsz12];kernel_rfl)) rfl ?_
  rw[HF2.out];exact hfin
 ·have hc:=hcv w9.drew hX;generalize w9.drew=X at hX hc ⊢;go_simp;refine hK _ _ (hS1 _ hX) ?_;clear hK K hc;iterate 1 (refine z1s (by rfl) ?_ (fun w' hw'=>?_) ?_;rotate_left;(focus (go_simp;(try with_reducible rfl)));(try simp only[Act.put,zht,zhu,zhv]))
  refine z3X (fun K hK=>?_) (fun K hK=>?_)
  ·go_simp;refine(hjr X).mono ?_;rintro e w10 ⟨rfl,hb10⟩;have hb10':Below w9.heap.size w9 w10:=hX.trans (hb10.mono hX.size);refine hK _ _ (hS1 _ hb10') ?_;clear hK K;obtain⟨w11,hw11⟩:∃w11,w11=w10.alloc (.cells #[.int .i64 (1+j),.int .i64 5,.string ms] 118):=⟨_,rfl⟩;have hb11:Below w9.heap.size w9 w11:=by rw[hw11];exact hb10'.alloc hb10'.size _
   have hrun:RunAt w11 (some ⟨w10.heap.size,0,none⟩) [z0L s j i]:=by
    have h:=z4f w10 ⟨1+j,5,ms⟩;rw[HFR.out,hw11];show Reads _ _ (List.flatMap recV [(⟨1+j,5,ms⟩:Rec)])
    rw[zhN,List.flatMap_nil,zi5];exact h
   refine z1b fun K hK=>?_
   go_simp;rw[←hw11];refine hK _ _ (hS1 _ hb11) ?_;clear hK K hw11;have hok:z37 [z0L s j i]:=⟨by simp,fun r hr=>by
    have e:r=z0L s j i:=by simpa using hr
    have hbd:=z10 hrg;rw[e];exact⟨⟨by show _≤1+j;omega,by show 1+j≤_;omega⟩,by show (mapS _).size≤maxLen;rw[z20];decide⟩⟩
   have hcm:=z5x (hQ9.below hb11) hsnd.2 (fun b hb=>HN.out b (zhS HZ9.out (zhS hb11.size hb))) 1 j (some ⟨w10.heap.size,0,none⟩) 1 [z0L s j i] (by simp) hok hrun
   obtain⟨r,hr⟩:∃r,z.commit 1 j [z0L s j i]=r:=⟨_,rfl⟩;rw[hr]at hcm HF2;simp only[zhO,zhP,zi8]at hcm;refine z1b fun K hK=>?_
   go_simp;refine hcm.mono ?_;rintro e w12 ⟨sv12,rfl,hq12,hb12⟩;have hb12':Below w9.heap.size w9 w12:=hb11.trans (hb12.mono hb11.size);refine hK _ _ (hS1 _ hb12') ?_;clear hK K hcm;iterate 2 (refine z1s (by rfl) ?_ (fun w' hw'=>?_) ?_;rotate_left;(focus (go_simp;(try with_reducible rfl)));(try simp only[Act.put,zht,zhu,zhv]))
   have hsz12:=hq12.size;have hst:=z0l (bR9.belowAll hb12') rfl hsz12 hq12.one;have bR13:=(bR9.belowAll hb12').setRow (cs':=sv12);obtain⟨E1,z1⟩:=r;have hfin:=RGv.mk (R:=w.heap.size+1+1) E1 hq12 (B9.trans (hb12'.mono B9.size)) (by omega) zR.out
   refine z0H fun K hK=>?_
   refine z0h _ _ _ rfl _ _ rfl rfl hst ?_;refine hK _ _ ?_;clear hK K hst;(try simp only[Act.put,zht,zhu,zhv])
   refine z0H fun K hK=>?_
   go_simp;refine hK _ _ ?_;clear hK K;refine z1G ?_;clear hS1;go_wp2_with fail
   refine bodyPost_ret (z08 (cs:=sv12) rfl rfl rfl bR13 underlying34 (by rw[hsz12];kernel_rfl)) rfl ?_
   rw[HF2.out];exact hfin
  ·obtain⟨w10,hw10⟩:∃w10,w10=X:=⟨_,rfl⟩;obtain⟨wA,hwA⟩:∃wA,wA=X.alloc (.cells #[.int .i64 (1+j),.int .i64 5,.string ms] 118):=⟨_,rfl⟩;have hbA:Below w9.heap.size w9 wA:=by rw[hwA];exact hX.alloc hX.size _
   have hrunA:RunAt wA (some ⟨X.heap.size,0,none⟩) [z0L s j i]:=by
    have h:=z4f X ⟨1+j,5,ms⟩;rw[HFR.out,hwA];show Reads _ _ (List.flatMap recV [(⟨1+j,5,ms⟩:Rec)])
    rw[zhN,List.flatMap_nil,zi5];exact h
   clear hw10;go_simp;rw[←hwA];refine hK _ _ (hS1 _ hbA) ?_;clear hK K hwA;refine z1b fun K hK=>?_
   go_simp;refine(hjr wA).mono ?_;rintro e w11 ⟨rfl,hb10⟩;have hb11:Below w9.heap.size w9 w11:=hbA.trans (hb10.mono hbA.size);have hrun:=Reads.below hrunA hb10;refine hK _ _ (hS1 _ hb11) ?_;clear hK K;have hok:z37 [z0L s j i]:=⟨by simp,fun r hr=>by
    have e:r=z0L s j i:=by simpa using hr
    have hbd:=z10 hrg;rw[e];exact⟨⟨by show _≤1+j;omega,by show 1+j≤_;omega⟩,by show (mapS _).size≤maxLen;rw[z20];decide⟩⟩
   have hcm:=z5x (hQ9.below hb11) hsnd.2 (fun b hb=>HN.out b (zhS HZ9.out (zhS hb11.size hb))) 1 j (some ⟨X.heap.size,0,none⟩) 1 [z0L s j i] (by simp) hok hrun
   obtain⟨r,hr⟩:∃r,z.commit 1 j [z0L s j i]=r:=⟨_,rfl⟩;rw[hr]at hcm HF2;simp only[zhO,zhP,zi8]at hcm;refine z1b fun K hK=>?_
   go_simp;refine hcm.mono ?_;rintro e w12 ⟨sv12,rfl,hq12,hb12⟩;have hb12':Below w9.heap.size w9 w12:=hb11.trans (hb12.mono hb11.size);refine hK _ _ (hS1 _ hb12') ?_;clear hK K hcm;iterate 2 (refine z1s (by rfl) ?_ (fun w' hw'=>?_) ?_;rotate_left;(focus (go_simp;(try with_reducible rfl)));(try simp only[Act.put,zht,zhu,zhv]))
   have hsz12:=hq12.size;have hst:=z0l (bR9.belowAll hb12') rfl hsz12 hq12.one;have bR13:=(bR9.belowAll hb12').setRow (cs':=sv12);obtain⟨E1,z1⟩:=r;have hfin:=RGv.mk (R:=w.heap.size+1+1) E1 hq12 (B9.trans (hb12'.mono B9.size)) (by omega) zR.out
   refine z0H fun K hK=>?_
   refine z0h _ _ _ rfl _ _ rfl rfl hst ?_;refine hK _ _ ?_;clear hK K hst;(try simp only[Act.put,zht,zhu,zhv])
   refine z0H fun K hK=>?_
   go_simp;refine hK _ _ ?_;clear hK K;refine z1G ?_;clear hS1;go_wp2_with fail
   refine bodyPost_ret (z08 (cs:=sv12) rfl rfl rfl bR13 underlying34 (by rw[hsz12];kernel_rfl)) rfl ?_
   rw[HF2.out];exact hfin
theorem zgQ {x:DevS}(ok:x.Ok)(a:Int):(x.fr a).data.size≤1000:=by
 unfold DevS.fr;by_cases h:x.ge a=0
 ·rw[if_pos h];show (z0t (x.reads a)).size≤1000
  have hat:Go.Proofs.YtejmknghkbobnaaGreatDoor.atE x.off x.stable.length a=0:=by
   unfold DevS.ge DevS.get getE at h;by_cases h1:Go.Proofs.YtejmknghkbobnaaGreatDoor.atE x.off x.stable.length a=0
   ·exact h1
   ·simp only[if_neg h1]at h;exact absurd h h1
  have hr:=(ok.reads (z4m hat)).1;unfold z0t;rw[strOfNums_size,zi7,zi6,hr];omega
 ·rw[if_neg h];exact zi9 _
def zgB (w:World)(P:Nat→Prop)(x:DevS)(s j i:Int)(e:Ending)(w':World):Prop:=
 Below w.heap.size w w'∧∃E tv,x.beginE s j i E∧e=.returned (.tuple #[.agg tv,.int .i64 E])∧tv.size=25∧tv.all (·.oneCell')=true∧(E=0→RTx w' P x (x.begins s j i) tv)
theorem zfX {w:World}{P:Nat→Prop}{x:DevS}{sv:Array Value}(hq:RSv w P x sv)(hcalm:x.Calm)(hP:∀b,w.heap.size≤b→P b)(s j i:Int):
  Calls prog 61 #[.agg sv,.agg #[.int .i64 s,.int .i64 j,.int .i64 i]] w (zgB w P x s j i):=by
 obtain⟨A,c,C,d,rfl,hq⟩:=hq;have hlo:=hq.ok.lo;have hne:x.stable≠[]:=fun e=>by rw[e]at hlo;simp at hlo
 have hne2:0<(x.stable.flatMap secV).length:=by
  cases h:x.stable with
  | nil=>exact absurd h hne
  | cons s0 t=>
   have h0:=(hq.ok.sec s0 (by rw[h];exact zhK ..)).1
   rw[zhN,zhF];unfold secV;rw[zhX];omega
 obtain⟨b,off,hA,-,-⟩:=hq.sta.at_ (k:=0) hne2;have h1:=(hq.la _ hA).2;simp only[Addr.mk.injEq,true_and,and_true]at h1;subst h1;subst hA;refine(zc3 b c C x.cache.length d s j i x hlo (zgQ hq.ok _) w fun _ W hW=>?_).mono ?_
 ·refine(z8B P (some ⟨b,0,none⟩) C c d x (1+j) W (hq.below hW) hcalm).mono ?_;rintro e w' ⟨rfl,hb⟩;exact⟨hb,rfl⟩
 ·rintro e w' ⟨hb,E,hE,⟨h0,rfl⟩|⟨rfl,g,hg,rfl,hR⟩⟩
  ·exact⟨hb,E,txZ,hE,rfl,rfl,by simp[txZ,txR,Value.oneCell'],fun h=>absurd h h0⟩
  ·refine⟨hb,0,_,hE,rfl,rfl,by simp[txR,Value.oneCell'],fun _=>?_⟩
   have hl:(x.begins s j i).was.length=(rgB s j i).toNat:=z18 _ _ _;refine⟨⟨some ⟨b,0,none⟩,c,C,d,some ⟨g,0,none⟩,(rgB s j i).toNat,some ⟨g,0,none⟩,(rgB s j i).toNat,none,0⟩,?_,hq.below hb,hR,hR,Reads.nil,.inr (Lies.some (hP g hg)),.inr (Lies.some (hP g hg)),.inl rfl,?_,zhT _⟩
   ·unfold rtC;rw[hl,show (x.begins s j i).now.length=(rgB s j i).toNat from z18 _ _ _]
    rfl
   ·rw[show (x.begins s j i).now.length=(rgB s j i).toNat from z18 _ _ _]
    exact zhT _
open Go.ChangeShapes Go.WideShapes Go.ChangeAt Go.Deep
theorem zcY {α:Type}(q:Nat→α→Prop)(n:Nat)(h:∀i,i<n→∃a,q i a):∃xs:List α,xs.length=n∧∀i (hi:i<xs.length),q i xs[i]:=by
 induction n with
 | zero=>exact⟨[],rfl,fun i hi=>by simp at hi⟩
 | succ n ih=>
  obtain⟨xs,hl,hx⟩:=ih (fun i hi=>h i (by omega))
  obtain⟨a,ha⟩:=h n (by omega)
  refine⟨xs++[a],by simp[hl],fun i hi=>?_⟩
  by_cases hin:i<xs.length
  ·rw[List.getElem_append_left hin];exact hx i hin
  ·have:i=n:=by simp at hi;omega
   subst this;rw[List.getElem_append_right (by omega)]
   simpa[hl]using ha
theorem zcb {H:Type}{enc:TypeId × Value→H}{P:Program}{W:World}{α:Type}(mk:α→Value){t e:TypeId}{fuel:Nat}{v:Value}{x:DataW H × List MemPlace}(ht:P.underlying t=some (.slice e))(hC:P.cellsOf e=1)
  (hel:∀n cs x,DataW.trod enc P W 0 (fun _=>true) true n e cs=some x→∃a,cs=[mk a])
  (h:DataW.trod enc P W 0 (fun _=>true) true fuel t [v]=some x):
  ∃(A:Option Addr) (n c:Nat) (xs:List α),v=.slice A n c∧xs.length=n∧Reads W A (xs.map mk)∧n≤c∧c≤maxLen∧(A=none→n=0∧c=0):=by
 rcases open_slice ht h with ⟨h0,_⟩|⟨a,len,cap,m,n,D,Pl,hcs,hb,hl,hm,hmm,hx,hi⟩
 ·simp only[List.cons.injEq,and_true]at h0;subst h0;exact⟨none,0,0,[],rfl,rfl,Reads.nil,zhT _,zi9 _,fun _=>⟨rfl,rfl⟩⟩
 ·simp only[List.cons.injEq,and_true]at hcs;subst hcs;simp only[if_true]at hmm;have hat:∀i,i<len→∃u:α,W.cell? (a.add i)=some (mk u):=by
   intro i hi';obtain⟨cs',hc,ht'⟩:=hi i (by omega)
   rw[hC,Nat.mul_one]at hc;obtain⟨u,rfl⟩:=hel n cs' _ ht';obtain⟨_,_,hat⟩:=World.cells?_some hc;have:=hat 0 (by omega)
   refine⟨u,?_⟩
   simpa[Addr.add]using this
  obtain⟨xs,hxl,hxs⟩:=zcY (fun i u=>W.cell? (a.add i)=some (mk u)) len hat
  refine⟨some a,len,cap,xs,rfl,hxl,?_,hl,hm,fun h=>by cases h⟩
  rcases Nat.eq_zero_or_pos len with h0|h0
  ·left
   have:xs=[]:=List.eq_nil_of_length_eq_zero (by omega)
   simp[this]
  ·right
   obtain⟨b,off,spot⟩:=a;have h1:=hxs 0 (by omega)
   have hspot:spot=none:=by simpa[Addr.add]using World.cell?_spot h1
   subst hspot;refine⟨b,off,rfl,?_,fun j u hu=>?_⟩
   ·have:=World.block_lt_of_cell? W _ h1
    simpa[Addr.add]using this
   ·rw[zi1]at hu;by_cases hj:j<xs.length
    ·rw[zhx hj,Option.map_some,Option.some.injEq]at hu;subst hu;have:=hxs j hj
     unfold Addr.add at this;split at this
     ·rename_i hj0;subst hj0;simpa using this
     ·exact this
    ·rw[List.getElem?_eq_none (by omega)]at hu;simp at hu
theorem zdh {H:Type}{enc:TypeId × Value→H}{P:Program}{W:World}{α:Type}(mk:α→List Value)(good:α→Prop)(k:Nat)(hk:0<k){t e:TypeId}{fuel:Nat}{v:Value}{x:DataW H × List MemPlace}(ht:P.underlying t=some (.slice e))(hC:P.cellsOf e=k)
  (hel:∀n cs x,cs.length=k→DataW.trod enc P W 0 (fun _=>true) true n e cs=some x→∃a,cs=mk a∧good a)
  (h:DataW.trod enc P W 0 (fun _=>true) true fuel t [v]=some x):
  ∃(A:Option Addr) (n c:Nat) (xs:List α),v=.slice A n c∧xs.length=n∧Reads W A (xs.flatMap mk)∧(∀a∈xs,(mk a).length=k∧good a)∧n≤c∧c≤maxLen∧(A=none→n=0∧c=0):=by
 rcases open_slice ht h with ⟨h0,_⟩|⟨a,len,cap,m,n,D,Pl,hcs,hb,hl,hm,hmm,hx,hi⟩
 ·simp only[List.cons.injEq,and_true]at h0;subst h0;exact⟨none,0,0,[],rfl,rfl,Reads.nil,fun _ h=>(by cases h),zhT _,zi9 _,fun _=>⟨rfl,rfl⟩⟩
 ·simp only[List.cons.injEq,and_true]at hcs;subst hcs;simp only[if_true]at hmm;have hat:∀i,i<len→∃u:α,(mk u).length=k∧good u∧∀j,j<k→W.cell? (a.add (i*k+j))=(mk u)[j]?:=by
   intro i hi';obtain⟨cs',hc,ht'⟩:=hi i (by omega)
   rw[hC]at hc;obtain⟨_,hlen,hat⟩:=World.cells?_some hc;obtain⟨u,rfl,hg⟩:=hel n cs' _ hlen ht';exact⟨u,hlen,hg,fun j hj=>by rw[←Go.Deep.add_add];exact hat j hj⟩
  obtain⟨xs,hxl,hxs⟩:=zcY (fun i u=>(mk u).length=k∧good u∧∀j,j<k→W.cell? (a.add (i*k+j))=(mk u)[j]?) len hat
  have hgd:∀u∈xs,(mk u).length=k∧good u:=fun u hu=>by
   obtain⟨i,hi',rfl⟩:=List.mem_iff_getElem.1 hu;exact⟨(hxs i hi').1,(hxs i hi').2.1⟩
  refine⟨some a,len,cap,xs,rfl,hxl,?_,hgd,hl,hm,fun h=>by cases h⟩
  rcases Nat.eq_zero_or_pos len with h0|h0
  ·left
   have:xs=[]:=List.eq_nil_of_length_eq_zero (by omega)
   simp[this]
  ·right
   obtain⟨b,off,spot⟩:=a;have h1:=(hxs 0 (by omega)).2.2 0 hk
   have hv0:∃u,(mk (xs[0]'(by omega)))[0]?=some u:=⟨_,zhx (by rw[(hxs 0 (by omega)).1];exact hk)⟩
   obtain⟨u0,hu0⟩:=hv0;rw[hu0]at h1;have hspot:spot=none:=by simpa[Addr.add]using World.cell?_spot h1
   subst hspot;refine⟨b,off,rfl,?_,fun j u hu=>?_⟩
   ·have:=World.block_lt_of_cell? W _ h1
    simpa[Addr.add]using this
   ·have hjl:j<xs.length*k:=by
     have hlt:=(zhM.1 hu).1;have:(xs.flatMap mk).length=xs.length*k:=by
      clear hu hlt hxl hxs hu0 h1;induction xs with
      | nil=>simp
      | cons y t ih=>rw[zhN,zhF,(hgd y (by simp)).1,ih (fun u hu=>hgd u (zhJ _ hu)),zhO,Nat.add_mul,Nat.one_mul,Nat.add_comm]
     rwa [this]at hlt
    have hq:j / k<xs.length:=by rw[Nat.div_lt_iff_lt_mul hk];exact hjl
    have hr:j % k<k:=Nat.mod_lt _ hk;have e:=z1r (f:=mk) (m:=k) (fun s hs=>(hgd s hs).1) hr hq
    have hj:j / k*k+j % k=j:=by rw[Nat.mul_comm];exact Nat.div_add_mod j k
    rw[hj,hu]at e;have h2:=(hxs (j / k) hq).2.2 (j % k) hr;rw[hj,←e]at h2;unfold Addr.add at h2;split at h2
    ·rename_i hj0;subst hj0;simpa using h2
    ·exact h2
theorem z9N {x:DevS}{a:Int}{s:List Int}(h:(x.write a s).1=0):(x.write a s).2.taken=x.taken+1:=by
 unfold DevS.write at h ⊢;split
 ·rename_i h1
  rw[if_pos h1]at h;exact absurd h h1
 ·rename_i h1
  rw[if_neg h1]at h;split
  ·rename_i h2
   rw[if_pos h2]at h;exact absurd (show (13:Int)=0 from h) (by decide)
  ·unfold DevS.added DevS.room;split<;>rfl
theorem zdc {x:DevS}{a k q:Int}{s:ByteArray}(h:(x.put a k q s).1=0):(x.put a k q s).2.taken=x.taken+1:=by
 unfold DevS.put at h ⊢;split
 ·rename_i h1
  rw[if_pos h1]at h;exact z9N h
 ·rename_i h1
  rw[if_neg h1]at h;exact absurd h h1
theorem zc9 {p:Int × DevS}(h:(DevS.done p).1=0):p.1=0∧(DevS.done p).2=p.2.flushed:=by
 unfold DevS.done at h ⊢;by_cases h1:p.1≠0
 ·rw[if_pos h1]at h;exact absurd h h1
 ·rw[if_neg h1]at h ⊢;unfold DevS.flush z5c at h ⊢;cases ho:p.2.off
  ·exact⟨by simpa using h1,by simp⟩
  ·rw[ho]at h;exact absurd (show (13:Int)=0 from h) (by decide)
theorem z9U {x:DevS}{F Z:Int}(h:(x.clear F Z).1=0):(x.clear F Z).2.taken=x.taken+1∧(x.clear F Z).2.cache=[]:=by
 unfold DevS.clear at h ⊢;split
 ·rename_i h1;rw[if_pos h1]at h;exact absurd h h1
 ·rename_i h1
  rw[if_neg h1]at h;obtain⟨d1,d2⟩:=zc9 h;have h4:=zdc d1;rw[d2];exact⟨h4,rfl⟩
theorem z5k (A Bl:Option Addr)(c d:Nat)(la lb:List Int)(hla:la.length≤100000)(hlb:lb.length≤100000)(w:World)(hA:Reads w A (la.map (.int .i64)))(hB:Reads w Bl (lb.map (.int .i64))):
  Calls prog 39 #[.slice A la.length c,.slice Bl lb.length d] w fun e w'=>e=.returned (.bool (decide (la=lb)))∧Below w.heap.size w w':=by
 by_cases hl:la.length=lb.length
 rotate_left
 ·have hd:decide (la=lb)=false:=decide_eq_false fun e=>hl (by rw[e])
  have HD:=zhs hd;have hq:((la.length:Int) != (lb.length:Int))=true:=by simp;omega
  clear hd hl;go_enter func39,ntmps39
  go_wp2_with fail
  go_ret
  exact⟨by rw[HD.out];rfl,zho _ _⟩
 ·have hq:((la.length:Int) != (lb.length:Int))=false:=by simp;omega
  have HL:=zhs hl;clear hl;go_enter func39,ntmps39
  go_wp2_with fail
  go_loopw [5] (fun q wr=>∃k:Nat,k≤la.length∧q=.int .i64 k∧la.take k=lb.take k∧Below w.heap.size w wr) (fun q _=>la.length - (RowKit.intOf q).toNat)
  case atStart=>exact⟨0,zi9 _,rfl,by simp,zho _ _⟩
  case round=>
   obtain⟨k,hk,rfl,ht,hb⟩:=hrel;by_cases hlt:k<la.length
   ·have hlt2:k<lb.length:=by have:=HL.out;omega
    obtain⟨b1,o1,rfl,hb1,hc1⟩:=(hA.below hb).at_ (k:=k) (by simpa using hlt)
    obtain⟨b2,o2,rfl,hb2,hc2⟩:=(hB.below hb).at_ (k:=k) (by simpa using hlt2)
    rw[List.getElem_map]at hc1 hc2;have hta:la.take (k+1)=la.take k++[la[k]]:=by rw[zhE hlt]
    have htb:lb.take (k+1)=lb.take k++[lb[k]]:=by rw[zhE hlt2]
    have HNE:Hid (la[k]≠lb[k]→decide (la=lb)=false):=zhs fun hne=>decide_eq_false fun e=>hne (by subst e;rfl)
    have HT:=zhs ht;have HA':=zhs hA;have HB':=zhs hB;have HTA:=zhs hta;have HTB:=zhs htb;generalize la[k]=x at *;generalize lb[k]=z at *;clear hta htb ht hA hB;by_cases he:x=z
    ·subst he;go_wp2_with fail
     go_quiet (fail)
     go_wp2_with fail
     go_roundw
     case rel=>exact⟨k+1,by omega,by go_num,by rw[HTA.out,HTB.out,HT.out],z00 hb _⟩
     case measure=>simp[RowKit.intOf];omega
    ·have hn:(x != z)=true:=by simpa using he
     have HF:=zhs (HNE.out he);clear he;go_wp2_with fail
     go_quiet (fail)
     go_wp2_with fail
     go_ret
     exact⟨by rw[HF.out];rfl,z00 hb _⟩
   ·obtain rfl:k=la.length:=by omega
    have HD:Hid (decide (la=lb)=true):=zhs (decide_eq_true (by rw[zia,HL.out,zia]at ht;exact ht))
    clear ht;go_wp2_with fail
    go_ret
    exact⟨by rw[HD.out];rfl,hb⟩
def zgN (w:World)(s j i:Int)(e:Ending)(w':World):Prop:=
 ∃D T F B y,e=.returned (.tuple #[.pointer (some ⟨D,0,none⟩),.pointer (some ⟨T,0,none⟩)])∧Fresh y s j i 1000000∧TD w' T F D (zdk s j i) B y∧Below w.heap.size w w'∧(∀b∈F,w.heap.size≤b)∧∀b∈B,w.heap.size≤b
structure Keeps (w:World)(F:List Nat)(A:Option Addr)(c:Nat)(l:List Int):Prop where
 sl:SlI w A c l
 out:∀a,A=some a→a.block∉F∧a.block<w.heap.size
theorem Keeps.grow {w w':World}{F F':List Nat}{A:Option Addr}{c:Nat}{l:List Int}(h:Keeps w F A c l)(g:Grow w F w' F'):Keeps w' F' A c l:=
 ⟨⟨h.sl.reads.growF g fun a e=>(h.out a e).1,h.sl.nil,h.sl.cap⟩,fun a e=>⟨g.notin (h.out a e).1 (h.out a e).2,zhR (h.out a e).2 g.keep.size⟩⟩
theorem Keeps.below {w w':World}{F:List Nat}{A:Option Addr}{c:Nat}{l:List Int}(h:Keeps w F A c l)(hb:Below w.heap.size w w'):Keeps w' F A c l:=
 ⟨h.sl.below hb,fun a e=>⟨(h.out a e).1,zhR (h.out a e).2 hb.size⟩⟩
theorem Keeps.of_did {w':World}{base:Nat}{F':List Nat}{v:Value}{l:List Int}(ho:w'.ownsRow base 3 1 v l.length (l.map (.int .i64)))(hf:∀q,v.ownBlock=some q→q∉F'):∃A c,v=.slice A l.length c∧Keeps w' F' A c l:=by
 obtain⟨A,c,rfl,hs⟩:=SlI.of_own ho;exact⟨A,c,rfl,hs,fun a e=>by subst e;exact⟨hf a.block rfl,(z7w ho a.block rfl).2⟩⟩
theorem Grow.lo {w w':World}{F F':List Nat}{n:Nat}(g:Grow w F w' F')(hn:n≤w.heap.size)(hF:∀b∈F,n≤b):∀b∈F',n≤b:=fun b hb=>by
 rcases g.new b hb with h|h
 ·exact hF b h
 ·omega
def kT1:TxS:=(yA.take 12 3).2
def kT2:TxS:=(kT1.write 50 8 ⟨#[97,98]⟩).2
def kU:TxS:=zco 64 8 40 kT2.now
def zgT (us:List Bool):Nat:=(us.filter (fun b=>!b)).length
theorem zer:(yA.take 12 3).1=0∧yA.takeL 12 3=[12,13,0]∧(kT1.write 50 8 ⟨#[97,98]⟩).1=0∧kT2.look 50=some ⟨50,8,⟨#[97,98]⟩⟩∧kT2.writes=[⟨50,8,⟨#[97,98]⟩⟩]∧kT2.changed=true∧kT2.stateE=0∧yA.left=6∧kT2.left=4∧zgT yA.may=14∧zgT kT2.may=11 ∧
 (kU.write 3 8 ⟨#[]⟩).1=2∧((kU.write 3 8 ⟨#[]⟩).2.free []).1=9:=by decide +kernel
def kT3:TxS:=(kT2.free [13]).2
def kT4:TxS:=(kT3.take 13 1).2
def kT5:TxS:=(kT4.write 50 8 ⟨#[99]⟩).2
def kV:TxS:=zco 64 8 40 kT5.now
def kV1:TxS:=(kV.free [12]).2
structure Play (w0 w:World)(T:Nat)(F:List Nat)(D:Nat)(y:TxS)(B:List Nat)(x:DevS):Prop where
 td:TD w T F D y B x
 bl:Below w0.heap.size w0 w
 fl:∀b∈F,w0.heap.size≤b
 bb:∀b∈B,w0.heap.size≤b
section
variable {w0 w w':World}{T:Nat}{F F':List Nat}{D:Nat}{y y':TxS}{B B':List Nat}{x x':DevS}
theorem Play.below (h:Play w0 w T F D y B x)(hb:Below w.heap.size w w'):Play w0 w' T F D y B x:=⟨h.td.below hb,h.bl.trans (hb.mono h.bl.size),h.fl,h.bb⟩
theorem Play.did (h:Play w0 w T F D y B x)(ht:TxAt w' T F' D y')(g:Grow w F w' F'):Play w0 w' T F' D y' B x:=
 ⟨h.td.grow ht g,h.bl.trans (g.below h.bl.size h.fl),g.lo h.bl.size h.fl,h.bb⟩
theorem Play.size (h:Play w0 w T F D y B x):w0.heap.size≤w.heap.size:=h.bl.size
theorem Play.endKeep (h:Play w0 w T F D y B x):Grow w F (w.setCell ⟨T,20,none⟩ (.bool true)) F:=⟨KeepEx.setCell w (.inl h.td.tx.TF) _,fun _ hb=>.inl hb⟩
theorem Play.end_ (h:Play w0 w T F D y B x):Play w0 (w.setCell ⟨T,20,none⟩ (.bool true)) T F D y.end_ B x:=h.did h.td.tx.ended h.endKeep
theorem Play.keep (h:Play w0 w T F D y B x)(ht:TD w' T F' D y' B' x')(g:Grow w (F++B) w' (F'++B')):Play w0 w' T F' D y' B' x':=
 have hF:∀b∈F++B,w0.heap.size≤b:=fun b hb=>(zi0.1 hb).elim (h.fl b) (h.bb b)
 have hn:=g.lo h.bl.size hF;⟨ht,h.bl.trans (g.below h.bl.size hF),fun b hb=>hn b (zhH _ hb),fun b hb=>hn b (zhI _ hb)⟩
theorem Grow.appR (h:Grow w F w' F')(B:List Nat):Grow w (F++B) w' (F'++B):=
 ⟨h.keep.widen fun k hk=>zhH _ hk,fun b hb=>(zi0.1 hb).elim (fun hb=>(h.new b hb).imp (zhH _) id) (fun hb=>.inl (zhI _ hb))⟩
theorem Play.reads (h:Play w0 w T F D y B x){A:Option Addr}{xs:List Value}(hr:Reads w0 A xs):Reads w A xs:=hr.below h.bl
end
def z5w (w0 w:World)(T:Nat)(F:List Nat)(D:Nat)(E:Int)(y:TxS)(B:List Nat)(x:DevS)(e:Ending)(w':World):Prop:=
 e=.returned (.int .i64 E)∧∃F',Play w0 w' T F' D y B x∧Grow w (F++B) w' (F'++B)
section
variable {w0 w:World}{T:Nat}{F:List Nat}{D:Nat}{y:TxS}{B:List Nat}{x:DevS}
theorem z33 (h:Play w0 w T F D y B x)(a k:Int)(d:ByteArray)(ha:-9223372036854775808≤a∧a≤9223372036854775807)(hdl:d.size≤1000000):
  Calls prog 35 #[.pointer (some ⟨T,0,none⟩),.int .i64 a,.int .i64 k,.string d] w (z5w w0 w T F D (y.write a k d).1 (y.write a k d).2 B x):=by
 refine(zft T F D y a k d w h.td.tx ha hdl).mono ?_;rintro e w' ⟨he,F',ht,g⟩;exact⟨he,F',h.did ht g,g.appR B⟩
theorem z96 (h:Play w0 w T F D y B x)(Bl:Option Addr)(cb:Nat)(l:List Int)(hl:l.length≤1000)(hB:Reads w Bl (l.map (.int .i64))):
  Calls prog 40 #[.pointer (some ⟨T,0,none⟩),.slice Bl l.length cb] w (z5w w0 w T F D (y.free l).1 (y.free l).2 B x):=by
 refine(zfW T F D y Bl cb l hl w h.td.tx hB).mono ?_;rintro e w' ⟨he,F',ht,g⟩;exact⟨he,F',h.did ht g,g.appR B⟩
theorem z8u (h:Play w0 w T F D y B x)(near many:Int):
  Calls prog 34 #[.pointer (some ⟨T,0,none⟩),.int .i64 near,.int .i64 many] w fun e w'=>∃A c,e=.returned (.tuple #[.slice A (y.takeL near many).length c,.int .i64 (y.take near many).1]) ∧
   ∃F',Play w0 w' T F' D (y.take near many).2 B x∧Grow w (F++B) w' (F'++B)∧Keeps w' (F'++B) A c (y.takeL near many):=by
 refine(zg2 T F D y near many w h.td.tx).mono ?_;rintro e w' ⟨v,he,ho,F',ht,g,hv⟩;obtain⟨A,c,rfl,hk⟩:=Keeps.of_did (F':=F'++B) ho fun q hq hm=>(zi0.1 hm).elim (hv q hq) fun hm=>by
  have h1:=(z7w ho q hq).1;have h2:=(h.td.dev.lt q hm).2;omega
 exact⟨A,c,he,F',h.did ht g,g.appR B,hk⟩
theorem z5L (h:Play w0 w T F D y B x)(a:Int):
  Calls prog 36 #[.pointer (some ⟨T,0,none⟩),.int .i64 a] w fun e w'=>e=.returned (.tuple #[.int .i64 (y.read x a).1,.string (y.read x a).2.1,.int .i64 (y.read x a).2.2])∧Below w.heap.size w w':=
 zgs T F D y B x a w h.td.tx h.td.dev
theorem z7c (h:Play w0 w T F D y B x)(he:y.ended=false):
  Calls prog 17 #[.pointer (some ⟨T,0,none⟩)] w (z5w w0 w T F D 0 y.end_ B x):=by
 refine(zfo T F D y w h.td.tx he).mono ?_;rintro e w' ⟨rfl,rfl⟩;exact⟨rfl,F,h.end_,h.endKeep.appR B⟩
theorem z65 (T:Nat)(F:List Nat)(D:Nat)(y:TxS)(w:World)(h:TxAt w T F D y)(he:y.ended=true):
  Calls prog 17 #[.pointer (some ⟨T,0,none⟩)] w fun e w'=>e=.returned (.int .i64 9)∧w'=w:=by
 have qT:∀(w:World) (r:Option Nat),(binOp .eql 146 (.map r) (.map none)).run prog w=.ok (.bool r.isNone) w:=fun w r=>run_eql_map_nil w _ _ _ r underlying146
 obtain⟨ok,⟨M,wv,nv,bT,-⟩,lt⟩:=h;have c17:w.cell? ⟨T,17,none⟩=some (.map (some M)):=(bT.cells 17).trans rfl;have c20:w.cell? ⟨T,20,none⟩=some (.bool y.ended):=(bT.cells 20).trans rfl;have lT:=bT.lt;rw[he]at c20;clear bT ok lt;go_enter func17,ntmps17
 go_wp2_with fail
 go_ret
 exact⟨rfl,rfl⟩
theorem z9V {x':DevS}(h:Play w0 w T F D y B x)(hc:y.Clean)(hE:y.stateE=0)(hcm:y.commit x=(0,x')):
  Calls prog 16 #[.pointer (some ⟨T,0,none⟩)] w fun e w'=>e=.returned (.int .i64 0)∧∃B',Play w0 w' T F D y.end_ B' x'∧Grow w (F++B) w' (F++B'):=by
 refine(z8V T F D y B x w h.td hc hE).mono ?_;rintro e w' ⟨he,B',ht,g⟩;rw[hcm]at he ht;exact⟨he,B',h.keep ht g,g⟩
theorem zbM {s j i:Int}{us:List Bool}{N:Nat}(h:Play w0 w T F D y B x)(hr:rgE s j i=0)(hl:Live x s j i us N):
  Calls prog 37 #[.pointer (some ⟨D,0,none⟩),.agg #[.int .i64 s,.int .i64 j,.int .i64 i]] w fun e w'=>∃T' F',e=.returned (.tuple #[.pointer (some ⟨T',0,none⟩),.int .i64 0])∧Play w0 w' T' F' D (zco s j i us) B x∧Grow w (F++B) w' (F'++B):=by
 obtain⟨h1,h2,h3⟩:=zbX hr hl;refine(z6N D s j i B x w h.td.dev h3).mono ?_;rintro e w' ⟨hb,E,hE,⟨h5,-⟩|⟨-,T',F',rfl,ht,hF⟩⟩
 ·exact absurd ((h1 E).1 hE) h5
 rw[h2]at ht;exact⟨T',F',rfl,⟨⟨ht,h.td.dev.below hb,fun b hb hm=>by have:=hF b hb;have:=(h.td.dev.lt b hm).2;omega⟩,h.bl.trans (hb.mono h.bl.size),fun b hb=>zhS h.bl.size (hF b hb),h.bb⟩,KeepEx.of_below hb,fun b hm=>(zi0.1 hm).elim (fun hm=>.inr (hF b hm)) (fun hm=>.inl (zhI _ hm))⟩
end
theorem z9O (T:Nat)(F:List Nat)(D:Nat)(y:TxS)(w:World)(h:TxAt w T F D y)(hE:y.stateE=0):
  Calls prog 33 #[.pointer (some ⟨T,0,none⟩)] w fun e w'=>e=.returned (.tuple #[.int .i64 (z1V y.s y.j y.i y.may),.int .i64 y.left,.int .i64 0])∧Below w.heap.size w w':=by
 have hst:=z19 _ _ w h.st;rw[hE]at hst;have hml:y.may.length=y.now.length:=z1h (h.ok.now.trans h.ok.was.symm);have hbd:=h.ok.bds;have HCK:Hid (CkE y.s y.j y.i y.may.length=0):=zhs (by rw[hml];exact z7t h.ok)
 have HML:=zhs hml;have HNL:Hid (y.may.length≤1000):=zhs (by omega)
 clear hml hE hbd;go_enter func33,ntmps33
 go_wp2_with fail
 refine hst.mono ?_;rintro e w1 ⟨rfl,hb1⟩;have h1:=h.below hb1;clear hst h;go_wp2_with fail
 refine(zfM T F D y w1 h1).mono ?_;rintro e w2 ⟨g,cap,rfl,ho,hb2⟩;have B2:=hb1.trans (hb2.mono hb1.size);have h2:=h1.below hb2;have hct:=zdN y.s y.j y.i (some ⟨g,0,none⟩) cap y.may HNL.out w2 (by rw[←HML.out]at ho;exact Reads.of_own ho)
 obtain⟨cn,hcn⟩:∃cn,z1V y.s y.j y.i y.may=cn:=⟨_,rfl⟩;rw[HCK.out,HML.out,hcn]at hct;have HCN:=zhs hcn;clear hcn;clear h1 hb1 hb2 ho;go_wp2_with fail
 refine hct.mono ?_;rintro e w3 ⟨rfl,hb3⟩;have B3:=B2.trans (hb3.mono B2.size);have h3:=h2.below hb3;clear hct h2 B2 hb3;go_wp2_with fail
 refine(z5v T F D y _ h3).mono ?_;rintro e w4 ⟨rfl,hb4⟩;have B4:=B3.trans (hb4.mono B3.size);go_wp2_with fail
 refine bodyPost_ret (v:=.tuple #[.int .i64 cn,.int .i64 y.left,.int .i64 0]) (by simp[results,results33,go_sem]) rfl ?_
 exact⟨by rw[HCN.out],B4⟩
end Go.Proofs.YtejmknghkbobnaaGreatDoor
