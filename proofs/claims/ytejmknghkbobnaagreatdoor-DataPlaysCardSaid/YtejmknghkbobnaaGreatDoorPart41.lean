import Derived.Test.YtejmknghkbobnaaGreatDoorPart40
set_option linter.all false
set_option maxRecDepth 100000
set_option maxHeartbeats 0
namespace Go.Proofs.YtejmknghkbobnaaGreatDoor
open Go.Proofs.Tryz
open Go.RowKit Go.Maps
theorem z6M {n:Nat}{s j i:Int}(h:bi n s j i=0)(A:rgE s j i=0)(D:n≠0):(n:Int)=s:=by
 have c:¬(n:Int)=0:=by omega
 unfold bi at h;simp[A,c]at h
 omega
theorem z7v {w:World}{P:Nat->Prop}{x:DevS}{sv:Array Value}(hq:RSv w P x sv)(cb:x.Calm)(hP:∀b,w.heap.size<=b->P b)(s j i:Int):
  Calls prog 9 #[.agg sv,.agg #[.int .i64 s,.int .i64 j,.int .i64 i]] w (RGv w P (x.oC s j i)):=by
 obtain⟨w0,bq⟩:=zex (((w.alloc (.cells sv 34)).alloc (.cells #[.int .i64 s,.int .i64 j,.int .i64 i] 23)).alloc (.cells svZ 34));have bD:Blk w0 w.heap.size 34 sv:=by rw[bq];exact zbn
 have bL:Blk w0 (w.heap.size+1) 23 #[.int .i64 s,.int .i64 j,.int .i64 i]:=by rw[bq];exact zbn
 have bR:Blk w0 (w.heap.size+1+1) 34 svZ:=by rw[bq];exact zbn
 have B0:Zr w w0:=by rw[bq];exact zgr
 have b5:=hq.apt B0 w0.heap.size;have HN:=kD (Apt_.new hP B0.size);have bA:=hq.size;have cD:=hq.one;have zR:=kD bR.lt;have cB:=zcJ b5 s j i;have l0:=cI bD bA;have HF:Hid (x.oC s j i=if bi x.stable.length s j i≠0 then (bi x.stable.length s j i,x)else if (x.nH 1 j).1≠0 then x.nH 1 j else (x.nH 1 j).2.ny 1 j [bz s j i]):=kD rfl
 obtain⟨cL,lL⟩:=bL.zc;clear hq hP;unfold svZ at bq;go_enter func9,ntmps9
 go_upto_region 1 with fail
 rw[<-bq];clear bq;go_wp2_with (refine zlw l0 ?_)
 refine cB.mono ?_;rintro e w1 ⟨b8,rfl⟩;obtain⟨a1,a2,a3,a4,a5,hv⟩:∃a1 a2 a3 a4 a5:Int,rgV s j i=.agg #[.int .i64 a1,.int .i64 a2,.int .i64 a3,.int .i64 a4,.int .i64 a5]:=⟨_,_,_,_,_,rfl⟩;have HV:=kD hv;rw[hv];clear hv cB l0 cL lL;obtain⟨w2,bU⟩:=zex (w1.alloc (.cells #[.int .i64 a1,.int .i64 a2,.int .i64 a3,.int .i64 a4,.int .i64 a5] 44));have bG:Blk w2 w1.heap.size 44 #[.int .i64 a1,.int .i64 a2,.int .i64 a3,.int .i64 a4,.int .i64 a5]:=by rw[bU];exact zbn
 have bw:Zr w0 w2:=by rw[bU];exact b8.alloc b8.size _
 go_upto_region 2 with fail
 rw[<-bU];clear bU;have bO:=bD.mD bw;have b3:=bL.mD bw;have bP:=bR.mD bw;have B2:=B0.trans (bw.mono B0.size);have bC:=b5.below bw;have cl:=kD bw.size;clear bD bL bR B0 b5;by_cases hE:bi x.stable.length s j i=0
 rotate_left
 ·as_aux_lemma=>
  have HH:Hid (x.oC s j i=(bi x.stable.length s j i,x)):=kD (by rw[HF.out,if_pos hE])
  clear HF;generalize bi x.stable.length s j i=E at *;have cT:(E != 0)=true:=by simpa using hE
  have l1:=cI bO bA;have S:=aX bP rfl bA cD;have cR:=bP.setRow (cs':=sv);have U:=RGv.mk (R:=w.heap.size+1+1) E bC B2 (by omega) zR.out
  clear hE;go_wp2_with (first|(refine zlw l1 ?_)|(refine zsb S ?_))
  refine bodyPost_ret (au (cs:=sv) rfl rfl rfl cR underlying34 (by rw[bA];kernel_rfl)) rfl ?_
  rw[HH.out];exact U
 have bB:Hid (x.oC s j i=if (x.nH 1 j).1≠0 then x.nH 1 j else (x.nH 1 j).2.ny 1 j [bz s j i]):=kD (by rw[HF.out,if_neg (by rw[hE];simp)])
 have aL:rgE s j i=0:=by
  unfold bi at hE;split at hE
  ·rename_i h;exact absurd hE h
  ·rename_i h;simpa using h
 have bF:=fun W=>z0m s j i W
 rw[show rgJ s j i=1 by unfold rgJ;rw[if_pos aL]]at bF
 have dT:=kD hE;rw[hE];clear HF;have I:∀W,Zr w2 W->Blk W w.heap.size 34 sv/\W.cell? ⟨w.heap.size+1,0,none⟩=some (.int .i64 s)/\W.cell? ⟨w.heap.size+1,1,none⟩=some (.int .i64 j)/\W.cell? ⟨w.heap.size+1,2,none⟩=some (.int .i64 i):=fun W hW=>by
  have b:=(b3.mD hW).cells;exact⟨bO.mD hW,(b 0).trans rfl,(b 1).trans rfl,(b 2).trans rfl⟩
 go_upto_region 4 with fail
 refine dQ (Us.takes [0,1] (.one 2 (.one 3 (Us.nG [4,5,6] (.late 7 (.late 8 .done)))))) 7 (fun W=>Blk W w.heap.size 34 sv/\W.cell? ⟨w.heap.size+1,0,none⟩=some (.int .i64 s)/\W.cell? ⟨w.heap.size+1,1,none⟩=some (.int .i64 j)/\W.cell? ⟨w.heap.size+1,2,none⟩=some (.int .i64 i)) (by kernel_rfl) (by kernel_rfl) (fun _ _ _ _ _ h=>h) (I _ (kF _ _).drew) ?_
 simp only[Us.takes,Us.nG,Us.fill,kT,kV];refine dC (by rfl) (.agg sv) (fun w' ck=>cr 34 _ rfl rfl (cI ck.1 bA)) ?_
 (try simp only[Act.put,kJ,kH,kI])
 iterate 1 refine zuk ?_
 refine du fun K c=>?_
 go_simp;refine(bF w2.drew).mono ?_;rintro e w4 ⟨rfl,cX⟩;have ba:Zr w2 w4:=(kF _ _).drew.trans cX;refine c _ _ (I _ ba) ?_;clear c K;have cc:=zaE (bC.below ba) (fun b hb=>HN.out b (kO cl.out (kO ba.size hb))) 1 j
 have bc:=(z21 (Z:=j) (F:=1) (n:=x.stable.length) ⟨bC.ok,rfl⟩ cb (by have:=z6M hE aL (by have:=bC.ok.lo;omega);have:=de aL;omega))
 obtain⟨r,hr⟩:=zxe (x.nH 1 j);rw[hr]at cc bB bc;have HR:=kD hr;clear hr;refine du fun K c=>?_
 go_simp;refine cc.mono ?_;rintro e w5 ⟨ab,rfl,cg,c8⟩;have ao:Zr w2 w5:=ba.trans (c8.mono ba.size);refine c _ _ (I _ ao) ?_;clear c K cc;iterate 3 refine zup ?_
 have bk:=cg.size;have b1:=bO.mD ao;have cn:=b3.mD ao;have co:=bP.mD ao;have hT:w.heap.size<w0.heap.size:=by have:=zR.out;omega
 have S:=aX b1 bA bk cg.one;have bu:=cg.row (g:=w.heap.size) (Apt_.ne (kE _) hT) ab;have b2:=b1.setRow (cs':=ab);have b4:=cn.mO (cs':=ab) (show w.heap.size+1≠w.heap.size by omega)
 have bQ:=co.mO (cs':=ab) (show w.heap.size+1+1≠w.heap.size by omega)
 have cm:=(bG.mD ao).mO (cs':=ab) (show w1.heap.size≠w.heap.size by have:=b8.size;omega)
 have B6:=Below.setRow (B2.trans (ao.mono B2.size)) (kE _) ab;refine di fun K c=>?_
 refine zob S ?_;refine c _ _ ?_;clear c K S;(try simp only[Act.put,kJ,kH,kI])
 have cM:Hid (w0.heap.size<=(w5.setRow w.heap.size ab).heap.size):=kD (by have h1:=ao.size;have h2:=cl.out;simp;omega)
 generalize w5.setRow w.heap.size ab=W6 at *;refine di fun K c=>?_
 go_simp;refine c _ _ ?_;clear c K;refine fI ?_;clear I bO b3 bP B2 bC b1 cn co;by_cases bp:r.1=0
 rotate_left
 ·as_aux_lemma=>
  have HH:Hid (x.oC s j i=r):=kD (by rw[bB.out,if_pos bp])
  clear bB;obtain⟨E,z⟩:=r;simp only at bp bu HH
  have cT:(E != 0)=true:=by simpa using bp
  have l1:=cI b2 bk;have S:=aX bQ rfl bk bu.one;have cS:=bQ.setRow (cs':=ab);have U:=RGv.mk (R:=w.heap.size+1+1) E bu B6 (by omega) zR.out
  clear bp;go_wp2_with (first|(refine zlw l1 ?_)|(refine zsb S ?_))
  refine bodyPost_ret (au (cs:=ab) rfl rfl rfl cS underlying34 (by rw[bk];kernel_rfl)) rfl ?_
  rw[HH.out];exact U
 have bn:Hid (x.oC s j i=r.2.ny 1 j [bz s j i]):=kD (by rw[bB.out,if_neg (by rw[bp];simp)])
 rw[bp];clear bB bp;obtain⟨E0,z⟩:=r;simp only at bu bn bc
 obtain⟨cL,lL⟩:=b4.zc;have cC:=z5Y s j i W6;go_upto_region 7 with fail
 go_wp2_with fail
 refine cC.mono ?_;rintro e w7 ⟨b9,dv⟩;obtain⟨-,g,rfl,d1,hb⟩:=dv.resolve_left (fun h=>h.1 aL)
 go_upto_region 8 with fail
 obtain⟨us,bT⟩:=zex (List.replicate (rgB s j i).toNat false);have bS:us.length=(rgB s j i).toNat:=by rw[bT,m4]
 have cF:us.length<=1000:=by rw[bS];unfold rgB;have:=de aL;rw[if_pos aL];omega
 have bZ:Hid (bz s j i=⟨1+j,5,strOfNums (dZ us us.length)⟩):=kD (by rw[bT];rfl)
 have c9:CkE s j i us.length=0:=by rw[bS];exact z2v aL
 have b7:Blk w7 g 4 (us.map Value.bool).toArray:=by
  have e:(us.map Value.bool).toArray=fill (.bool false) (rgB s j i).toNat:=by
   rw[bT];rw[List.map_replicate];simp only[List.map_replicate,fill,madeCells];apply Array.ext
   ·simp
   ·intro k _ _;simp[Nat.mod_one]
  rw[e];exact hb
 have cU:Reads w7 (some ⟨g,0,none⟩) (us.map Value.bool):=.inr ⟨g,0,rfl,b7.lt,fun k u hu=>by rw[ld];exact(b7.cells k).trans (by simpa using hu)⟩
 rw[<-bS];obtain⟨w8,bW⟩:=zex (w7.alloc (.cells #[.int .i64 s,.int .i64 j,.int .i64 i,.slice (some ⟨g,0,none⟩) us.length us.length] 47));have bN:Zr w7 w8:=by rw[bW];exact(kF _ _).alloc (kE _) _
 have bK:Blk w8 w7.heap.size 47 #[.int .i64 s,.int .i64 j,.int .i64 i,.slice (some ⟨g,0,none⟩) us.length us.length]:=by rw[bW];exact zbn
 have ds:=z10 s j i (some ⟨g,0,none⟩) us.length us cF w8 (cU.below bN);have l8:=jc bK rfl;rw[<-bW];clear bW bT bS b7 hb cC cL lL;go_wp2_with (refine zlw l8 ?_)
 refine ds.mono ?_;rintro e w9 ⟨cw,db⟩;obtain⟨-,g9,rfl,d2,cp⟩:=db.resolve_left (fun h=>h.1 c9)
 have cW:a2=1+j:=by
  have h:=HV.out;unfold rgV rgM at h;rw[if_pos aL]at h;simp only[Value.agg.injEq]at h;have h2:=congrArg (fun a:Array Value=>a[1]?) h
  simp at h2
  omega
 have av:Zr W6 w9:=b9.trans ((bN.trans (cw.mono bN.size)).mono b9.size);have cN:=b2.mD av;have cQ:=b4.mD av;have bt:=bQ.mD av;have cP:=cm.mD av;have B9:=B6.trans (av.mono B6.size);have b6:=bu.below av;have b0:=kD (kO cM.out av.size);subst cW;have cK:=kD cp;have cA:=fun (W:World) (hW:Zr w9 W)=>dR (some ⟨g9,0,none⟩) 96 96 (dZ us us.length) (ei _ _) W (cK.out.below hW)
 generalize strOfNums (dZ us us.length)=ms at *;clear b2 b4 bQ cm B6 bu cw cp b9 bN;go_upto_region 9 with fail
 have I:∀W,Zr w9 W->Blk W w.heap.size 34 ab/\W.cell? ⟨w.heap.size+1,0,none⟩=some (.int .i64 s)/\W.cell? ⟨w.heap.size+1,1,none⟩=some (.int .i64 j)/\W.cell? ⟨w.heap.size+1,2,none⟩=some (.int .i64 i)/\W.cell? ⟨w1.heap.size,1,none⟩=some (.int .i64 (1+j)):=fun W hW=>by
  have b:=(cQ.mD hW).cells;exact⟨cN.mD hW,(b 0).trans rfl,(b 1).trans rfl,(b 2).trans rfl,((cP.mD hW).cells 1).trans rfl⟩
 refine dQ (Us.takes [0,1,3,4,5] (.fork 2 6 (.one 6 (Us.nG [7] (.one 8 (.one 9 (Us.nG [10,11] (.late 12 (.late 13 .done))))))) (Us.nG [7] (.fork 2 8 (.one 8 (.one 9 (Us.nG [10,11] (.late 12 (.late 13 .done))))) (.one 2 (.one 9 (Us.nG [10,11] (.late 12 (.late 13 .done))))))))) 12 (fun W=>Blk W w.heap.size 34 ab/\W.cell? ⟨w.heap.size+1,0,none⟩=some (.int .i64 s)/\W.cell? ⟨w.heap.size+1,1,none⟩=some (.int .i64 j)/\W.cell? ⟨w.heap.size+1,2,none⟩=some (.int .i64 i)/\W.cell? ⟨w1.heap.size,1,none⟩=some (.int .i64 (1+j))) (by kernel_rfl) (by kernel_rfl) (fun _ _ _ _ _ h=>h) (I _ (kF _ _).drew) ?_
 simp only[Us.takes,Us.nG,Us.fill,kT,kV];refine dC (by rfl) (.agg ab) (fun w' ck=>cr 34 _ rfl rfl (cI ck.1 bk)) ?_
 (try simp only[Act.put,kJ,kH,kI])
 iterate 4 refine zuk ?_
 have hX:Zr w9 w9.drew:=(kF _ _).drew;refine z3k (fun K c=>?_) (fun K c=>?_)
 ·go_simp;refine(bF w9.drew).mono ?_;rintro e ac ⟨rfl,a6⟩;have J:Zr w9 ac:=hX.trans a6;refine c _ _ (I _ J) ?_;clear c K;have hc:=cA ac J;refine du fun K c=>?_
  go_simp;refine c _ _ (I _ J) ?_;clear c K hc;iterate 1 refine zup ?_
  obtain⟨br,Y⟩:=zex (ac.alloc (.cells #[.int .i64 (1+j),.int .i64 5,.string ms] 118));have D:Zr w9 br:=by rw[Y];exact J.alloc J.size _
  have bb:RunAt br (some ⟨ac.heap.size,0,none⟩) [bz s j i]:=by
   have h:=jL ac ⟨1+j,5,ms⟩;rw[bZ.out,Y];show Reads _ _ (List.flatMap bE [(⟨1+j,5,ms⟩:Rec)])
   rw[m9,List.flatMap_nil,mp];exact h
  refine du fun K c=>?_
  go_simp;rw[<-Y];refine c _ _ (I _ D) ?_;clear c K Y;have bJ:gv [bz s j i]:=⟨by simp,fun r hr=>by
   have e:r=bz s j i:=by simpa using hr
   have cz:=de aL;rw[e];exact⟨⟨by show _<=1+j;omega,by show 1+j<=_;omega⟩,by show (gn _).size<=maxLen;rw[gQ];decide⟩⟩
  have T:=z30 (b6.below D) bc.2 (fun b hb=>HN.out b (kO b0.out (kO D.size hb))) 1 j (some ⟨ac.heap.size,0,none⟩) 1 [bz s j i] (by simp) bJ bb
  obtain⟨r,hr⟩:=zxe (z.ny 1 j [bz s j i]);rw[hr]at T bn;simp only[lr,lH,ld]at T;refine du fun K c=>?_
  go_simp;refine T.mono ?_;rintro e bM ⟨an,rfl,M,a8⟩;have A:Zr w9 bM:=D.trans (a8.mono D.size);refine c _ _ (I _ A) ?_;clear c K T;iterate 2 refine zup ?_
  have O:=M.size;have S:=aX (bt.mD A) rfl O M.one;have a7:=(bt.mD A).setRow (cs':=an);obtain⟨E1,z1⟩:=r;have U:=RGv.mk (R:=w.heap.size+1+1) E1 M (B9.trans (A.mono B9.size)) (by omega) zR.out
  refine di fun K c=>?_
  refine zob S ?_;refine c _ _ ?_;clear c K S;(try simp only[Act.put,kJ,kH,kI])
  refine di fun K c=>?_
  go_simp;refine c _ _ ?_;clear c K;refine fI ?_;clear I;go_wp2_with fail
  refine bodyPost_ret (au (cs:=an) rfl rfl rfl a7 underlying34 (by rw[O];kernel_rfl)) rfl ?_
  rw[bn.out];exact U
 ·have hc:=cA w9.drew hX;generalize w9.drew=X at hX hc |-;go_simp;refine c _ _ (I _ hX) ?_;clear c K hc;iterate 1 refine zup ?_
  refine z3k (fun K c=>?_) (fun K c=>?_)
  ·go_simp;refine(bF X).mono ?_;rintro e ac ⟨rfl,a6⟩;have J:Zr w9 ac:=hX.trans (a6.mono hX.size);refine c _ _ (I _ J) ?_;clear c K;obtain⟨br,Y⟩:=zex (ac.alloc (.cells #[.int .i64 (1+j),.int .i64 5,.string ms] 118));have D:Zr w9 br:=by rw[Y];exact J.alloc J.size _
   have bb:RunAt br (some ⟨ac.heap.size,0,none⟩) [bz s j i]:=by
    have h:=jL ac ⟨1+j,5,ms⟩;rw[bZ.out,Y];show Reads _ _ (List.flatMap bE [(⟨1+j,5,ms⟩:Rec)])
    rw[m9,List.flatMap_nil,mp];exact h
   refine du fun K c=>?_
   go_simp;rw[<-Y];refine c _ _ (I _ D) ?_;clear c K Y;have bJ:gv [bz s j i]:=⟨by simp,fun r hr=>by
    have e:r=bz s j i:=by simpa using hr
    have cz:=de aL;rw[e];exact⟨⟨by show _<=1+j;omega,by show 1+j<=_;omega⟩,by show (gn _).size<=maxLen;rw[gQ];decide⟩⟩
   have T:=z30 (b6.below D) bc.2 (fun b hb=>HN.out b (kO b0.out (kO D.size hb))) 1 j (some ⟨ac.heap.size,0,none⟩) 1 [bz s j i] (by simp) bJ bb
   obtain⟨r,hr⟩:=zxe (z.ny 1 j [bz s j i]);rw[hr]at T bn;simp only[lr,lH,ld]at T;refine du fun K c=>?_
   go_simp;refine T.mono ?_;rintro e bM ⟨an,rfl,M,a8⟩;have A:Zr w9 bM:=D.trans (a8.mono D.size);refine c _ _ (I _ A) ?_;clear c K T;iterate 2 refine zup ?_
   have O:=M.size;have S:=aX (bt.mD A) rfl O M.one;have a7:=(bt.mD A).setRow (cs':=an);obtain⟨E1,z1⟩:=r;have U:=RGv.mk (R:=w.heap.size+1+1) E1 M (B9.trans (A.mono B9.size)) (by omega) zR.out
   refine di fun K c=>?_
   refine zob S ?_;refine c _ _ ?_;clear c K S;(try simp only[Act.put,kJ,kH,kI])
   refine di fun K c=>?_
   go_simp;refine c _ _ ?_;clear c K;refine fI ?_;clear I;go_wp2_with fail
   refine bodyPost_ret (au (cs:=an) rfl rfl rfl a7 underlying34 (by rw[O];kernel_rfl)) rfl ?_
   rw[bn.out];exact U
  ·obtain⟨ac,cJ⟩:=zex X;obtain⟨wA,bX⟩:=zex (X.alloc (.cells #[.int .i64 (1+j),.int .i64 5,.string ms] 118));have ca:Zr w9 wA:=by rw[bX];exact hX.alloc hX.size _
   have ci:RunAt wA (some ⟨X.heap.size,0,none⟩) [bz s j i]:=by
    have h:=jL X ⟨1+j,5,ms⟩;rw[bZ.out,bX];show Reads _ _ (List.flatMap bE [(⟨1+j,5,ms⟩:Rec)])
    rw[m9,List.flatMap_nil,mp];exact h
   clear cJ;go_simp;rw[<-bX];refine c _ _ (I _ ca) ?_;clear c K bX;refine du fun K c=>?_
   go_simp;refine(bF wA).mono ?_;rintro e br ⟨rfl,a6⟩;have D:Zr w9 br:=ca.trans (a6.mono ca.size);have bb:=Reads.below ci a6;refine c _ _ (I _ D) ?_;clear c K;have bJ:gv [bz s j i]:=⟨by simp,fun r hr=>by
    have e:r=bz s j i:=by simpa using hr
    have cz:=de aL;rw[e];exact⟨⟨by show _<=1+j;omega,by show 1+j<=_;omega⟩,by show (gn _).size<=maxLen;rw[gQ];decide⟩⟩
   have T:=z30 (b6.below D) bc.2 (fun b hb=>HN.out b (kO b0.out (kO D.size hb))) 1 j (some ⟨X.heap.size,0,none⟩) 1 [bz s j i] (by simp) bJ bb
   obtain⟨r,hr⟩:=zxe (z.ny 1 j [bz s j i]);rw[hr]at T bn;simp only[lr,lH,ld]at T;refine du fun K c=>?_
   go_simp;refine T.mono ?_;rintro e bM ⟨an,rfl,M,a8⟩;have A:Zr w9 bM:=D.trans (a8.mono D.size);refine c _ _ (I _ A) ?_;clear c K T;iterate 2 refine zup ?_
   have O:=M.size;have S:=aX (bt.mD A) rfl O M.one;have a7:=(bt.mD A).setRow (cs':=an);obtain⟨E1,z1⟩:=r;have U:=RGv.mk (R:=w.heap.size+1+1) E1 M (B9.trans (A.mono B9.size)) (by omega) zR.out
   refine di fun K c=>?_
   refine zob S ?_;refine c _ _ ?_;clear c K S;(try simp only[Act.put,kJ,kH,kI])
   refine di fun K c=>?_
   go_simp;refine c _ _ ?_;clear c K;refine fI ?_;clear I;go_wp2_with fail
   refine bodyPost_ret (au (cs:=an) rfl rfl rfl a7 underlying34 (by rw[O];kernel_rfl)) rfl ?_
   rw[bn.out];exact U
theorem zd5 {x:DevS}(ok:x.Ok)(a:Int):(x.fr a).data.size<=1000:=by
 unfold DevS.fr;by_cases h:x.ge a=0
 ·rw[if_pos h];show (aP (x.reads a)).size<=1000
  have A:Go.Proofs.YtejmknghkbobnaaGreatDoor.atE x.off x.stable.length a=0:=by
   unfold DevS.ge DevS.get ko at h;by_cases c:Go.Proofs.YtejmknghkbobnaaGreatDoor.atE x.off x.stable.length a=0
   ·exact c
   ·simp only[if_neg c]at h;exact absurd h c
  have D:=(ok.reads (jb A)).1;unfold aP;rw[strOfNums_size,ma,kX,D];omega
 ·rw[if_neg h];exact kP _
def zcl (w:World)(P:Nat->Prop)(x:DevS)(s j i:Int)(e:Ending)(w':World):Prop:=
 Zr w w'/\∃E tv,x.oH s j i E/\e=.returned (.tuple #[.agg tv,.int .i64 E])/\tv.size=25/\tv.all (·.oneCell')=true/\(E=0->RTx w' P x (x.begins s j i) tv)
theorem zbN {w:World}{P:Nat->Prop}{x:DevS}{sv:Array Value}(D:RSv w P x sv)(I:x.Calm)(Y:∀b,w.heap.size<=b->P b)(s j i:Int):
  Calls prog 61 #[.agg sv,.agg #[.int .i64 s,.int .i64 j,.int .i64 i]] w (zcl w P x s j i):=by
 obtain⟨A,c,C,d,rfl,D⟩:=D;have hlo:=D.ok.lo;have M:x.stable≠[]:=fun e=>by rw[e]at hlo;simp at hlo
 have K:0<(x.stable.flatMap bd).length:=by
  cases h:x.stable with
  | nil=>exact absurd h M
  | cons s0 t=>
   have O:=(D.ok.sec s0 (by rw[h];exact me ..)).1
   rw[m9,kY];unfold bd;rw[lZ];omega
 obtain⟨b,off,T,-,-⟩:=D.sta.at_ (k:=0) K;have S:=(D.la _ T).2;simp only[Addr.mk.injEq,true_and,and_true]at S;subst S;subst T;refine(z7i b c C x.cache.length d s j i x hlo (zd5 D.ok _) w fun _ W hW=>?_).mono ?_
 ·refine(z4c P (some ⟨b,0,none⟩) C c d x (1+j) W (D.below hW) I).mono ?_;rintro e w' ⟨rfl,J⟩;exact⟨J,rfl⟩
 ·rintro e w' ⟨J,E,U,⟨O,rfl⟩|⟨rfl,g,hg,rfl,hR⟩⟩
  ·exact⟨J,E,txZ,U,rfl,rfl,by simp[txZ,txR,Value.oneCell'],fun h=>absurd h O⟩
  ·refine⟨J,0,_,U,rfl,rfl,by simp[txR,Value.oneCell'],fun _=>?_⟩
   have hl:(x.begins s j i).was.length=(rgB s j i).toNat:=dc _ _ _;refine⟨⟨some ⟨b,0,none⟩,c,C,d,some ⟨g,0,none⟩,(rgB s j i).toNat,some ⟨g,0,none⟩,(rgB s j i).toNat,none,0⟩,?_,D.below J,hR,hR,Reads.nil,.inr (Lies.some (Y g hg)),.inr (Lies.some (Y g hg)),.inl rfl,?_,kE _⟩
   ·unfold rtC;rw[hl,show (x.begins s j i).now.length=(rgB s j i).toNat from dc _ _ _]
    rfl
   ·rw[show (x.begins s j i).now.length=(rgB s j i).toNat from dc _ _ _]
    exact kE _
structure An where
 R:List Int
 P:List ByteArray
 t:ByteArray
 z:Int
 E:Int
 y:TxS
def TxS.act (y:TxS)(x:DevS)(cw ck cz co cn:Int)(L:List Int)(s:ByteArray)(ps:List ByteArray):An:=
 if cw=0 then ⟨(y.mJ x ck L cz co s).2.2.1,[],⟨#[]⟩,(y.mJ x ck L cz co s).2.2.2,(y.mJ x ck L cz co s).1,(y.mJ x ck L cz co s).2.1⟩
 else if cw=2 then ⟨(y.ni x ck L cz cn).2.2,[],⟨#[]⟩,0,(y.ni x ck L cz cn).1,(y.ni x ck L cz cn).2.1⟩
 else if cw=3 then ⟨[],[],(y.mZ x ck L cz co cn).1,0,(y.mZ x ck L cz co cn).2,y⟩
 else if cw=5 then ⟨(y.mQ x ck L ps).2.2,[],⟨#[]⟩,0,(y.mQ x ck L ps).1,(y.mQ x ck L ps).2.1⟩
 else ⟨[],(y.mY x ck L).1,⟨#[]⟩,0,(y.mY x ck L).2,y⟩
structure TolW (w:World)(P:Nat->Prop)(x:DevS)(E0:Nat)(z:TxS)(tv av:Array Value)(W:World):Prop where
 q:RTx W (Apt_ P w.heap.size E0) x z tv
 t:Blk W w.heap.size 50 tv
 r:Blk W (w.heap.size+1+1) 50 txZ
 s:Blk W (w.heap.size+1+1+1) 83 (dG 0)
 a:Blk W (w.heap.size+1+1+1+1) 83 av
 b:Zr w W
 n:E0<=W.heap.size
section
variable {w W V:World}{P:Nat->Prop}{x:DevS}{E0:Nat}{z z':TxS}{tv tv' av:Array Value}
theorem TolW.below (h:TolW w P x E0 z tv av W)(c:Zr W V):TolW w P x E0 z tv av V:=
 ⟨h.q.below c,h.t.mD c,h.r.mD c,h.s.mD c,h.a.mD c,h.b.trans (c.mono h.b.size),kO h.n c.size⟩
theorem TolW.put (h:TolW w P x E0 z tv av W)(D:E0=w.heap.size+5)(A:RTx V (Apt_ P w.heap.size E0) x z' tv')(c:Zr W V):TolW w P x E0 z' tv' av (V.setRow w.heap.size tv'):=
 ⟨A.row (Apt_.ne (kE _) (by omega)) tv',(h.t.mD c).setRow,(h.r.mD c).mO (by omega),(h.s.mD c).mO (by omega),(h.a.mD c).mO (by omega),Below.setRow (h.b.trans (c.mono h.b.size)) (kE _) tv',by simpa using kO h.n c.size⟩
theorem TolW.set (h:TolW w P x E0 z tv av W)(c:E0=w.heap.size+5)(i:Nat)(v:Value):TolW w P x E0 z tv (av.setIfInBounds i v) (W.setCell ⟨w.heap.size+1+1+1+1,i,none⟩ v):=
 ⟨h.q.cell (Apt_.ne (by show w.heap.size<=w.heap.size+1+1+1+1;omega) (by show w.heap.size+1+1+1+1<E0;omega)) v,h.t.far (by show w.heap.size≠w.heap.size+1+1+1+1;omega) v,h.r.far (by show w.heap.size+1+1≠w.heap.size+1+1+1+1;omega) v,h.s.far (by show w.heap.size+1+1+1≠w.heap.size+1+1+1+1;omega) v,h.a.mG i v,kG h.b (by show w.heap.size<=w.heap.size+1+1+1+1;omega) v,by simpa using h.n⟩
theorem Sp.cell {G:Nat->Prop}{A:Option Addr}{xs:List Value}{p:Addr}(h:Sp G W A xs)(c:G p.block)(v:Value):Sp G (W.setCell p v) A xs:=
 h.imp id fun h=>⟨h.1.frame (fun a e _=>Below.heap_setCell W p v a.block fun k=>h.2 a e (k▸c)) (by simp),h.2⟩
end
theorem zbf {W:World}{D:Nat}{t:TypeId}{c A:Value}{s:ByteArray}{z E:Int}(b:Blk W D t (bH c A s z E)):(Instr.loadAt 83 (.pointer (some ⟨D,0,none⟩))).run prog W=.ok (.agg (bH c A s z E)) W:=by
 simp only[Instr.loadAt,Instr.sureAddr,Sem.run_bind,Sem.run_pure,Result.andThen];exact run_loadVar_row W D t 83 (bH c A s z E) (0,0) _ b underlying83 rfl (by kernel_rfl)
theorem z34 {T:Func}{m n R S:Nat}{ty c t Y:TypeId}{tmps:Array Value}{w:World}{cs cs2:Array Value}{U A:Nat × Nat}{fs D:_}(hr:T.results=#[.cell m ty,.cell n c])(hm:tmps.getD m undef=.pointer (some ⟨R,0,none⟩))(hn:tmps.getD n undef=.pointer (some ⟨S,0,none⟩))
  (hg:w.heap[R]?=some (.cells cs t U)) (I:w.heap[S]?=some (.cells cs2 Y A)) (hu:prog.underlying ty=some (.struct fs)) (O:prog.underlying c=some (.struct D)) (hi:(prog.info? ty).map (·.size)=some cs.size) (J:(prog.info? c).map (·.size)=some cs2.size):
  (results T tmps).run prog w=.ok (.tuple #[.agg cs,.agg cs2]) w:=by
 have h:=run_loadVar_row (P:=prog) w R t ty cs U _ hg hu rfl hi;have h2:=run_loadVar_row (P:=prog) w S Y c cs2 A _ I O rfl J;have h1:∀R,(asAddr (.pointer (some ⟨R,0,none⟩))).run prog w=.ok ⟨R,0,none⟩ w:=fun _=>rfl
 have K:tmps[m]?.getD undef=.pointer (some ⟨R,0,none⟩):=by simpa using hm
 have M:tmps[n]?.getD undef=.pointer (some ⟨S,0,none⟩):=by simpa using hn
 simp[results,hr,K,M,h1,h,h2]
def Told (w:World)(P:Nat->Prop)(x:DevS)(a:An)(e:Ending)(w':World):Prop:=
 ∃tv RA lk PA pk,e=.returned (.tuple #[.agg tv,.agg (bH (.slice RA a.R.length lk) (.slice PA a.P.length pk) a.t a.z a.E)])/\RTx w' P x a.y tv/\Reads w' RA (a.R.map (.int .i64))/\Reads w' PA (a.P.map .string)/\Zr w w'
theorem zcQ {w:World}{P:Nat->Prop}{x:DevS}{y:TxS}{tv:Array Value}(hq:RTx w P x y tv)(av:x.Calm)(hP:∀b,w.heap.size<=b->P b)(ok:y.Ok)(hc:y.Clean)(s:ByteArray)(hs:s.size<=10000)(cw ck cz co cn:Int)(bG:cw=0\/cw=2\/cw=3\/cw=5\/cw=6)(A:Option Addr)(c:Nat)(L:List Int)(hL:L.length<=1000)(hA:SlI w A c L)(Q:Option Addr)(pn pc:Nat)(ps:List ByteArray)(bc:cw=5->ps.length=pn/\pn<=1000/\(∀p∈ps,p.size<=1000000)/\Reads w Q (ps.map .string)):
  Calls prog 28 #[.agg tv,.agg (az cw ck cz co cn (.slice A L.length c) s (.slice Q pn pc))] w (Told w P x (y.act x cw ck cz co cn L s ps)):=by
 obtain⟨C,hC⟩:=zex (az cw ck cz co cn (.slice A L.length c) s (.slice Q pn pc));obtain⟨w0,a2⟩:=zex (((((w.alloc (.cells tv 50)).alloc (.cells C 78)).alloc (.cells txZ 50)).alloc (.cells (dG 0) 83)).alloc (.cells (dG 0) 83));have B0:Zr w w0:=by rw[a2];exact zgr
 obtain⟨E0,br⟩:=zex w0.heap.size;have bB:Blk w0 (w.heap.size+1) 78 C:=by rw[a2];exact zbn
 have bD:TolW w P x E0 y tv (dG 0) w0:=⟨br▸hq.apt B0 w0.heap.size,by rw[a2];exact zbn,by rw[a2];exact zbn,by rw[a2];exact(Blk.new' (by simp)).alloc _,by rw[a2];exact zbn,B0,by omega⟩
 have bC:E0=w.heap.size+5:=by rw[br,a2];simp
 have HN:Hid (∀b,E0<=b->Apt_ P w.heap.size E0 b):=kD (Apt_.new hP (by omega))
 have HA:=kD (hA.below B0);have bA:Hid (cw=5->ps.length=pn/\pn<=1000/\(∀p∈ps,p.size<=1000000)/\Reads w0 Q (ps.map .string)):=kD fun h=>⟨(bc h).1,(bc h).2.1,(bc h).2.2.1,(bc h).2.2.2.below B0⟩
 have O:=kD bC;have bM:=hq.one;have bp:=hq.size;obtain⟨J,bt⟩:=zex (y.act x cw ck cz co cn L s ps);rw[<-bt];have ao:=kD bt;have HC:=kD hC;rw[hC]at a2;obtain⟨cC,lC⟩:=bB.zc;rw[hC]at cC;have T:=kD bD;clear hq hP hA br bC B0 bc bt hC bB bD;unfold txZ txR at a2;go_enter func28,ntmps28
 go_upto_region 2 with fail
 rw[<-a2];clear a2;go_upto_block 0 with fail
 have l0:=aN T.out.t bp;have bn:Hid (∀b,w0.heap.size<=b->Apt_ P w.heap.size E0 b):=kD fun b hb=>HN.out b (kO T.out.n hb)
 go_cut []from 9 to 94 (fun wx=>∃S RA lk PA pk,TolW w P x E0 J.y S (bH (.slice RA J.R.length lk) (.slice PA J.P.length pk) J.t J.z J.E) wx/\Sp (Bx w E0) wx RA (J.R.map (.int .i64))/\Sp (Bx w E0) wx PA (J.P.map .string))
 case first=>
  rcases bG with rfl|rfl|rfl|rfl|rfl
  ·as_aux_lemma=>
   have I:=zaJ T.out.q av bn.out ok hc ck A c L hL HA.out cz co s hs;unfold RDw at I;have U:=ao.out;simp only[TxS.act,if_true]at U;generalize y.mJ x ck L cz co s=r at *;obtain⟨E,z,R,zz⟩:=r;simp only at U I
   have U:=kD U;clear ao;go_wp2_with (refine zlw l0 ?_)
   refine I.mono ?_;rintro e w1 ⟨S,A1,c1,rfl,aL,⟨bb,ba⟩,Y⟩;obtain⟨W1,M⟩:=zex (w1.setRow w.heap.size S);have D:=T.out.put O.out aL Y;have ac:=aR (T.out.t.mD Y) bp aL.size aL.one;have a1:Sp (Bx w E0) W1 A1 (R.map (.int .i64)):=by rw[M];exact Sp.row (G:=Bx w E0) (.inr ⟨bb,fun a e k=>by have:=ba a e;have:=T.out.n;have:=k.2;omega⟩) ⟨kE _,by have:=O.out;omega⟩ S
   rw[<-M]at D ac;have cA:=D.a.cells;have lA:=D.a.lt;have fA:=D.a.free;have a6:=kD D;have b0:w.heap.size<=w.heap.size+1+1+1+1/\w.heap.size+1+1+1+1<E0:=by have:=O.out;omega
   have ab:Hid (Bx w E0 (w.heap.size+1+1+1+1)):=kD b0;have a7:=kD a1;clear I M D a1 b0 cC lC l0;go_wp2_with (refine zsb ac ?_)
   go_meet
   case rel=>rw[U.out];exact⟨S,A1,c1,none,0,(((a6.out.set O.out 0 _).set O.out 3 _).set O.out 4 _),(Sp.cell (Sp.cell (Sp.cell a7.out ab.out _) ab.out _) ab.out _),.inl rfl⟩
  ·as_aux_lemma=>
   have I:=zcI T.out.q av bn.out ok hc ck A c L hL HA.out cz cn;unfold RSto at I;have U:=ao.out;simp only[TxS.act,show ((2:Int)=0)=False from by decide,if_false,if_true]at U
   generalize y.ni x ck L cz cn=r at *;obtain⟨E,z,R⟩:=r;simp only at U I
   have U:=kD U;clear ao;go_wp2_with (refine zlw l0 ?_)
   refine I.mono ?_;rintro e w1 ⟨S,A1,c1,rfl,aL,⟨bb,ba⟩,Y⟩;obtain⟨W1,M⟩:=zex (w1.setRow w.heap.size S);have D:=T.out.put O.out aL Y;have ac:=aR (T.out.t.mD Y) bp aL.size aL.one;have a1:Sp (Bx w E0) W1 A1 (R.map (.int .i64)):=by rw[M];exact Sp.row (G:=Bx w E0) (.inr ⟨bb,fun a e k=>by have:=ba a e;have:=T.out.n;have:=k.2;omega⟩) ⟨kE _,by have:=O.out;omega⟩ S
   rw[<-M]at D ac;have cA:=D.a.cells;have lA:=D.a.lt;have fA:=D.a.free;have a6:=kD D;have b0:w.heap.size<=w.heap.size+1+1+1+1/\w.heap.size+1+1+1+1<E0:=by have:=O.out;omega
   have ab:Hid (Bx w E0 (w.heap.size+1+1+1+1)):=kD b0;have a7:=kD a1;clear I M D a1 b0 cC lC l0;go_wp2_with (refine zsb ac ?_)
   go_meet
   case rel=>rw[U.out];exact⟨S,A1,c1,none,0,((a6.out.set O.out 0 _).set O.out 4 _),(Sp.cell (Sp.cell a7.out ab.out _) ab.out _),.inl rfl⟩
  ·as_aux_lemma=>
   have I:=zc2 T.out.q av ok hc ck A c L hL HA.out cz co cn;skip
   have U:=ao.out;simp only[TxS.act,show ((3:Int)=0)=False from by decide,show ((3:Int)=2)=False from by decide,if_false,if_true]at U
   generalize y.mZ x ck L cz co cn=r at *;obtain⟨tt,E⟩:=r;simp only at U I
   have U:=kD U;clear ao;go_wp2_with (refine zlw l0 ?_)
   refine I.mono ?_;rintro e w1 ⟨rfl,Y⟩;obtain⟨W1,M⟩:=zex w1;rw[<-M]at Y |-;have D:=T.out.below Y;have cA:=D.a.cells;have lA:=D.a.lt;have fA:=D.a.free;have a6:=kD D;have b0:w.heap.size<=w.heap.size+1+1+1+1/\w.heap.size+1+1+1+1<E0:=by have:=O.out;omega
   have ab:Hid (Bx w E0 (w.heap.size+1+1+1+1)):=kD b0;clear I M D b0 cC lC l0;go_wp2_with fail
   go_meet
   case rel=>rw[U.out];exact⟨tv,none,0,none,0,((a6.out.set O.out 2 _).set O.out 4 _),.inl rfl,.inl rfl⟩
  ·as_aux_lemma=>
   obtain⟨rfl,bN,bK,bL⟩:=bA.out rfl;have I:=z3a T.out.q av bn.out ok hc ck A c L hL HA.out Q pc ps (by omega) bK bL
   unfold RSto at I;have U:=ao.out;simp only[TxS.act,show ((5:Int)=0)=False from by decide,show ((5:Int)=2)=False from by decide,show ((5:Int)=3)=False from by decide,if_false,if_true]at U
   generalize y.mQ x ck L ps=r at *;obtain⟨E,z,R⟩:=r;simp only at U I
   have U:=kD U;clear ao;go_wp2_with (refine zlw l0 ?_)
   refine I.mono ?_;rintro e w1 ⟨S,A1,c1,rfl,aL,⟨bb,ba⟩,Y⟩;obtain⟨W1,M⟩:=zex (w1.setRow w.heap.size S);have D:=T.out.put O.out aL Y;have ac:=aR (T.out.t.mD Y) bp aL.size aL.one;have a1:Sp (Bx w E0) W1 A1 (R.map (.int .i64)):=by rw[M];exact Sp.row (G:=Bx w E0) (.inr ⟨bb,fun a e k=>by have:=ba a e;have:=T.out.n;have:=k.2;omega⟩) ⟨kE _,by have:=O.out;omega⟩ S
   rw[<-M]at D ac;have cA:=D.a.cells;have lA:=D.a.lt;have fA:=D.a.free;have a6:=kD D;have b0:w.heap.size<=w.heap.size+1+1+1+1/\w.heap.size+1+1+1+1<E0:=by have:=O.out;omega
   have ab:Hid (Bx w E0 (w.heap.size+1+1+1+1)):=kD b0;have a7:=kD a1;clear I M D a1 b0 cC lC l0;go_wp2_with (refine zsb ac ?_)
   go_meet
   case rel=>rw[U.out];exact⟨S,A1,c1,none,0,((a6.out.set O.out 0 _).set O.out 4 _),(Sp.cell (Sp.cell a7.out ab.out _) ab.out _),.inl rfl⟩
  ·as_aux_lemma=>
   have I:=zbY T.out.q av ok hc ck A c L hL HA.out;unfold j7 at I;have U:=ao.out;simp only[TxS.act,show ((6:Int)=0)=False from by decide,show ((6:Int)=2)=False from by decide,show ((6:Int)=3)=False from by decide,show ((6:Int)=5)=False from by decide,if_false]at U
   generalize y.mY x ck L=r at *;obtain⟨R,E⟩:=r;simp only at U I
   have U:=kD U;clear ao;go_wp2_with (refine zlw l0 ?_)
   refine I.mono ?_;rintro e w1 ⟨Y,v1,rfl,bu⟩;obtain⟨A1,c1,rfl⟩:=aw bu;obtain⟨W1,M⟩:=zex w1;rw[<-M]at Y bu |-;have D:=T.out.below Y;have a1:Sp (Bx w E0) W1 A1 (R.map .string):=Sp.own bu fun b hb k=>by have:=T.out.n;have:=k.2;omega
   have cA:=D.a.cells;have lA:=D.a.lt;have fA:=D.a.free;have a6:=kD D;have b0:w.heap.size<=w.heap.size+1+1+1+1/\w.heap.size+1+1+1+1<E0:=by have:=O.out;omega
   have ab:Hid (Bx w E0 (w.heap.size+1+1+1+1)):=kD b0;have a7:=kD a1;clear I M D a1 b0 cC lC l0;go_wp2_with fail
   go_meet
   case rel=>rw[U.out];exact⟨tv,none,0,A1,c1,((a6.out.set O.out 1 _).set O.out 4 _),.inl rfl,(Sp.cell (Sp.cell a7.out ab.out _) ab.out _)⟩
 case rest=>
 obtain⟨S,RA,lk,PA,pk,hS,hR,hQ⟩:=hcut;clear T HA bA l0 bn cC lC ao;as_aux_lemma=>
 have hz:=hS.q.size;have bF:=hS.q.one;have bJ:=O.out;have D:=hS.below (kF wc.heap.size wc).drew;obtain⟨W1,M⟩:=zex (wc.drew.setRow (w.heap.size+1+1) S);obtain⟨W2,a8⟩:=zex (W1.setRow (w.heap.size+1+1+1) (bH (.slice RA J.R.length lk) (.slice PA J.P.length pk) J.t J.z J.E));have ac:=aR D.r rfl hz bF;rw[<-M]at ac;have bq:Blk W1 (w.heap.size+1+1+1) 83 (dG 0):=by rw[M];exact D.s.mO (by omega)
 have bk:=aF (ty:=83) (vs:=bH (.slice RA J.R.length lk) (.slice PA J.P.length pk) J.t J.z J.E) bq rfl (by simp[Value.oneCell']) (by kernel_rfl)
 rw[<-a8]at bk;have s1:Blk W1 w.heap.size 50 S/\Blk W1 (w.heap.size+1+1+1+1) 83 (bH (.slice RA J.R.length lk) (.slice PA J.P.length pk) J.t J.z J.E):=by rw[M];exact⟨D.t.mO (by omega),D.a.mO (by omega)⟩
 have s2:Blk W2 w.heap.size 50 S/\Blk W2 (w.heap.size+1+1+1+1) 83 (bH (.slice RA J.R.length lk) (.slice PA J.P.length pk) J.t J.z J.E):=by rw[a8];exact⟨s1.1.mO (by omega),s1.2.mO (by omega)⟩
 have r1:Blk W2 (w.heap.size+1+1) 50 S:=by rw[a8,M];exact D.r.setRow.mO (by omega)
 have r2:Blk W2 (w.heap.size+1+1+1) 83 (bH (.slice RA J.R.length lk) (.slice PA J.P.length pk) J.t J.z J.E):=by rw[a8];exact bq.setRow
 have HF:Hid (RTx W2 P x J.y S/\Reads W2 RA (J.R.map (.int .i64))/\Reads W2 PA (J.P.map .string)/\Zr w W2):=kD (by
  rw[a8,M];have g1:Bx w E0 (w.heap.size+1+1):=⟨by omega,by omega⟩
  have g2:Bx w E0 (w.heap.size+1+1+1):=⟨by omega,by omega⟩
  exact⟨((D.q.row (Apt_.ne g1.1 g1.2) _).row (Apt_.ne g2.1 g2.2) _).oD,(((hR.below (kF _ _).drew).row g1 _).row g2 _).reads,(((hQ.below (kF _ _).drew).row g1 _).row g2 _).reads,Below.setRow (Below.setRow D.b g1.1 _) g2.1 _⟩)
 clear M a8 hR hQ hS bq bJ;go_upto_region 12 with fail
 refine zrm [.take 0,.take 1,.one 2,.one 3] 4 (fun W=>Blk W w.heap.size 50 S/\Blk W (w.heap.size+1+1+1+1) 83 (bH (.slice RA J.R.length lk) (.slice PA J.P.length pk) J.t J.z J.E)) ⟨D.t,D.a⟩ ?_
 simp only[kR,kS,Ms.fill,kT,kV];refine ai (by rfl) (.agg S) (fun w' bw=>cr 50 _ rfl rfl (aN bw.1 hz)) ?_
 (try simp only[Act.put,kJ,kH,kI])
 refine ai (by rfl) (.agg (bH (.slice RA J.R.length lk) (.slice PA J.P.length pk) J.t J.z J.E)) (fun w' bw=>cr 83 _ rfl rfl (zbf bw.2)) ?_
 (try simp only[Act.put,kJ,kH,kI])
 refine ah (by rfl) fun K hK=>?_
 refine zob ac ?_;refine hK _ _ (fun _=>s1) ?_
 clear hK K ac s1;(try simp only[Act.put,kJ,kH,kI])
 refine ah (by rfl) fun K hK=>?_
 refine zob bk ?_;refine hK _ _ (fun _=>s2) ?_
 clear hK K bk s2;(try simp only[Act.put,kJ,kH,kI])
 refine ax ?_;go_wp2_with fail
 refine bodyPost_ret (z34 (cs:=S) (cs2:=bH (.slice RA J.R.length lk) (.slice PA J.P.length pk) J.t J.z J.E) rfl rfl rfl r1 r2 underlying50 underlying83 (by rw[hz];kernel_rfl) (by kernel_rfl)) rfl ?_
 exact⟨S,RA,lk,PA,pk,rfl,HF.out.1,HF.out.2.1,HF.out.2.2.1,HF.out.2.2.2⟩
def zch (w:World)(T:Nat)(F:List Nat)(D:Nat)(B:List Nat)(x:DevS)(a:An)(e:Ending)(w':World):Prop:=
 ∃RA lk PA pk F',e=.returned (.agg (bH (.slice RA a.R.length lk) (.slice PA a.P.length pk) a.t a.z a.E))/\TD w' T F' D a.y B x/\Grow w F w' F'/\Keeps w' F' RA lk a.R/\(∀a,RA=some a->w.heap.size<=a.block)/\Reads w' PA (a.P.map .string)
theorem OfAny.parts {n0 J:Nat}{W:World}{F:List Nat}{D cz co cn:Int}{A:Option Addr}{c:Nat}{L:List Int}{P:Option Addr}{I:Nat}(h:OfAny n0 J W F D cz co cn A c L P I):
  ∃ps:List ByteArray,D=5->ps.length=I/\I<=901/\(∀p∈ps,p.size<=1000)/\Reads W P (ps.map .string)/\∀a,P=some a->J<=a.block/\a.block<W.heap.size:=by
 by_cases e:D=5
 ·obtain⟨ps,K⟩:=h.ps e;exact⟨ps,fun _=>K⟩
 ·exact⟨[],fun k=>absurd k e⟩
section
variable {y:TxS}{x:DevS}{ck cz co cn:Int}{L:List Int}{s:ByteArray}{ps:List ByteArray}
theorem zcX:y.act x 0 ck cz co cn L s ps=⟨(y.mJ x ck L cz co s).2.2.1,[],⟨#[]⟩,(y.mJ x ck L cz co s).2.2.2,(y.mJ x ck L cz co s).1,(y.mJ x ck L cz co s).2.1⟩:=rfl
theorem zcY:y.act x 2 ck cz co cn L s ps=⟨(y.ni x ck L cz cn).2.2,[],⟨#[]⟩,0,(y.ni x ck L cz cn).1,(y.ni x ck L cz cn).2.1⟩:=rfl
theorem zcZ:y.act x 3 ck cz co cn L s ps=⟨[],[],(y.mZ x ck L cz co cn).1,0,(y.mZ x ck L cz co cn).2,y⟩:=rfl
theorem zd0:y.act x 5 ck cz co cn L s ps=⟨(y.mQ x ck L ps).2.2,[],⟨#[]⟩,0,(y.mQ x ck L ps).1,(y.mQ x ck L ps).2.1⟩:=rfl
theorem zd1:y.act x 6 ck cz co cn L s ps=⟨[],(y.mY x ck L).1,⟨#[]⟩,0,(y.mY x ck L).2,y⟩:=rfl
theorem z1V {l:List Int}(h:y.mF≠0):aC y l=y.mF:=by unfold aC;rw[if_pos h]
theorem zaj (l:List Int)(k:Nat):(bI y x ck l k).1.length<=k:=by
 induction k with
 | zero=>exact kE _
 | succ k ih=>
  unfold bI;split
  ·omega
  ·split
   ·exact kP _
   ·simp;exact ih
theorem z82 (ok:y.Ok)(A:y.Clean)(J:s.size<=10000){c:Int}(I:c=0\/c=2\/c=3\/c=5\/c=6)(U:c=5->ps.length<=1000)(T:L.length<=1000):
  (y.act x c ck cz co cn L s ps).R.length<=1000/\(y.act x c ck cz co cn L s ps).P.length<=1000/\(0<=(y.act x c ck cz co cn L s ps).z/\(y.act x c ck cz co cn L s ps).z<=10000)/\(c=2->(y.act x c ck cz co cn L s ps).E=0->0<=cn/\cn<=10000)/\(y.act x c ck cz co cn L s ps).y.Clean:=by
 have D:∀ {l:List Int} {size:Int} {K M:Bool},y.mF≠0->aQ y l size K M=y.mF:=fun h=>by unfold aQ;rw[z1V h,if_pos h]
 rcases I with rfl|rfl|rfl|rfl|rfl
 ·rw[zcX];refine⟨?_,by simp,?_,(fun h=>by cases h),A.mJ x ck L cz co s⟩
  ·by_cases h:y.mF=0
   ·exact(z0g ok h x ck L cz co s J).1
   ·show (y.mJ x ck L cz co s).2.2.1.length<=1000
    unfold TxS.mJ;rw[D h,if_pos h];simp
  ·by_cases h:y.mF=0
   ·exact(z0g ok h x ck L cz co s J).2
   ·show 0<=(y.mJ x ck L cz co s).2.2.2/\(y.mJ x ck L cz co s).2.2.2<=10000
    unfold TxS.mJ;rw[D h,if_pos h];simp
 ·rw[zcY];by_cases h:y.mF=0
  ·obtain⟨O,S⟩:=z6D ok h x ck L cz cn;exact⟨O,by simp,by simp,fun _ e=>by have:=S e;omega,A.ni x ck L cz cn⟩
  ·refine⟨?_,by simp,by simp,?_,A.ni x ck L cz cn⟩
   ·show (y.ni x ck L cz cn).2.2.length<=1000
    unfold TxS.ni;rw[D h,if_pos h];simp
   ·intro _ e;have e:(y.ni x ck L cz cn).1=0:=e;unfold TxS.ni at e;rw[D h,if_pos h]at e;exact absurd e h
 ·rw[zcZ];exact⟨by simp,by simp,by simp,(fun h=>by cases h),A⟩
 ·rw[zd0];refine⟨?_,by simp,by simp,(fun h=>by cases h),A.mQ x ck L ps⟩
  by_cases h:y.mF=0
  ·exact z3Q ok h x ck L ps (U rfl)
  ·show (y.mQ x ck L ps).2.2.length<=1000
   unfold TxS.mQ;rw[z1V h,if_pos h];simp
 ·rw[zd1];refine⟨by simp,?_,by simp,(fun h=>by cases h),A⟩
  show (y.mY x ck L).1.length<=1000
  unfold TxS.mY;split
  ·simp
  ·exact kO (zaj _ _) T
end
theorem zcr (T:Nat)(F:List Nat)(D:Nat)(y:TxS)(B:List Nat)(x:DevS)(s:ByteArray)(hs:s.size<=1000)(n0 m0:Nat)(cw ck cz co cn:Int)(A:Option Addr)(c:Nat)(L:List Int)(P:Option Addr)(pn pc:Nat)(w:World)
  (h:TD w T F D y B x) (hF:∀b∈F,b<m0) (U:OfAny n0 m0 w F cw cz co cn A c L P pn) (ps:List ByteArray) (ab:cw=5->ps.length=pn/\pn<=901/\(∀p∈ps,p.size<=1000)/\Reads w P (ps.map .string)/\∀a,P=some a->m0<=a.block/\a.block<w.heap.size):
  Calls prog 27 #[.pointer (some ⟨T,0,none⟩),.agg (az cw ck cz co cn (.slice A L.length c) s (.slice P pn pc))] w (zch w T F D B x (y.act x cw ck cz co cn L s ps)):=by
 have M:=U.kp.sl;have J:=U.len;rcases U.hcw with O|O|O|O|O
 ·subst O;refine(z6G T F D y B x ck cz co cn A c L J s _ U.hcz U.hco (by omega) w h M).mono fun e w' ⟨v,S,K,F',ht,g,hv⟩=>?_
  obtain⟨Y,c',rfl,I⟩:=Keeps.oL K hv;exact⟨Y,c',none,0,F',S,ht,g,I,fun a e=>by subst e;exact(ce K a.block rfl).1,.inl rfl⟩
 ·subst O;refine(za2 T F D y B x ck cz co cn A c L J s _ U.hcz U.hcn w h M).mono fun e w' ⟨v,S,K,F',ht,g,hv⟩=>?_
  obtain⟨Y,c',rfl,I⟩:=Keeps.oL K hv;exact⟨Y,c',none,0,F',S,ht,g,I,fun a e=>by subst e;exact(ce K a.block rfl).1,.inl rfl⟩
 ·subst O;refine(z8q T F D y B x ck cz co cn A c L J s _ U.hcz w h M).mono fun e w' ⟨S,hb⟩=>?_
  exact⟨none,0,none,0,F,S,h.below hb,Grow.of_below hb F,Keeps.nil _ _,fun _ h=>(by cases h),.inl rfl⟩
 ·subst O;obtain⟨rfl,p1,p2,p3,p4⟩:=ab rfl;refine(z6F T F D y B x ck cz co cn A c L J s w h M P pc ps (by omega) (fun p hp=>by have:=p2 p hp;omega) p3 (fun a e=>⟨fun hm=>by have:=hF _ hm;have:=(p4 a e).1;omega,(p4 a e).2⟩)).mono fun e w' ⟨v,S,K,F',ht,g,hv⟩=>?_
  obtain⟨Y,c',rfl,I⟩:=Keeps.oL K hv;exact⟨Y,c',none,0,F',S,ht,g,I,fun a e=>by subst e;exact(ce K a.block rfl).1,.inl rfl⟩
 ·subst O;refine(z8p T F D y B x ck cz co cn A c L J s _ w h M).mono fun e w' ⟨v,S,K,hb⟩=>?_
  obtain⟨PA,pk,rfl⟩:=aw K;exact⟨none,0,PA,pk,F,S,h.below hb,Grow.of_below hb F,Keeps.nil _ _,fun _ h=>(by cases h),Reads.ng K⟩
end Go.Proofs.YtejmknghkbobnaaGreatDoor
