import Derived.Test.YtejmknghkbobnaaGreatDoorPart27
set_option linter.all false
set_option maxRecDepth 100000
set_option maxHeartbeats 0
namespace Go.Proofs.YtejmknghkbobnaaGreatDoor
open Go.Proofs.Tryz
open Go.RowKit Go.Maps
theorem cr {P:Program}{o:Oper}{a:Act}{v p:Value}{w:World}(ty:TypeId)(x:Operand)(A:o.op=.load ty x)(D:a.eval x=p)(c:(Instr.loadAt ty p).run P w=.ok v w):(execOp a.eval o).run P w=.ok (.value v) w:=by
 unfold execOp;simp only[A,D,Sem.run_bind,Sem.run_pure,Result.andThen_ok,c]
theorem zdb {w:World}{P:Nat->Prop}{x:DevS}{sv:Array Value}(hq:RSv w P x sv)(hs:x.Calm)(hP:∀b,w.heap.size<=b->P b)(F Z:Int)(A:Option Addr)(c:Nat)(l:List Rec)(c9:l.length<=c)(ck:gv l)(hr:RunAt w A l):
  Calls prog 109 #[.agg sv,.agg #[.int .i64 F,.int .i64 Z],.slice A l.length c] w (RGv w P (x.log F Z l)):=by
 obtain⟨w0,bb⟩:=zex (((w.alloc (.cells sv 34)).alloc (.cells #[.int .i64 F,.int .i64 Z] 109)).alloc (.cells svZ 34));have bD:Blk w0 w.heap.size 34 sv:=by rw[bb];exact zbn
 have bJ:Blk w0 (w.heap.size+1) 109 #[.int .i64 F,.int .i64 Z]:=by rw[bb];exact zbn
 have bR:Blk w0 (w.heap.size+1+1) 34 svZ:=by rw[bb];exact zbn
 have B0:Zr w w0:=by rw[bb];exact zgr
 have b0:=hq.apt B0 w0.heap.size;have HN:=kD (Apt_.new hP B0.size);have ba:=hq.size;have bN:=hq.one;have eg:=ck.1;have zR:=kD bR.lt;have b3:=z68 b0 hs F Z;unfold gL at b3;have HC:Hid (x.log F Z l=if (x.head F Z).1≠0 then ((x.head F Z).1,x)else
  if cV x.stable.length F Z l≠0 then (cV x.stable.length F Z l,x)else
  if (x.puts (ef F (aD (x.head F Z).2) l) l.length).1≠0 then x.puts (ef F (aD (x.head F Z).2) l) l.length else
  DevS.done ((x.puts (ef F (aD (x.head F Z).2) l) l.length).2.put (F+1+l.length) 3 (aD (x.head F Z).2) (aH l.length))):=kD rfl
 have b2:=@i7 x F Z;have dv:=iC x F Z;have bB:=@z4v x.stable.length F Z l;have HQ:=kD b0;have HR:=kD (Reads.below hr B0);have cz:Hid (0<l.length->∀ad,A=some ad->ad.block≠w.heap.size):=kD fun h0 ad e=>by
  have:=Reads.block_lt hr (fun e2=>by have h1:=gO l;rw[e2]at h1;simp at h1;omega) ad e
  omega
 clear hq b0 hP hr;unfold svZ at bb;go_enter func109,ntmps109
 go_upto_region 1 with fail
 rw[<-bb];clear bb;obtain⟨cJ,lJ⟩:=bJ.zc;have l0:=cI bD ba;go_wp2_with (refine zlw l0 ?_)
 refine b3.mono ?_;rintro e w1 ⟨rfl,aL⟩;have B1:=B0.trans (aL.mono B0.size);have bT:=bD.mD aL;have bU:=bJ.mD aL;have bF:=bR.mD aL;have bG:=HQ.out.below aL;have b7:=Reads.below HR.out aL;have cK:=kD aL.size;clear b3 bD bJ bR B0 aL cJ lJ l0;have l1:=cI bT ba;by_cases V:(x.head F Z).1=0
 rotate_left
 ·have HH:Hid (x.log F Z l=((x.head F Z).1,x)):=kD (by rw[HC.out,if_pos V])
  clear HC b2 dv bB;generalize (x.head F Z).1=E at *;generalize (x.head F Z).2=q at *;have bW:(E != 0)=true:=by simpa using V
  have cT:(E==0)=false:=by simpa using V
  have T:=aX bF rfl ba bN;have bq:=bF.setRow (cs':=sv);have U:=RGv.mk (R:=w.heap.size+1+1) E bG B1 (by omega) zR.out
  clear V;go_wp2_with (first|(refine zlw l1 ?_)|(refine zsb T ?_))
  refine bodyPost_ret (au (cs:=sv) rfl rfl rfl bq underlying34 (by rw[ba];kernel_rfl)) rfl ?_
  rw[HH.out];exact U
 have d7:=b2 V;have bw:Hid (x.log F Z l=if cV x.stable.length F Z l≠0 then (cV x.stable.length F Z l,x)else
  if (x.puts (ef F (aD (x.head F Z).2) l) l.length).1≠0 then x.puts (ef F (aD (x.head F Z).2) l) l.length else
  DevS.done ((x.puts (ef F (aD (x.head F Z).2) l) l.length).2.put (F+1+l.length) 3 (aD (x.head F Z).2) (aH l.length))):=kD (by rw[HC.out,if_neg (by rw[V];simp)])
 rw[V];clear V HC b2;generalize (x.head F Z).2=q at *;have co:=zc6 bG F Z (by omega) A c l c9 ck b7
 obtain⟨cJ,lJ⟩:=bU.zc;go_wp2_with (refine zlw l1 ?_)
 refine co.mono ?_;rintro e w2 ⟨rfl,a1⟩;have B2:=B1.trans (a1.mono B1.size);have ca:=bT.mD a1;have cM:=bU.mD a1;have bq:=bF.mD a1;have b1:=bG.below a1;have cC:=kD (Reads.below b7 a1);have cL:=kD (kO cK.out a1.size);clear co bT bU bF B1 a1 cJ lJ l1 bG b7 HQ HR;have l2:=cI ca ba;by_cases hV:cV x.stable.length F Z l=0
 rotate_left
 ·have HH:Hid (x.log F Z l=(cV x.stable.length F Z l,x)):=kD (by rw[bw.out,if_pos hV])
  clear bw bB;generalize cV x.stable.length F Z l=E at *;have bW:(E != 0)=true:=by simpa using hV
  have T:=aX bq rfl ba bN;have cP:=bq.setRow (cs':=sv);have U:=RGv.mk (R:=w.heap.size+1+1) E b1 B2 (by omega) zR.out
  clear hV;go_wp2_with (first|(refine zlw l2 ?_)|(refine zsb T ?_))
  refine bodyPost_ret (au (cs:=sv) rfl rfl rfl cP underlying34 (by rw[ba];kernel_rfl)) rfl ?_
  rw[HH.out];exact U
 have cF:=kD (bB hV);have bA:Hid (x.log F Z l=if (x.puts (ef F (aD q) l) l.length).1≠0 then x.puts (ef F (aD q) l) l.length else
  DevS.done ((x.puts (ef F (aD q) l) l.length).2.put (F+1+l.length) 3 (aD q) (aH l.length))):=kD (by rw[bw.out,if_neg (by rw[hV];simp)])
 rw[hV];clear hV bw bB;have dT:IntKind.u32.wrap (q+1)=aD q:=by unfold aD;rw[IntKind.wrap_u32]
 have b4:0<=aD q/\aD q<4294967296:=by unfold aD;omega
 obtain⟨q1,cl⟩:=zxe (aD q);rw[cl]at dT b4 bA;obtain⟨L,bZ⟩:=zex (ef F q1 l);rw[<-bZ]at bA;have cA:Hid (∀k (hk:k<l.length),L.getD k default=(F+1+k,⟨2,q1,gE l[k]⟩)):=kD (fun k hk=>by rw[bZ];exact z5V hk)
 clear bZ cl;go_wp2_with fail
 go_loopw [9,10] (fun e9 i wr=>∃(k:Nat) (ac:Array Value),k<=l.length/\i=.int .i64 k/\e9=.int .i64 (x.puts L k).1/\RSv wr (Apt_ P w.heap.size w0.heap.size) (x.puts L k).2 ac/\Blk wr w.heap.size 34 ac/\Blk wr (w.heap.size+1) 109 #[.int .i64 F,.int .i64 Z]/\Blk wr (w.heap.size+1+1) 34 svZ/\Zr w wr/\w0.heap.size<=wr.heap.size/\RunAt wr A l) (fun _ i _=>l.length - (intOf i).toNat)
 case atStart=>exact⟨0,sv,kP _,rfl,rfl,b1,ca,cM,bq,B2,cL.out,cC.out⟩
 case round=>
  obtain⟨k,ac,hk,rfl,rfl,a8,a6,bn,bp,hB,b9,cm⟩:=hrel;obtain⟨cJ,lJ⟩:=bn.zc;have ab:=a8.size;have b5:=a8.one;have lk:=cI a6 ab;by_cases V:(x.puts L k).1=0
  rotate_left
  ·as_aux_lemma=>
   have HH:Hid (x.log F Z l=((x.puts L k).1,(x.puts L k).2)):=kD (by
    have h:=jK (l:=L) V hk;rw[bA.out,h,if_pos V])
   generalize (x.puts L k).1=E at *;generalize (x.puts L k).2=zz at *;have bW:(E==0)=false:=by simpa using V
   have cT:(E != 0)=true:=by simpa using V
   have T:=aX bp rfl ab b5;have cQ:=bp.setRow (cs':=ac);have U:=RGv.mk (R:=w.heap.size+1+1) E a8 hB (by omega) zR.out
   clear V;by_cases bM:(k:Int)<l.length
   all_goals
    go_wp2_with (first|(refine zlw lk ?_)|(refine zsb T ?_))
    refine bodyPost_ret (au (cs:=ac) rfl rfl rfl cQ underlying34 (by rw[ab];kernel_rfl)) rfl ?_
    rw[HH.out];exact U
  by_cases bM:k<l.length
  ·as_aux_lemma=>
   obtain⟨b,off,rfl,d8,c0,c1,c2⟩:=cm.at_ bM;have cD:=kD cm;obtain⟨-,cU,cW,cX,c8,cn,-⟩:=z48 (cF.out.2 k bM);have ej:(x.stable.length:Int)<=256:=by have:=b1.ok.hi;omega
   have bQ:Hid (x.puts L (k+1)=(x.puts L k).2.put (F+1+k) 2 q1 (aH l[k].at_++strOfNums [l[k].kind]++l[k].data)):=kD (by
    rw[jJ V (cA.out k bM),z8O,show l[k].kind % 256=l[k].kind by omega])
   generalize l[k]=r at *;obtain⟨av,kv,sx⟩:=r;simp only at c0 c1 c2 cU cW cX c8 cn bQ
   rw[V];generalize (x.puts L k).2=y at *;have ea:IntKind.u8.wrap kv=kv:=by rw[IntKind.wrap_u8'];omega
   have d6:(k:Int)<l.length:=by omega
   clear V;go_upto_region 11 with fail
   obtain⟨X,hX⟩:=zex (wr.alloc (.cells #[.int .i64 av,.int .i64 kv,.string sx] 118));have bX:Blk X wr.heap.size 118 #[.int .i64 av,.int .i64 kv,.string sx]:=by rw[hX];exact zbn
   have BX:Zr wr X:=by rw[hX];exact(kF _ _).alloc (kE _) _
   rw[<-hX];clear hX c0 c1 c2 cJ lJ lk;have zX:=BX.size;have cb:=a6.mD BX;have cc:=bn.mD BX;have S:∀W,Zr X W->Blk W w.heap.size 34 ac/\W.cell? ⟨w.heap.size+1,0,none⟩=some (.int .i64 F)/\W.cell? ⟨wr.heap.size,0,none⟩=some (.int .i64 av)/\W.cell? ⟨wr.heap.size,1,none⟩=some (.int .i64 kv)/\W.cell? ⟨wr.heap.size,2,none⟩=some (.string sx):=fun W hb=>by
    have c:=(bX.mD hb).cells;exact⟨cb.mD hb,((cc.mD hb).cells 0).trans rfl,(c 0).trans rfl,(c 1).trans rfl,(c 2).trans rfl⟩
   have e1:IntKind.i64.wrap (F+1)=F+1:=by rw[kW];omega
   have e2:IntKind.i64.wrap (F+1+k)=F+1+k:=by rw[kW];omega
   have bu:=fun W=>z3b av (by omega) (by omega) W
   refine dQ (Us.takes [0,1,2,3,4,5,6,7,8,10,11,12,16,17] (.fork 9 13 (.one 13 (.one 14 (Us.nG [15,18] (.one 19 (Us.nG [20,21,22] (.late 23 (.late 24 .done))))))) (.fork 9 14 (.one 14 (Us.nG [15,18] (.one 19 (Us.nG [20,21,22] (.late 23 (.late 24 .done)))))) (.one 9 (Us.nG [15,18] (.one 19 (Us.nG [20,21,22] (.late 23 (.late 24 .done))))))))) 23 (fun W=>Blk W w.heap.size 34 ac/\W.cell? ⟨w.heap.size+1,0,none⟩=some (.int .i64 F)/\W.cell? ⟨wr.heap.size,0,none⟩=some (.int .i64 av)/\W.cell? ⟨wr.heap.size,1,none⟩=some (.int .i64 kv)/\W.cell? ⟨wr.heap.size,2,none⟩=some (.string sx)) (by kernel_rfl) (by kernel_rfl) (fun _ _ _ _ _ h=>h) (S _ (kF _ _).drew) ?_
   simp only[Us.takes,Us.nG,Us.fill,kT,kV];refine dC (by rfl) (.agg ac) (fun w' b8=>cr 34 _ rfl rfl (cI b8.1 ab)) ?_
   (try simp only[Act.put,kJ,kH,kI])
   iterate 13 refine zuk ?_
   refine z3k (fun K D=>?_) (fun K D=>?_)
   focus
    go_simp;refine(bu X.drew).mono ?_;rintro e w5 ⟨rfl,J⟩;have M:Zr X w5:=(kF _ _).drew.trans J;refine D _ _ (S _ M) ?_;clear D K;have bS:Blk (w5.alloc (.cells #[.int .u8 kv] 5)) w5.heap.size 5 #[.int .u8 kv]:=Blk.new _ _ _;have I:Zr X (w5.alloc (.cells #[.int .u8 kv] 5)):=M.alloc M.size _;have br:=z6z bS;refine du (fun K D=>?_)
    go_simp;refine D _ _ (S _ I) ?_;clear D K;refine du (fun K D=>?_)
    go_simp;refine D _ _ (S _ I) ?_;clear D K br bS J M;generalize w5.alloc (.cells #[.int .u8 kv] 5)=w3 at *
   rotate_left;focus
    have bS:Blk (X.alloc (.cells #[.int .u8 kv] 5)).drew X.heap.size 5 #[.int .u8 kv]:=(Blk.new _ _ _).drew;have I:Zr X (X.alloc (.cells #[.int .u8 kv] 5)).drew:=((kF _ _).alloc (kE _) _).drew;obtain⟨X2,cg⟩:=zex ((X.alloc (.cells #[.int .u8 kv] 5)).drew);go_simp;rw[<-cg]at bS I |-;refine D _ _ (S _ I) ?_;clear D K cg;have z2:=I.size;refine z3k (fun K D=>?_) (fun K D=>?_)
    focus
     go_simp;refine(bu X2).mono ?_;rintro e w3 ⟨rfl,J⟩;have I:Zr X w3:=I.trans (J.mono z2);refine D _ _ (S _ I) ?_;clear D K;have br:=z6z (bS.mD J);refine du (fun K D=>?_)
     go_simp;refine D _ _ (S _ I) ?_;clear D K br bS J
    rotate_left;focus
     have br:=z6z bS;go_simp;refine D _ _ (S _ I) ?_;clear D K;refine du (fun K D=>?_)
     go_simp;refine(bu X2).mono ?_;rintro e w3 ⟨rfl,J⟩;have I:Zr X w3:=I.trans (J.mono z2);refine D _ _ (S _ I) ?_;clear D K br bS J
   all_goals
    have an:Zr wr w3:=BX.trans (I.mono zX);have d1:(aH av).size=2:=by show (strOfNums _).size=2;rw[strOfNums_size];rfl
    have d2:(strOfNums [kv]).size=1:=by rw[strOfNums_size];rfl
    have d3:¬9223372036854775807<(aH av).size+(strOfNums [kv]).size+sx.size:=by omega
    have d4:¬9223372036854775807<(aH av).size+(strOfNums [kv]).size:=by omega
    have cp:(aH av++strOfNums [kv]++sx).size<=maxLen:=by rw[ByteArray.size_append,ByteArray.size_append];unfold maxLen;omega
    have Y:=z9m (a8.below an) (fun b hb=>HN.out b (kO b9 (kO an.size hb))) (F+1+k) 2 q1 b4 (aH av++strOfNums [kv]++sx) cp
    rw[<-bQ.out]at Y;obtain⟨p,hp⟩:=zxe (x.puts L (k+1));rw[hp]at Y;have HP:=kD hp;clear d1 d2 cp hp bQ;iterate 2 refine zup ?_
    refine du fun K D=>?_
    go_simp;refine Y.mono ?_;rintro e w5 ⟨O,rfl,ao,J⟩;have M:Zr X w5:=I.trans (J.mono I.size);refine D _ _ (S _ M) ?_;clear D K Y d3 d4;iterate 3 refine zup ?_
    have B5:=Below.setRow (hB.trans ((an.trans (J.mono an.size)).mono hB.size)) (kE _) O;have bk:=(a6.mD an).mD J;have T:=aX bk ab ao.size ao.one;have bC:=bk.setRow (cs':=O);have cN:=((bn.mD an).mD J).mO (cs':=O) (show w.heap.size+1≠w.heap.size by omega)
    have a7:=((bp.mD an).mD J).mO (cs':=O) (show w.heap.size+1+1≠w.heap.size by omega)
    have bK:=ao.row (Apt_.ne (kE _) (by have:=zR.out;omega)) O
    have d5:w0.heap.size<=(w5.setRow w.heap.size O).heap.size:=by have h1:=J.size;have h2:=an.size;simp;omega
    have db:RunAt (w5.setRow w.heap.size O) (some ⟨b,off,none⟩) l:=Reads.frame (Reads.below (Reads.below cD.out an) J) (fun ad e hl=>ak _ _ _ _ (cz.out (by omega) _ e)) (by simp)
    refine di fun K D=>?_
    refine zob T ?_;refine D _ _ ?_;clear D K T;(try simp only[Act.put,kJ,kH,kI])
    generalize w5.setRow w.heap.size O=W6 at *;refine di fun K D=>?_
    go_simp;refine D _ _ ?_;clear D K;refine fI ?_;clear S bX cb cc a6 bn bp ao a8;go_wp2_with fail
    go_roundw
    case rel=>exact⟨k+1,O,by omega,by go_num,by rw[HP.out],by rw[HP.out];exact bK,bC,cN,a7,B5,d5,db⟩
    case measure=>simp[intOf];omega
  ·as_aux_lemma=>
   obtain rfl:k=l.length:=by omega
   have bP:Hid (x.log F Z l=DevS.done ((x.puts L l.length).2.put (F+1+l.length) 3 q1 (aH l.length))):=kD (by rw[bA.out,if_neg (by rw[V];simp)])
   rw[V];clear V;generalize (x.puts L l.length).2=y at *;have e1:IntKind.i64.wrap (F+1)=F+1:=by rw[kW];omega
   have e2:IntKind.i64.wrap (F+1+l.length)=F+1+l.length:=by rw[kW];omega
   have S:∀W,Zr wr W->Blk W w.heap.size 34 ac/\W.cell? ⟨w.heap.size+1,0,none⟩=some (.int .i64 F):=fun W hb=>⟨a6.mD hb,((bn.mD hb).cells 0).trans rfl⟩
   have ds:(aH l.length).size<=maxLen:=by
    have:(aH l.length).size=2:=by show (strOfNums _).size=2;rw[strOfNums_size];rfl
    rw[this];unfold maxLen;omega
   clear cJ lJ lk;go_upto_region 13 with fail
   refine dQ (Us.takes [0,1,2,3,4,5,6,7,8,9] (.one 10 (.one 11 (Us.nG [12,13,14] (.late 15 (.late 16 .done)))))) 15 (fun W=>Blk W w.heap.size 34 ac/\W.cell? ⟨w.heap.size+1,0,none⟩=some (.int .i64 F)) (by kernel_rfl) (by kernel_rfl) (fun _ _ _ _ _ h=>h) (S _ (kF _ _).drew) ?_
   simp only[Us.takes,Us.nG,Us.fill,kT,kV];refine dC (by rfl) (.agg ac) (fun w' b8=>cr 34 _ rfl rfl (cI b8.1 ab)) ?_
   (try simp only[Act.put,kJ,kH,kI])
   iterate 9 refine zuk ?_
   refine du fun K D=>?_
   go_simp;refine(z3b l.length (by omega) (by omega) wr.drew).mono ?_
   rintro e w3 ⟨rfl,I⟩;have a2:Zr wr w3:=(kF _ _).drew.trans I;refine D _ _ (S _ a2) ?_;clear D K;have Y:=z9m (a8.below a2) (fun b hb=>HN.out b (kO b9 (kO a2.size hb))) (F+1+l.length) 3 q1 b4 (aH l.length) ds
   obtain⟨p,hp⟩:=zxe (y.put (F+1+l.length) 3 q1 (aH l.length));rw[hp]at Y bP;clear hp;refine du fun K D=>?_
   go_simp;refine Y.mono ?_;rintro e w5 ⟨O,rfl,ao,J⟩;have M:Zr wr w5:=a2.trans (J.mono a2.size);refine D _ _ (S _ M) ?_;clear D K Y;iterate 3 refine zup ?_
   have B5:=Below.setRow (hB.trans (M.mono hB.size)) (kE _) O;have bk:=a6.mD M;have bc:=ao.size;have bt:=ao.one;have T:=aX bk ab bc bt;have bC:=bk.setRow (cs':=O);have a7:=(bp.mD M).mO (cs':=O) (show w.heap.size+1+1≠w.heap.size by omega)
   have bK:=ao.row (Apt_.ne (kE _) (by have:=zR.out;omega)) O
   have cB:Hid (∀b,(w5.setRow w.heap.size O).heap.size<=b->Apt_ P w.heap.size w0.heap.size b):=kD fun b hb=>HN.out b (kO b9 (kO M.size (by simpa using hb)))
   refine di fun K D=>?_
   refine zob T ?_;refine D _ _ ?_;clear D K T;(try simp only[Act.put,kJ,kH,kI])
   generalize w5.setRow w.heap.size O=W6 at *;refine di fun K D=>?_
   go_simp;refine D _ _ ?_;clear D K;refine fI ?_;clear S a6 bn bp ao a8 bk;have l6:=cI bC bc;by_cases V:p.1=0
   rotate_left
   ·have HH:Hid (x.log F Z l=(p.1,p.2)):=kD (by rw[bP.out,gY V])
    generalize p.1=E at *;have bW:(E != 0)=true:=by simpa using V
    have T:=aX a7 rfl bc bt;have cR:=a7.setRow (cs':=O);have U:=RGv.mk (R:=w.heap.size+1+1) E bK B5 (by omega) zR.out
    clear V;go_wp2_with (first|(refine zlw l6 ?_)|(refine zsb T ?_))
    refine bodyPost_ret (au (cs:=O) rfl rfl rfl cR underlying34 (by rw[bc];kernel_rfl)) rfl ?_
    rw[HH.out];exact U
   have HH:Hid (x.log F Z l=p.2.flush):=kD (by rw[bP.out,ga V])
   rw[V];clear V;have ci:=z36 bK cB.out;generalize p.2=z at *;go_wp2_with (refine zlw l6 ?_)
   refine ci.mono ?_;rintro e w7 ⟨cw,rfl,b6,bL⟩;have bO:=b6.size;have T:=aX (a7.mD bL) rfl bO b6.one;have cS:=(a7.mD bL).setRow (cs':=cw);have U:=RGv.mk (R:=w.heap.size+1+1) z.flush.1 b6 (B5.trans (bL.mono B5.size)) (by omega) zR.out
   clear ci l6 bC a7 bL;go_wp2_with (refine zsb T ?_)
   refine bodyPost_ret (au (cs:=cw) rfl rfl rfl cS underlying34 (by rw[bO];kernel_rfl)) rfl ?_
   rw[HH.out];exact U
def RAv (w:World)(P:Nat->Prop)(r:Int × Int × DevS)(e:Ending)(w':World):Prop:=
 ∃sv,e=.returned (.tuple #[.agg sv,.int .i64 r.1,.int .i64 r.2.1])/\RSv w' P r.2.2 sv/\Zr w w'
theorem RAv.mk {w W:World}{P:Nat->Prop}{c R:Nat}{z:DevS}{sv:Array Value}(n e:Int)(J:RSv W (Apt_ P w.heap.size c) z sv)(I:Zr w W)(A:w.heap.size<=R)(D:R<c):RAv w P (n,e,z) (.returned (.tuple #[.agg sv,.int .i64 n,.int .i64 e])) (W.setRow R sv):=
 ⟨sv,rfl,(J.row (Apt_.ne A D) sv).oD,Below.setRow I A sv⟩
theorem fb {I:Func}{m n k R:Nat}{ty t:TypeId}{tmps:Array Value}{w:World}{cs:Array Value}{J:Nat × Nat}{i e:Int}{K:_}(V:I.results=#[.cell m ty,.tmp n,.tmp k])(T:tmps.getD m undef=.pointer (some ⟨R,0,none⟩))(U:tmps.getD n undef=.int .i64 i)(S:tmps.getD k undef=.int .i64 e)
  (O:w.heap[R]?=some (.cells cs t J)) (Y:prog.underlying ty=some (.struct K)) (hi:(prog.info? ty).map (·.size)=some cs.size):
  (results I tmps).run prog w=.ok (.tuple #[.agg cs,.int .i64 i,.int .i64 e]) w:=by
 have h:=run_loadVar_row (P:=prog) w R t ty cs J _ O Y rfl hi;have M:(asAddr (.pointer (some ⟨R,0,none⟩))).run prog w=.ok ⟨R,0,none⟩ w:=rfl;have A:tmps[m]?.getD undef=.pointer (some ⟨R,0,none⟩):=by simpa using T
 have D:tmps[n]?.getD undef=.int .i64 i:=by simpa using U
 have c:tmps[k]?.getD undef=.int .i64 e:=by simpa using S
 simp[results,V,A,D,c,M,h]
theorem z8R {x:DevS}{F Z:Int}(h:(x.look F Z).1=0):(x.head F Z).1=0/\(x.head F Z).2=(x.look F Z).2.1:=by
 unfold DevS.look at h |-;by_cases c:(x.head F Z).1=0
 ·rw[if_neg (by rw[c];simp)]at h |-
  refine⟨c,?_⟩
  by_cases A:(x.mM F Z (x.head F Z).2 (Z - 1).toNat).e=0
  ·rw[if_neg (by rw[A];simp)]
  ·rw[if_pos A]at h;exact absurd h A
 ·rw[if_pos c]at h;exact absurd h c
theorem zbM {w:World}{P:Nat->Prop}{x:DevS}{sv:Array Value}(hq:RSv w P x sv)(hs:x.Calm)(hP:∀b,w.heap.size<=b->P b)(F Z:Int):
  Calls prog 110 #[.agg sv,.agg #[.int .i64 F,.int .i64 Z]] w (RAv w P (x.apply F Z)):=by
 obtain⟨w0,an⟩:=zex (((w.alloc (.cells sv 34)).alloc (.cells #[.int .i64 F,.int .i64 Z] 109)).alloc (.cells svZ 34));have bD:Blk w0 w.heap.size 34 sv:=by rw[an];exact zbn
 have bJ:Blk w0 (w.heap.size+1) 109 #[.int .i64 F,.int .i64 Z]:=by rw[an];exact zbn
 have bR:Blk w0 (w.heap.size+1+1) 34 svZ:=by rw[an];exact zbn
 have B0:Zr w w0:=by rw[an];exact zgr
 have bp:=hq.apt B0 w0.heap.size;have HN:=kD (Apt_.new hP B0.size);have bc:=hq.size;have b7:=hq.one;have zR:=kD bR.lt;have bu:=zcL bp hs F Z;have bA:=z8S x F Z;have bt:=@z8R x F Z;have cp:=z5W x F Z;have HA:Hid (x.apply F Z=if (x.look F Z).1≠0 then (0,(x.look F Z).1,x)else if (x.look F Z).2.2.2=false then (0,9,x)else
  if (x.applies (x.look F Z).2.1 (x.look F Z).2.2.1).1≠0 then (0,x.applies (x.look F Z).2.1 (x.look F Z).2.2.1)else (((x.look F Z).2.2.1.length:Int),x.applies (x.look F Z).2.1 (x.look F Z).2.2.1)):=kD rfl
 have a8:=fun (W:World) (hW:Zr w0 W)=>z68 (bp.below hW) hs F Z
 unfold gL at a8;have bG:=kD a8;generalize x.look F Z=lk at *;obtain⟨E,q,l,wh⟩:=lk;simp only at bA bt cp HA
 have cD:=bA.1;have cg:=kD bA;have HQ:=kD bp;unfold z3v at bu;simp only at bu
 clear hq bp hP bA a8;unfold svZ at an;go_enter func110,ntmps110
 go_upto_region 1 with fail
 rw[<-an];clear an;obtain⟨cJ,lJ⟩:=bJ.zc;have l0:=cI bD bc;go_wp2_with (refine zlw l0 ?_)
 refine bu.mono ?_;rintro e w1 ⟨Y,A,c,rfl,bB⟩;have B1:=B0.trans (Y.mono B0.size);have bM:=bD.mD Y;have b1:=bJ.mD Y;have bk:=bR.mD Y;have bq:=HQ.out.below Y;have bF:=kD Y;have bZ:=kD bB;clear bu bD bJ bR B0 Y cJ lJ l0 bB;have l1:=cI bM bc;have J:=aX bk rfl bc b7;have ba:=bk.setRow (cs':=sv);by_cases M:E=0
 rotate_left
 ·have HH:Hid (x.apply F Z=(0,E,x)):=kD (by rw[HA.out,if_pos M])
  have b3:(E != 0)=true:=by simpa using M
  have cm:(E==0)=false:=by simpa using M
  have I:=RAv.mk (R:=w.heap.size+1+1) 0 E bq B1 (by omega) zR.out
  clear M HA bt;go_wp2_with (first|(refine zlw l1 ?_)|(refine zsb J ?_))
  refine bodyPost_ret (fb (cs:=sv) rfl rfl rfl rfl ba underlying34 (by rw[bc];kernel_rfl)) rfl ?_
  rw[HH.out];exact I
 subst M;obtain⟨b4,b5⟩:=bt rfl;rw[b4,b5]at bG;clear b4 b5 bt;cases wh
 ·have HH:Hid (x.apply F Z=(0,9,x)):=kD (by rw[HA.out,if_neg (by simp),if_pos rfl])
  have I:=RAv.mk (R:=w.heap.size+1+1) 0 9 bq B1 (by omega) zR.out
  clear HA;go_wp2_with (first|(refine zlw l1 ?_)|(refine zsb J ?_))
  refine bodyPost_ret (fb (cs:=sv) rfl rfl rfl rfl ba underlying34 (by rw[bc];kernel_rfl)) rfl ?_
  rw[HH.out];exact I
 clear J ba;have bC:Hid (x.apply F Z=if (x.applies q l).1≠0 then (0,x.applies q l)else ((l.length:Int),x.applies q l)):=kD (by rw[HA.out,if_neg (by simp),if_neg (by simp)])
 have a8:=bG.out w1 bF.out;obtain⟨cJ,lJ⟩:=b1.zc;clear HA;go_wp2_with (refine zlw l1 ?_)
 refine a8.mono ?_;rintro e w2 ⟨rfl,ab⟩;have B2:=B1.trans (ab.mono B1.size);have ck:=bM.mD ab;have ba:=bk.mD ab;have cn:=bq.below ab;have b0:=kD (aq bZ.out ab);have ci:=kD (kO bF.out.size ab.size);clear a8 bG bM b1 bk B1 ab cJ lJ l1 bq bZ HQ bF;have cz:IntKind.u32.wrap (q+1)=aD q:=by unfold aD;rw[IntKind.wrap_u32]
 have b6:0<=aD q/\aD q<4294967296:=by unfold aD;omega
 obtain⟨q1,bW⟩:=zxe (aD q);obtain⟨L,bO⟩:=zex (ik q1 l);have bX:Hid (x.applies q l=DevS.done (x.puts L l.length)):=kD (by rw[bO,<-bW];rfl)
 rw[bW]at cz b6;have cb:Hid (∀k (hk:k<l.length),L.getD k default=(l[k].at_,⟨l[k].kind,q1,l[k].data⟩)):=kD (fun k hk=>by rw[bO];exact z5K hk)
 clear bO bW;have cc:=kD (ar (w':=w2) b0.out fun _ _=>rfl)
 clear cc;go_wp2_with fail
 go_loopw [9,12] (fun e9 i wr=>∃(k:Nat) (V:Array Value),k<=l.length/\i=.int .i64 k/\e9=.int .i64 (x.puts L k).1/\RSv wr (Apt_ P w.heap.size w0.heap.size) (x.puts L k).2 V/\Blk wr w.heap.size 34 V/\Blk wr (w.heap.size+1+1) 34 svZ/\Zr w wr/\w0.heap.size<=wr.heap.size/\wr.ownsRow w0.heap.size 118 3 (.slice A l.length c) l.length (l.flatMap bE)) (fun _ i _=>l.length - (intOf i).toNat)
 case atStart=>exact⟨0,sv,kP _,rfl,rfl,cn,ck,ba,B2,ci.out,b0.out⟩
 case round=>
  obtain⟨k,V,hk,rfl,rfl,ac,a2,a6,hB,ca,ao⟩:=hrel;have S:=ac.size;have bU:=ac.one;have lk:=cI a2 S;by_cases M:(x.puts L k).1=0
  rotate_left
  ·as_aux_lemma=>
   have HH:Hid (x.apply F Z=(0,(x.puts L k).1,(x.puts L k).2)):=kD (by
    have h:=jK (l:=L) M hk;rw[bC.out,bX.out,h,gY M,if_pos M])
   generalize (x.puts L k).1=E at *;generalize (x.puts L k).2=zz at *;have b3:(E==0)=false:=by simpa using M
   have cm:(E != 0)=true:=by simpa using M
   have J:=aX a6 rfl S bU;have cl:=a6.setRow (cs':=V);have I:=RAv.mk (R:=w.heap.size+1+1) 0 E ac hB (by omega) zR.out
   clear M;by_cases bw:(k:Int)<l.length
   all_goals
    go_wp2_with (first|(refine zlw lk ?_)|(refine zsb J ?_))
    refine bodyPost_ret (fb (cs:=V) rfl rfl rfl rfl cl underlying34 (by rw[S];kernel_rfl)) rfl ?_
    rw[HH.out];exact I
  by_cases bw:k<l.length
  ·as_aux_lemma=>
   have b8:RunAt wr A l:=eU ao (gO l);obtain⟨b,off,rfl,bQ,c0,c1,c2⟩:=b8.at_ bw;have HO:=kD ao;have b9:=(cg.out.2 _ (li bw)).2;have bL:Hid (x.puts L (k+1)=(x.puts L k).2.put l[k].at_ l[k].kind q1 l[k].data):=kD (by rw[jJ M (cb.out k bw)])
   generalize l[k]=r at *;obtain⟨av,kv,sx⟩:=r;simp only at c0 c1 c2 b9 bL
   rw[M];generalize (x.puts L k).2=y at *;have cB:(k:Int)<l.length:=by omega
   have cC:(0:Int)<=k:=by omega
   clear M ao b8;go_upto_region 10 with fail
   clear lk;have bP:∀W,Zr wr W->Blk W w.heap.size 34 V/\W.cell? ⟨b,off+k*3,none⟩=some (.int .i64 av)/\W.cell? ⟨b,off+k*3+1,none⟩=some (.int .i64 kv)/\W.cell? ⟨b,off+k*3+2,none⟩=some (.string sx):=fun W hb=>
    ⟨a2.mD hb,(hb.cell (p:=⟨b,off+k*3,none⟩) bQ).trans c0,(hb.cell (p:=⟨b,off+k*3+1,none⟩) bQ).trans c1,(hb.cell (p:=⟨b,off+k*3+2,none⟩) bQ).trans c2⟩
   have aL:=z9m (ac.below (kF wr.heap.size wr).drew) (fun b hb=>HN.out b (kO ca hb)) av kv q1 b6 sx b9
   rw[<-bL.out]at aL;obtain⟨p,hp⟩:=zxe (x.puts L (k+1));rw[hp]at aL;have HP:=kD hp;clear hp bL c0 c1 c2;refine dQ (Us.takes [0,1,2,3,4,5,6,7,8,9,10,11,12,13,14,15,16,17] (.one 18 (Us.nG [19,20,21] (.late 22 (.late 23 .done))))) 22 (fun W=>Blk W w.heap.size 34 V/\W.cell? ⟨b,off+k*3,none⟩=some (.int .i64 av)/\W.cell? ⟨b,off+k*3+1,none⟩=some (.int .i64 kv)/\W.cell? ⟨b,off+k*3+2,none⟩=some (.string sx)) (by kernel_rfl) (by kernel_rfl) (fun _ _ _ _ _ h=>h) (bP _ (kF _ _).drew) ?_
   simp only[Us.takes,Us.nG,Us.fill,kT,kV];refine dC (by rfl) (.agg V) (fun w' cw=>cr 34 _ rfl rfl (cI cw.1 S)) ?_
   (try simp only[Act.put,kJ,kH,kI])
   iterate 17 refine zuk ?_
   refine du fun K hK=>?_
   go_simp;refine aL.mono ?_;rintro e w5 ⟨D,rfl,T,a7⟩;have O:Zr wr w5:=(kF _ _).drew.trans a7;refine hK _ _ (bP _ O) ?_;clear hK K aL;iterate 3 refine zup ?_
   have B5:=Below.setRow (hB.trans (O.mono hB.size)) (kE _) D;have a1:=a2.mD O;have J:=aX a1 S T.size T.one;have bN:=a1.setRow (cs':=D);have bn:=(a6.mD O).mO (cs':=D) (show w.heap.size+1+1≠w.heap.size by omega)
   have br:=T.row (Apt_.ne (kE _) (by have:=zR.out;omega)) D
   have cA:w0.heap.size<=(w5.setRow w.heap.size D).heap.size:=by have h1:=O.size;simp;omega
   have bT:=aq HO.out O;have co:(w5.setRow w.heap.size D).ownsRow w0.heap.size 118 3 (.slice (some ⟨b,off,none⟩) l.length c) l.length (l.flatMap bE):=ar bT fun g hg=>ak _ _ _ _ (by have:=(bT.lt g hg).1;have:=zR.out;omega)
   refine di fun K hK=>?_
   refine zob J ?_;refine hK _ _ ?_;clear hK K J bT;(try simp only[Act.put,kJ,kH,kI])
   generalize w5.setRow w.heap.size D=W6 at *;refine di fun K hK=>?_
   go_simp;refine hK _ _ ?_;clear hK K;refine fI ?_;clear bP a2 a6 T ac;go_wp2_with fail
   go_roundw
   case rel=>exact⟨k+1,D,by omega,by go_num,by rw[HP.out],by rw[HP.out];exact br,bN,bn,B5,cA,co⟩
   case measure=>simp[intOf];omega
  ·as_aux_lemma=>
   obtain rfl:k=l.length:=by omega
   have bK:Hid (x.applies q l=(x.puts L l.length).2.flush):=kD (by rw[bX.out,ga M])
   rw[M];clear M ao;generalize (x.puts L l.length).2=y at *;have bS:=z36 ac (fun b hb=>HN.out b (kO ca hb))
   obtain⟨p,hp⟩:=zxe y.flush;rw[hp]at bS bK;clear hp;go_wp2_with (refine zlw lk ?_)
   refine bS.mono ?_;rintro e w5 ⟨D,rfl,T,a7⟩;have U:=T.size;have bb:=T.one;have B5:=Below.setRow (hB.trans (a7.mono hB.size)) (kE _) D;have a1:=a2.mD a7;have J:=aX a1 S U bb;have bN:=a1.setRow (cs':=D);have bn:=(a6.mD a7).mO (cs':=D) (show w.heap.size+1+1≠w.heap.size by omega)
   have br:=T.row (Apt_.ne (kE _) (by have:=zR.out;omega)) D
   clear bS lk a2 a6 a7 T a1 ac;go_upto_region 13 with (refine zsb J ?_)
   generalize w5.setRow w.heap.size D=W6 at *;clear J;have l6:=cI bN U;have J:=aX bn rfl U bb;have b2:=bn.setRow (cs':=D);by_cases M:p.1=0
   rotate_left
   ·have HH:Hid (x.apply F Z=(0,p.1,p.2)):=kD (by rw[bC.out,bK.out,if_pos M])
    generalize p.1=E at *;generalize p.2=zz at *;have b3:(E != 0)=true:=by simpa using M
    have I:=RAv.mk (R:=w.heap.size+1+1) 0 E br B5 (by omega) zR.out
    clear M;go_wp2_with (first|(refine zlw l6 ?_)|(refine zsb J ?_))
    refine bodyPost_ret (fb (cs:=D) rfl rfl rfl rfl b2 underlying34 (by rw[U];kernel_rfl)) rfl ?_
    rw[HH.out];exact I
   ·have HH:Hid (x.apply F Z=((l.length:Int),0,p.2)):=kD (by rw[bC.out,bK.out,if_neg (by rw[M];simp),<-M])
    rw[M];clear M;generalize p.2=zz at *;have I:=RAv.mk (R:=w.heap.size+1+1) l.length 0 br B5 (by omega) zR.out
    go_wp2_with (first|(refine zlw l6 ?_)|(refine zsb J ?_))
    refine bodyPost_ret (fb (cs:=D) rfl rfl rfl rfl b2 underlying34 (by rw[U];kernel_rfl)) rfl ?_
    rw[HH.out];exact I
theorem z3P {p:Int × DevS}(h:(DevS.done p).1=0):(DevS.done p).2.cache=[]:=by
 unfold DevS.done at h |-;by_cases c:p.1=0
 ·rw[if_neg (by rw[c];simp)]at h |-
  unfold DevS.flush at h |-;simp only at h |-
  cases ho:p.2.off
  ·rw[if_neg (by simp)];rfl
  ·rw[ho]at h;exact absurd (show (13:Int)=0 from h) (by decide)
 ·rw[if_pos c]at h;exact absurd h c
theorem zal {x:DevS}{F Z:Int}{l:List Rec}(h:(x.log F Z l).1=0):(x.log F Z l).2.cache=[]:=by
 unfold DevS.log at h |-;split
 ·rename_i c;rw[if_pos c]at h;exact absurd h c
 ·rename_i c
  rw[if_neg c]at h;split
  ·rename_i A;rw[if_pos A]at h;exact absurd h A
  ·rename_i A
   rw[if_neg A]at h;split
   ·rename_i D;rw[if_pos D]at h;exact absurd h D
   ·rename_i D;rw[if_neg D]at h;exact z3P h
theorem z6p {x:DevS}{F Z:Int}(h:(x.apply F Z).2.1=0):(x.apply F Z).2.2.cache=[]:=by
 unfold DevS.apply at h |-;split
 ·rename_i c;rw[if_pos c]at h;exact absurd h c
 ·rename_i c
  rw[if_neg c]at h;split
  ·rename_i D;rw[if_pos D]at h;exact absurd (show (9:Int)=0 from h) (by decide)
  ·rename_i D
   rw[if_neg D]at h;split
   ·rename_i A;rw[if_pos A]at h;exact absurd h A
   ·rename_i A;rw[if_neg A]at h;exact z3P h
theorem z30 {w:World}{P:Nat->Prop}{x:DevS}{sv:Array Value}(hq:RSv w P x sv)(hs:x.Calm)(hP:∀b,w.heap.size<=b->P b)(F Z:Int)(A:Option Addr)(c:Nat)(l:List Rec)(bO:l.length<=c)(bP:gv l)(hr:RunAt w A l):
  Calls prog 47 #[.agg sv,.agg #[.int .i64 F,.int .i64 Z],.slice A l.length c] w (RGv w P (x.ny F Z l)):=by
 obtain⟨w0,Y⟩:=zex (((w.alloc (.cells sv 34)).alloc (.cells #[.int .i64 F,.int .i64 Z] 109)).alloc (.cells svZ 34));have bD:Blk w0 w.heap.size 34 sv:=by rw[Y];exact zbn
 have bJ:Blk w0 (w.heap.size+1) 109 #[.int .i64 F,.int .i64 Z]:=by rw[Y];exact zbn
 have bR:Blk w0 (w.heap.size+1+1) 34 svZ:=by rw[Y];exact zbn
 have B0:Zr w w0:=by rw[Y];exact zgr
 have bt:=hq.apt B0 w0.heap.size;have HN:=kD (Apt_.new hP B0.size);have bA:=hq.size;have zR:=kD bR.lt;have bk:=zdb bt hs HN.out F Z A c l bO bP (Reads.below hr B0);have HC:Hid (x.ny F Z l=if (x.log F Z l).1≠0 then x.log F Z l else
  if ((x.log F Z l).2.apply F Z).2.1≠0 then ((x.log F Z l).2.apply F Z).2 else ((x.log F Z l).2.apply F Z).2.2.clear F Z):=kD rfl
 have J:=@zal x F Z l;obtain⟨p,hp⟩:=zxe (x.log F Z l);rw[hp]at bk HC J;clear hp hq bt hP hr;unfold svZ at Y;go_enter func47,ntmps47
 go_upto_region 1 with fail
 rw[<-Y];clear Y;obtain⟨cJ,lJ⟩:=bJ.zc;have l0:=cI bD bA;go_wp2_with (refine zlw l0 ?_)
 refine bk.mono ?_;rintro e w1 ⟨K,rfl,a6,U⟩;have S:=a6.size;have ao:=a6.one;have I:=aX (bD.mD U) bA S ao;have aL:=(bD.mD U).setRow (cs':=K);have ba:=(bJ.mD U).mO (cs':=K) (show w.heap.size+1≠w.heap.size by omega)
 have a1:=(bR.mD U).mO (cs':=K) (show w.heap.size+1+1≠w.heap.size by omega)
 have bb:=a6.row (Apt_.ne (kE _) (by have:=zR.out;omega)) K
 have B2:=Below.setRow (B0.trans (U.mono B0.size)) (kE _) K;have bB:w0.heap.size<=(w1.setRow w.heap.size K).heap.size:=by have:=U.size;simp;omega
 have bp:=kD bB;clear bk l0 bD bJ bR B0 U a6 cJ lJ bB;go_upto_region 2 with (refine zsb I ?_)
 generalize w1.setRow w.heap.size K=W2 at *;clear I;have l2:=cI aL S;by_cases T:p.1=0
 rotate_left
 ·have HH:Hid (x.ny F Z l=(p.1,p.2)):=kD (by rw[HC.out,if_pos T])
  clear HC J;generalize p.1=E at *;generalize p.2=zz at *;have bN:(E != 0)=true:=by simpa using T
  have I:=aX a1 rfl S ao;have bK:=a1.setRow (cs':=K);have O:=RGv.mk (R:=w.heap.size+1+1) E bb B2 (by omega) zR.out
  clear T;go_wp2_with (first|(refine zlw l2 ?_)|(refine zsb I ?_))
  refine bodyPost_ret (au (cs:=K) rfl rfl rfl bK underlying34 (by rw[S];kernel_rfl)) rfl ?_
  rw[HH.out];exact O
 have D:=J T;have ac:Hid (x.ny F Z l=if (p.2.apply F Z).2.1≠0 then (p.2.apply F Z).2 else (p.2.apply F Z).2.2.clear F Z):=kD (by rw[HC.out,if_neg (by rw[T];simp)])
 rw[T];clear T HC J;generalize p.2=y at *;have bc:=zbM bb (.inl D) (fun b hb=>HN.out b (kO bp.out hb)) F Z
 have J:=@z6p y F Z;obtain⟨r,hr⟩:=zxe (y.apply F Z);rw[hr]at bc ac J;obtain⟨cJ,lJ⟩:=ba.zc;clear hr D;go_wp2_with (refine zlw l2 ?_)
 refine bc.mono ?_;rintro e w3 ⟨M,rfl,a7,V⟩;have ab:=a7.size;have av:=a7.one;have I:=aX (aL.mD V) S ab av;have bq:=(aL.mD V).setRow (cs':=M);have br:=(ba.mD V).mO (cs':=M) (show w.heap.size+1≠w.heap.size by omega)
 have an:=(a1.mD V).mO (cs':=M) (show w.heap.size+1+1≠w.heap.size by omega)
 have bu:=a7.row (Apt_.ne (kE _) (by have:=zR.out;omega)) M
 have B4:=Below.setRow (B2.trans (V.mono B2.size)) (kE _) M;have bG:Hid (w0.heap.size<=(w3.setRow w.heap.size M).heap.size):=kD (by have h1:=V.size;have h2:=bp.out;simp;omega)
 clear bc l2 aL ba a1 B2 V a7 bb cJ lJ;go_upto_region 5 with (refine zsb I ?_)
 generalize w3.setRow w.heap.size M=W4 at *;clear I;have l4:=cI bq ab;by_cases T:r.2.1=0
 rotate_left
 ·have HH:Hid (x.ny F Z l=(r.2.1,r.2.2)):=kD (by rw[ac.out,if_pos T])
  clear ac J;generalize r.2.1=E at *;generalize r.2.2=zz at *;have bN:(E != 0)=true:=by simpa using T
  have I:=aX an rfl ab av;have bL:=an.setRow (cs':=M);have O:=RGv.mk (R:=w.heap.size+1+1) E bu B4 (by omega) zR.out
  clear T;go_wp2_with (first|(refine zlw l4 ?_)|(refine zsb I ?_))
  refine bodyPost_ret (au (cs:=M) rfl rfl rfl bL underlying34 (by rw[ab];kernel_rfl)) rfl ?_
  rw[HH.out];exact O
 have D:=J T;have bF:Hid (x.ny F Z l=r.2.2.clear F Z):=kD (by rw[ac.out,if_neg (by rw[T];simp)])
 rw[T];clear T ac J;generalize r.2.2=z at *;have bw:=zbQ bu (.inl D) (fun b hb=>HN.out b (kO bG.out hb)) F Z
 obtain⟨cJ,lJ⟩:=br.zc;clear D;go_wp2_with (refine zlw l4 ?_)
 refine bw.mono ?_;rintro e w5 ⟨bC,rfl,bn,a2⟩;have a8:=bn.size;have I:=aX (an.mD a2) rfl a8 bn.one;have bM:=(an.mD a2).setRow (cs':=bC);have O:=RGv.mk (R:=w.heap.size+1+1) (z.clear F Z).1 bn (B4.trans (a2.mono B4.size)) (by omega) zR.out
 clear bw l4 bq br an a2 cJ lJ;go_wp2_with (refine zsb I ?_)
 refine bodyPost_ret (au (cs:=bC) rfl rfl rfl bM underlying34 (by rw[a8];kernel_rfl)) rfl ?_
 rw[bF.out];exact O
def zcO (p:Int × Fr):Int × List Int:=(p.1,cq p.1 p.2.kind p.2.seq p.2.data)
structure FitP (n:Nat)(p:Int × Fr):Prop where
 at_:0<=p.1/\p.1<n
 kind:1<=p.2.kind/\p.2.kind<=255
 data:p.2.data.size<=112
 seq:0<=p.2.seq/\p.2.seq<4294967296
structure Went (x z:DevS)(ws:List (Int × List Int))(E:Int)(k m:Nat):Prop where
 sta:z.stable=x.stable
 cac:z.cache=x.cache++ws.take k
 end_ : (E = 0 /\ k = m /\ z.off = false) \/ (E = 13 /\ z.off = true)
theorem zbL {x:DevS}(ok:x.Ok)(c:x.off=false)(D:x.cache.length<400){p:Int × Fr}(A:FitP x.stable.length p):
  ((x.put p.1 p.2.kind p.2.seq p.2.data).1=0/\(x.put p.1 p.2.kind p.2.seq p.2.data).2.stable=x.stable/\(x.put p.1 p.2.kind p.2.seq p.2.data).2.cache=x.cache++[zcO p]/\(x.put p.1 p.2.kind p.2.seq p.2.data).2.off=false) \/
  ((x.put p.1 p.2.kind p.2.seq p.2.data).1=13/\(x.put p.1 p.2.kind p.2.seq p.2.data).2={ x with off:=true }):=by
 have I:bY p.1 p.2.kind p.2.data.size=0:=z0E (by have:=ok.hi;have:=A.at_;omega) A.kind A.data
 unfold DevS.put;rw[if_pos I];unfold DevS.write;rw[if_neg (by rw[kc c A.at_];simp)]
 by_cases h:x.power=0\/x.taken=1000000000000
 ·rw[if_pos h];exact .inr ⟨rfl,rfl⟩
 ·rw[if_neg h];have J:x.room=x:=by unfold DevS.room;rw[if_neg (by omega)]
  rw[J];exact .inl ⟨rfl,rfl,rfl,c⟩
theorem zcG {x:DevS}(ok:x.Ok){p:Int × Fr}(c:FitP x.stable.length p):(x.put p.1 p.2.kind p.2.seq p.2.data).2.Ok:=by
 have A:bY p.1 p.2.kind p.2.data.size=0:=z0E (by have:=ok.hi;have:=c.at_;omega) c.kind c.data
 unfold DevS.put;rw[if_pos A];exact ok.write _ ⟨dP p.1 p.2.kind p.2.seq p.2.data c.data,gp p.2.seq A⟩
def DevS.nN (x:DevS)(keep:List Nat):DevS:={ x with stable:=dt x.stable (keep.map fun i=>x.cache.getD i (0,[])),cache:=[],power:=-1,off:=false }
def LogTo (z:DevS)(F q:Int)(l:List Rec)(j:Nat):Prop:=∀k,(hk:k<l.length)->k<j->z.ge (F+1+k)=0/\z.fr (F+1+k)=⟨2,aD q,gE l[k]⟩
structure Mixed (z:DevS)(F Z q:Int)(l:List Rec):Prop where
 head:HeadAt z F q
 body:∀b:Int,F+1<=b->b<F+Z->dI (z.ge b)=false/\(¬(z.ge b=0/\(z.fr b).seq=aD q)\/(∃k,∃hk:k<l.length,b=F+1+k/\z.ge b=0/\z.fr b=⟨2,aD q,gE l[k]⟩)\/(b=F+1+l.length/\z.ge b=0/\z.fr b=⟨3,aD q,aH l.length⟩))
def z8M (F q:Int)(l:List Rec):List (Int × Fr):=ef F (aD q) l++[(F+1+l.length,⟨3,aD q,aH l.length⟩)]
theorem z6X {F q:Int}{l:List Rec}{p:Int × Fr}(h:p∈z8M F q l):(∃k,∃c:k<l.length,p=(F+1+k,⟨2,aD q,gE l[k]⟩))\/p=(F+1+l.length,⟨3,aD q,aH l.length⟩):=by
 rcases lE.1 h with h|h
 ·exact .inl (z2L h)
 ·exact .inr (by simpa using h)
theorem z6W {n:Nat}{F Z q:Int}{l:List Rec}(D:aO F Z=0)(M:F+Z<=n)(A:ValidL n F Z l):∀p∈z8M F q l,FitP n p/\F+1<=p.1/\p.1<F+Z:=fun p J=>by
 have S:=dK D;have c:=iE q;have O:(l.length:Int)<=Z - 2:=by have:=A.len;unfold cj at this;omega
 rcases z6X J with ⟨k,I,rfl⟩|rfl
 ·have K:=A.rec_ k I;refine⟨⟨⟨by show 0<=F+1+(k:Int);omega,by show F+1+(k:Int)<_;omega⟩,⟨by show (1:Int)<=2;omega,by show (2:Int)<=255;omega⟩,?_,c⟩,by show F+1<=F+1+(k:Int);omega,by show F+1+(k:Int)<F+Z;omega⟩
  show (gE l[k]).size<=112
  rw[jC];omega
 ·refine⟨⟨⟨by show 0<=F+1+(l.length:Int);omega,by show F+1+(l.length:Int)<_;omega⟩,⟨by show (1:Int)<=3;omega,by show (3:Int)<=255;omega⟩,?_,c⟩,by show F+1<=F+1+(l.length:Int);omega,by show F+1+(l.length:Int)<F+Z;omega⟩
  show (aH l.length).size<=112
  unfold aH jS;rw[strOfNums_size];simp
structure Rest (x:DevS)(F Z q:Int):Prop where
 ok:x.Ok
 cache:x.cache=[]
 on:x.off=false
 head:HeadAt x F q
 num:0<=q/\q<4294967290
 old:∀b:Int,F+1<=b->b<F+Z->dI (x.ge b)=false/\(x.ge b=0->(x.fr b).seq<=q)
def OutJ (F Z n b:Int):Prop:=0<=b/\b<n/\(b<F\/F+Z<=b)
structure Half (x0 z:DevS)(F Z q:Int)(l:List Rec):Prop where
 size:z.stable.length=x0.stable.length
 far:∀b:Int,OutJ F Z x0.stable.length b->b∉l.map (·.at_)->sameFr x0 z b
 mid:∀r∈l,sameFr x0 z r.at_\/(z.ge r.at_=0/\z.fr r.at_=⟨r.kind,aD q,r.data⟩)
structure Full (x0 z:DevS)(F Z q:Int)(l:List Rec):Prop where
 size:z.stable.length=x0.stable.length
 far:∀b:Int,OutJ F Z x0.stable.length b->b∉l.map (·.at_)->sameFr x0 z b
 new:∀r∈l,z.ge r.at_=0/\z.fr r.at_=⟨r.kind,aD q,r.data⟩
end Go.Proofs.YtejmknghkbobnaaGreatDoor
