import Derived.Test.YtejmknghkbobnaaGreatDoorPart26
set_option linter.all false
set_option maxRecDepth 100000
set_option maxHeartbeats 0
namespace Go.Proofs.YtejmknghkbobnaaGreatDoor
open Go.Proofs.Tryz
open Go.RowKit Go.Maps
theorem RSv.zero {w:World}{P:Nat->Prop}{x:DevS}{sv:Array Value}(h:RSv w P x sv):∃A c,sv[0]?=some (.slice A x.stable.length c):=by
 obtain⟨A,c,C,d,rfl,h⟩:=h;exact⟨A,c,rfl⟩
theorem RunAt.take {w:World}{A:Option Addr}{l:List Rec}(h:RunAt w A l)(k:Nat):RunAt w A (l.take k):=by
 rcases h with h|⟨b,off,I,c,J⟩
 ·left
  have:l=[]:=by
   cases l with
   | nil=>rfl
   | cons r t=>simp[bE]at h
  subst this;simp
 ·refine .inr ⟨b,off,I,c,fun j u D=>J j u ?_⟩
  have e:l.flatMap bE=(l.take k).flatMap bE++(l.drop k).flatMap bE:=by rw[<-List.flatMap_append,List.take_append_drop]
  rw[e,mc (mf.1 D).1];exact D
theorem zc6 {w:World}{P:Nat->Prop}{x:DevS}{sv:Array Value}(hq:RSv w P x sv)(F Z:Int)(bB:0<=F/\F<=256/\0<=Z/\Z<=256)(A:Option Addr)(c:Nat)(l:List Rec)(bS:l.length<=c)(a7:gv l)(hr:RunAt w A l):
  Calls prog 181 #[.agg sv,.agg #[.int .i64 F,.int .i64 Z],.slice A l.length c] w (Zq (.int .i64 (cV x.stable.length F Z l)) w):=by
 have bN:=hq.ok.hi;have bQ:=a7.1;obtain⟨A9,c9,bL⟩:=hq.zero;obtain⟨w0,ao⟩:=zex ((w.alloc (.cells sv 34)).alloc (.cells #[.int .i64 F,.int .i64 Z] 109));have bD:Blk w0 w.heap.size 34 sv:=by rw[ao];exact zbn
 have bJ:Blk w0 (w.heap.size+1) 109 #[.int .i64 F,.int .i64 Z]:=by rw[ao];exact zbn
 have B0:Zr w w0:=by rw[ao];exact zgr
 have bc:=z1t F Z (by omega) w0
 have bT:cj Z<=80:=by unfold cj;omega
 clear hq;go_enter func181,ntmps181
 go_upto_region 1 with fail
 rw[<-ao];clear ao;obtain⟨cJ,lJ⟩:=bJ.zc;go_wp2_with fail
 refine bc.mono ?_;rintro e w1 ⟨rfl,aL⟩;have bq:=bD.mD aL;have bt:=bJ.mD aL;have B1:=B0.trans (aL.mono B0.size);clear bc aL bJ bD cJ lJ B0;by_cases hm:cj Z<l.length
 ·have HE:Hid (cV x.stable.length F Z l=12):=kD (by unfold cV;rw[if_pos hm])
  go_wp2_with fail
  go_ret
  exact⟨by rw[HE.out];rfl,B1⟩
 have HE:Hid (cV x.stable.length F Z l=cd x.stable.length F Z l l.length):=kD (by unfold cV;rw[if_neg hm])
 go_wp2_with fail
 clear hm;go_loopw [7] (fun q wr=>∃k:Nat,k<=l.length/\q=.int .i64 k/\cd x.stable.length F Z l k=0/\Blk wr w.heap.size 34 sv/\Blk wr (w.heap.size+1) 109 #[.int .i64 F,.int .i64 Z]/\Zr w wr) (fun q _=>l.length - (intOf q).toNat)
 case atStart=>exact⟨0,kP _,rfl,rfl,bq,bt,B1⟩
 case round=>
  obtain⟨k,hk,rfl,hv,ba,a6,hB⟩:=hrel;by_cases a1:k<l.length
  ·obtain⟨b,off,rfl,bM,c0,c1,c2⟩:=RunAt.at_ (Reads.below hr hB) a1;have bn:=kD (RunAt.take hr k);have a8:=z08 hv a1;have bG:=(a7.2 _ (li a1)).1;have bk:=(a7.2 _ (li a1)).2;unfold maxLen at bk;have Y:Hid (cd x.stable.length F Z l (k+1)≠0->cd x.stable.length F Z l l.length=cd x.stable.length F Z l (k+1)):=kD (fun bF=>z09 bF (by omega))
   rw[a8]at Y;have bp:=kD a8;clear a8;generalize l[k]=r at *;obtain⟨D,K,U⟩:=r;simp only at c0 c1 c2 bG bk
   have M:=z1s F Z D bB (wr.alloc (.cells #[.int .i64 D,.int .i64 K,.string U] 118));have J:Hid (im x.stable.length F Z (l.take k) ⟨D,K,U⟩=if F<=D/\D<F+Z then 2 else if D<0\/(x.stable.length:Int)<=D\/K<1\/255<K then 7 else if 96<U.size then 3 else if D∈(l.take k).map (·.at_)then 8 else 0):=kD rfl
   have HV:=kD hv;clear hv;have bb:Blk (wr.alloc (.cells #[.int .i64 D,.int .i64 K,.string U] 118)) wr.heap.size 118 #[.int .i64 D,.int .i64 K,.string U]:=Blk.new _ _ _;have zr:=hB.size;obtain⟨cJ,lJ⟩:=a6.zc;go_wp2_with fail
   refine M.mono ?_;rintro e w4 ⟨rfl,ab⟩;have bR:=bb.mD ab;have bu:=(a6.alloc (.cells #[.int .i64 D,.int .i64 K,.string U] 118)).mD ab;have a2:=(ba.alloc (.cells #[.int .i64 D,.int .i64 K,.string U] 118)).mD ab;have V:Zr w w4:=(hB.alloc zr _).trans (ab.mono (by simp;omega))
   clear ab M bb c0 c1 c2 cJ lJ a6 ba hB;obtain⟨cR,lR⟩:=bR.zc;have cD:w4.cell? ⟨w.heap.size,0,none⟩=some (.slice A9 x.stable.length c9):=(a2.cells 0).trans bL;have lD:=a2.lt;by_cases M:F<=D/\D<F+Z
   ·have an:cx F Z D=true:=by unfold cx;simp;exact M
    have I:Hid (im x.stable.length F Z (l.take k) ⟨D,K,U⟩=2):=kD (by rw[J.out,if_pos M])
    rw[an];clear M an;go_wp2_with fail
    go_ret
    exact⟨by rw[HE.out,Y.out (by rw[I.out];decide),I.out];rfl,V⟩
   have an:cx F Z D=false:=by unfold cx;simp;omega
   rw[an];have O:=J.out;rw[if_neg M]at O;have J:=kD O;clear O M an;by_cases hb:D<0\/(x.stable.length:Int)<=D\/K<1\/255<K
   ·have I:Hid (im x.stable.length F Z (l.take k) ⟨D,K,U⟩=7):=kD (by rw[J.out,if_pos hb])
    by_cases b1:D<0
    rotate_left;by_cases b2:(x.stable.length:Int)<=D
    rotate_left;by_cases b3:K<1
    rotate_left;by_cases b4:255<K
    rotate_left
    ·exfalso;omega
    all_goals
     clear hb;go_wp2_with fail
     go_ret
     exact⟨by rw[HE.out,Y.out (by rw[I.out];decide),I.out];rfl,V⟩
   ·have O:=J.out;rw[if_neg hb]at O;have J:=kD O;clear O;have d1:¬D<0:=by omega
    have d2:¬(x.stable.length:Int)<=D:=by omega
    have d3:¬K<1:=by omega
    have d4:¬255<K:=by omega
    clear hb;by_cases hs:96<U.size
    ·have I:Hid (im x.stable.length F Z (l.take k) ⟨D,K,U⟩=3):=kD (by rw[J.out,if_pos hs])
     have bK:(96:Int)<U.size:=by omega
     go_wp2_with fail
     go_ret
     exact⟨by rw[HE.out,Y.out (by rw[I.out];decide),I.out];rfl,V⟩
    have bK:(U.size:Int)<=96:=by omega
    have bU:¬(96:Int)<U.size:=by omega
    have bP:(k:Int)<=c:=by omega
    have bO:(k:Int)<=l.length:=by omega
    have bC:(l.take k).length=k:=by rw[kX];omega
    have ac:=fun (m:Nat)=>z67 (some ⟨b,off,none⟩) c (l.take k) (by omega) D (w4.drewN m) (Reads.below bn.out (aa V m))
    rw[bC]at ac;by_cases hm:D∈(l.take k).map (·.at_)
    ·have I:Hid (im x.stable.length F Z (l.take k) ⟨D,K,U⟩=8):=kD (by rw[J.out,if_neg hs,if_pos hm])
     rw[decide_eq_true hm]at ac;clear hm hs;go_wp2_with fail
     go_quiet ((go_at_call 194;exact Calls.quiet_of_same (ac _)))
     go_wp2_with fail
     go_ret
     exact⟨by rw[HE.out,Y.out (by rw[I.out];decide),I.out];rfl,aa V _⟩
    ·have I:Hid (cd x.stable.length F Z l (k+1)=0):=kD (by rw[bp.out,J.out,if_neg hs,if_neg hm])
     rw[decide_eq_false hm]at ac;clear hm hs;go_wp2_with fail
     go_quiet ((go_at_call 194;exact Calls.quiet_of_same (ac _)))
     have bw:Blk (w4.drewN nq) (w.heap.size+1) 109 #[.int .i64 F,.int .i64 Z]:=bu;have br:Blk (w4.drewN nq) w.heap.size 34 sv:=a2;have bA:=aa V nq;go_wp2_with fail
     go_roundw
     case rel=>exact⟨k+1,by omega,by go_num,I.out,br,bw,bA⟩
     case measure=>simp[intOf];omega
  ·obtain rfl:k=l.length:=by omega
   have HV:=kD hv;clear hv;go_wp2_with fail
   go_ret
   exact⟨by rw[HE.out,HV.out];rfl,hB⟩
def z3v (r:Int × Int × List Rec × Bool)(w:World)(e:Ending)(w':World):Prop:=
 Zr w w'/\∃A c,e=.returned (.tuple #[.slice A r.2.2.1.length c,.bool r.2.2.2,.int .i64 r.1])/\w'.ownsRow w.heap.size 118 3 (.slice A r.2.2.1.length c) r.2.2.1.length (r.2.2.1.flatMap bE)
theorem z65 (r:Rec):∀u∈bE r,u.oneCell'=true:=by intro u c;simp[bE]at c;rcases c with rfl|rfl|rfl<;>rfl
theorem gO (l:List Rec):(l.flatMap bE).length=l.length*3:=by
 induction l with
 | nil=>rfl
 | cons r t ih=>rw[m9,kY,ih,lr,z5h];omega
theorem z6v {E:Int}(h:dI E=true):E≠0:=by rintro rfl;exact absurd h (by decide)
theorem z51 {n F Z q E:Int}{f:Fr}{R:List Rec}(h:¬(E=0/\f.seq=aD q)):eR n F Z q E f R=true/\eC q E f R=false:=by
 have e:(E==0&&f.seq==aD q)=false:=by
  rw[Bool.and_eq_false_iff];by_cases c:E=0
  ·exact .inr (by simpa using fun A=>h ⟨c,A⟩)
  ·exact .inl (by simpa using c)
 unfold eR eC;rw[e];simp
theorem z3Y {n F Z q:Int}{f:Fr}{R:List Rec}(h:f.seq=aD q):eR n F Z q 0 f R=(!dp n F Z f||decide ((aB f).at_∈R.map (·.at_))||decide ((R.length:Int)=cj Z))/\eC q 0 f R=(f.kind==3&&decide (f.data=aH R.length)):=by
 unfold eR eC;have e:((0:Int)==0&&f.seq==aD q)=true:=by simp[h]
 rw[e];simp
theorem zcL {w:World}{P:Nat->Prop}{x:DevS}{sv:Array Value}(hq:RSv w P x sv)(hs:x.Calm)(F Z:Int):
  Calls prog 130 #[.agg sv,.agg #[.int .i64 F,.int .i64 Z]] w (z3v (x.look F Z) w):=by
 have fl:=hq.ok.hi;have db:=hq.size;obtain⟨A9,c9,eN⟩:=hq.zero;obtain⟨w0,bw⟩:=zex ((w.alloc (.cells sv 34)).alloc (.cells #[.int .i64 F,.int .i64 Z] 109));have bD:Blk w0 w.heap.size 34 sv:=by rw[bw];exact zbn
 have bJ:Blk w0 (w.heap.size+1) 109 #[.int .i64 F,.int .i64 Z]:=by rw[bw];exact zbn
 have B0:Zr w w0:=by rw[bw];exact zgr
 have U:=kD B0.size;have cQ:=kD (show w.heap.size+1<w0.heap.size from bJ.lt)
 have b6:=z68 (hq.below B0) hs F Z;unfold gL at b6;have HG:Hid (∀(a:Int) (W:World),Zr w W->Calls prog 132 #[.agg sv,.int .i64 a] W (gj x a W)):=kD fun a W hW=>zbX (hq.below hW) hs a
 have HL:Hid (x.look F Z=if (x.head F Z).1≠0 then ((x.head F Z).1,0,[],false)else if (x.mM F Z (x.head F Z).2 (Z - 1).toNat).e≠0 then ((x.mM F Z (x.head F Z).2 (Z - 1).toNat).e,0,[],false)else (0,(x.head F Z).2,(x.mM F Z (x.head F Z).2 (Z - 1).toNat).run,(x.mM F Z (x.head F Z).2 (Z - 1).toNat).whole)):=kD rfl
 have b5:=@i7 x F Z;have ez:=iC x F Z;clear hq;go_enter func130,ntmps130
 go_upto_region 1 with fail
 rw[<-bw];clear bw;obtain⟨cJ,lJ⟩:=bJ.zc;have l0:=cI bD db;go_wp2_with (refine zlw l0 ?_)
 refine b6.mono ?_;rintro e w1 ⟨rfl,bp⟩;have ej:=bD.mD bp;have en:=bJ.mD bp;have B1:=B0.trans (bp.mono B0.size);have d4:=kD bp.size;clear b6 bp bJ bD cJ lJ l0 B0;by_cases hE:(x.head F Z).1=0
 rotate_left
 ·have V:Hid (x.look F Z=((x.head F Z).1,0,[],false)):=kD (by rw[HL.out,if_pos hE])
  clear HL b5 ez;generalize (x.head F Z).1=E at *;generalize (x.head F Z).2=q at *;have e6:(E != 0)=true:=by simpa using hE
  clear hE;go_wp2_with fail
  refine bodyPost_ret (v:=.tuple #[.slice none 0 0,.bool false,.int .i64 E]) (by simp[results,results130,go_sem]) rfl ?_
  rw[V.out];exact⟨B1,none,0,rfl,World.ownsRow_nil _ _ _ _⟩
 have e7:=b5 hE;have bB:Hid (x.look F Z=if (x.mM F Z (x.head F Z).2 (Z - 1).toNat).e≠0 then ((x.mM F Z (x.head F Z).2 (Z - 1).toNat).e,0,[],false)else (0,(x.head F Z).2,(x.mM F Z (x.head F Z).2 (Z - 1).toNat).run,(x.mM F Z (x.head F Z).2 (Z - 1).toNat).whole)):=kD (by rw[HL.out,if_neg (by rw[hE];simp)])
 rw[hE];clear hE HL b5;obtain⟨z,rfl⟩:=lz (show 0<=Z by omega)
 rw[show (((z:Int) - 1).toNat)=z - 1 by omega]at bB
 generalize (x.head F (z:Int)).2=q at *;have ex:IntKind.u32.wrap (q+1)=aD q:=by unfold aD;rw[IntKind.wrap_u32]
 have ca:Hid (0<=F/\F<=256/\0<=(z:Int)/\(z:Int)<=256):=kD (by omega)
 have ev:(0:Int)<=cj z:=by unfold cj;omega
 have fo:cj z<=80:=by unfold cj;omega
 have bn:Hid (∀(k:Nat) (L:Look),k<=z - 1->x.mM F z q k=L->L.stop=true->L.e=0->x.look F z=(0,q,L.run,L.whole)):=kD fun k L hk h1 h2 h3=>by
  have h4:x.mM F z q (z - 1)=L:=by rw[jD (by rw[h1];exact h2) hk,h1]
  rw[bB.out,h4,if_neg (by rw[h3];simp)]
 have b9:Hid (∀(k:Nat) (L:Look),k<=z - 1->x.mM F z q k=L->L.stop=true->L.e≠0->x.look F z=(L.e,0,[],false)):=kD fun k L hk h1 h2 h3=>by
  have h4:x.mM F z q (z - 1)=L:=by rw[jD (by rw[h1];exact h2) hk,h1]
  rw[bB.out,h4,if_pos h3]
 go_wp2_with fail
 generalize cU:aD q=q1 at ex;have cb:=kD cU;clear cU;go_loopw [9,10] (fun v9 i wr=>∃(k:Nat) (R:List Rec),k+1<=z/\i=.int .i64 ((k:Int)+1)/\x.mM F z q k=⟨false,0,R,false⟩/\(R.length:Int)<=cj z/\wr.ownsRow w0.heap.size 118 3 v9 R.length (R.flatMap bE)/\Blk wr w.heap.size 34 sv/\Blk wr (w.heap.size+1) 109 #[.int .i64 F,.int .i64 z]/\Zr w wr/\w0.heap.size<=wr.heap.size) (fun _ i _=>z - (intOf i).toNat)
 case atStart=>exact⟨0,[],by omega,rfl,rfl,by simpa using ev,World.ownsRow_nil _ _ _ _,ej,en,B1,d4.out⟩
 case round=>
  obtain⟨k,R,hk,rfl,bu,e8,a6,bW,b0,hB,eW⟩:=hrel;obtain⟨fa,fc,rfl⟩:=aw a6;have HO:=kD a6;obtain⟨cJ,lJ⟩:=b0.zc;have lk:=cI bW db;have d2:=kD bu;by_cases fn:k+1<z
  ·have e5:(k:Int)+1<z:=by omega
   have ab:=z1e (x:=x) (F:=F) (Z:=z) (q:=q) (k:=k) (by rw[bu])
   rw[bu]at ab;simp only at ab
   have hg:=HG.out (F+((k:Int)+1)) wr hB;unfold gj frV at hg;generalize x.ge (F+((k:Int)+1))=E at *;generalize x.fr (F+((k:Int)+1))=f at *;have bG:=kD ab;clear bu a6 ab;go_wp2_with (refine zlw lk ?_)
   refine hg.mono ?_;rintro e w2 ⟨rfl,bc⟩;have cn:=bW.mD bc;have cK:=b0.mD bc;have B2:=hB.trans (bc.mono hB.size);have cg:=kD (aq HO.out bc);have d5:=kD bc.size;clear hg HO bc bW b0 lk cJ lJ hB;obtain⟨D,I,A⟩:=f;simp only
   have cS:=z5g E (w2.alloc (.cells #[.int .i64 D,.int .u32 I,.string A] 190));obtain⟨FB,b2⟩:=zex w2.heap.size;have cA:Blk (w2.alloc (.cells #[.int .i64 D,.int .u32 I,.string A] 190)) FB 190 #[.int .i64 D,.int .u32 I,.string A]:=by rw[b2];exact zbn
   have a8:Zr w2 (w2.alloc (.cells #[.int .i64 D,.int .u32 I,.string A] 190)):=(kF _ _).alloc (kE _) _;have co:=cn.mD a8;have cL:=cK.mD a8;have B3:=B2.trans (a8.mono B2.size);have ci:=kD (aq cg.out a8);have d6:=kD (kO d5.out a8.size);clear cg cn cK B2 a8;go_upto_region 10 with fail
   rw[<-b2];generalize w2.alloc (.cells #[.int .i64 D,.int .u32 I,.string A] 190)=w3 at *;clear b2;go_wp2_with fail
   refine cS.mono ?_;rintro e w4 ⟨rfl,av⟩;have bL:=cA.mD av;have cp:=co.mD av;have bX:=cL.mD av;have B4:=B3.trans (av.mono B3.size);have bC:=kD (aq ci.out av);have d7:=kD (kO d6.out av.size);clear ci co cL cA B3 av cS;obtain⟨cF,lF⟩:=bL.zc;cases hbk:dI E;rotate_left
   ·have cT:=z6v hbk;have V:Hid (x.look F z=(E,0,[],false)):=kD (b9.out (k+1) ⟨true,E,[],false⟩ (by omega) (by rw[bG.out,if_pos hbk]) rfl cT)
    clear hbk cT bG;go_wp2_with fail
    refine bodyPost_ret (v:=.tuple #[.slice none 0 0,.bool false,.int .i64 E]) (by simp[results,results130,go_sem]) rfl ?_
    rw[V.out];exact⟨B4,none,0,rfl,World.ownsRow_nil _ _ _ _⟩
   have a2:Hid (x.mM F z q (k+1)=if eR x.stable.length F z q E ⟨D,I,A⟩ R then ⟨true,0,R,eC q E ⟨D,I,A⟩ R⟩else ⟨false,0,R++[aB ⟨D,I,A⟩],false⟩):=kD (by rw[bG.out,if_neg (by rw[hbk];simp)])
   clear bG hbk;by_cases O:E=0/\I=aD q
   rotate_left
   ·obtain⟨e1,e2⟩:=z51 (n:=x.stable.length) (F:=F) (Z:=z) (q:=q) (E:=E) (f:=⟨D,I,A⟩) (R:=R) O;have V:Hid (x.look F z=(0,q,R,false)):=kD (bn.out (k+1) ⟨true,0,R,false⟩ (by omega) (by rw[a2.out,if_pos e1,e2]) rfl rfl)
    rw[cb.out]at O;have hd:(E != 0)=true\/((E != 0)=false/\(I != q1)=true):=by
     by_cases h1:E=0
     ·exact .inr ⟨by simpa using h1,by simpa using fun h2=>O ⟨h1,h2⟩⟩
     ·exact .inl (by simpa using h1)
    clear O e1 e2 a2;rcases hd with hd|⟨hd,e9⟩
    all_goals
     go_wp2_with fail
     refine bodyPost_ret (v:=.tuple #[.slice fa R.length fc,.bool false,.int .i64 0]) (by simp[results,results130,go_sem]) rfl ?_
     rw[V.out];exact⟨B4,fa,fc,rfl,be bC.out U.out⟩
   obtain⟨rfl,bN⟩:=O;obtain⟨n1,n2⟩:=z3Y (n:=x.stable.length) (F:=F) (Z:=z) (q:=q) (f:=⟨D,I,A⟩) (R:=R) bN;have ac:Hid (x.mM F z q (k+1)=if (!dp x.stable.length F z ⟨D,I,A⟩||decide ((aB ⟨D,I,A⟩).at_∈R.map (·.at_))||decide ((R.length:Int)=cj z))then ⟨true,0,R,D==3&&decide (A=aH R.length)⟩else ⟨false,0,R++[aB ⟨D,I,A⟩],false⟩):=kD (by rw[a2.out,n1,n2])
   clear a2 n1 n2;have e4:(I != q1)=false:=by rw[cb.out]at bN;simpa using bN
   clear bN;by_cases bq:D=3
   ·have c8:dp x.stable.length F z ⟨D,I,A⟩=false:=jk (by show D≠2;omega)
    obtain⟨bb,b4⟩:=zxe (decide (A=aH R.length));have V:Hid (x.look F z=(0,q,R,bb)):=kD (bn.out (k+1) ⟨true,0,R,bb⟩ (by omega) (by rw[ac.out,if_pos (by rw[c8];rfl),bq,b4];simp) rfl rfl)
    have h3:(D==3)=true:=by simpa using bq
    have fq:(A.toList==(aH R.length).toList)=bb:=(z9D _ _).trans b4;clear bq c8 ac b4;go_upto_region 15 with fail
    have ds:=z3b R.length (by omega) (by omega) w4.drew
    have es:w4.cell? ⟨FB,2,none⟩=some (.string A):=(cF 2).trans rfl;refine zrm [.take 0,.take 1,.take 2,.take 3,.take 4,.one 5,.take 6,.one 7,.one 8,.one 9] 10 (fun W=>W.cell? ⟨FB,2,none⟩=some (.string A)) es ?_
    simp only[kR,kS,Ms.fill,kT,kV];iterate 5 refine ztk ?_
    refine ah (by rfl) fun K hK=>?_
    go_simp;refine ds.mono ?_;rintro e w5 ⟨rfl,M⟩;have bM:=bL.drew.mD M;have cR:w5.cell? ⟨FB,2,none⟩=some (.string A):=(bM.cells 2).trans rfl;refine hK _ _ (fun _=>cR) ?_
    clear hK K ds;iterate 1 refine ztk ?_
    iterate 3 (refine ah (by rfl) fun K hK=>?_;go_simp;refine hK _ _ (fun _=>cR) ?_;clear hK K)
    refine ax ?_;go_wp2_with fail
    refine bodyPost_ret (v:=.tuple #[.slice fa R.length fc,.bool bb,.int .i64 0]) (by simp[results,results130,go_sem]) rfl ?_
    rw[V.out];exact⟨B4.drew.trans (M.mono B4.size),fa,fc,rfl,be (aq bC.out ((kF w4.heap.size w4).drew.trans M)) U.out⟩
   have h3:(D==3)=false:=by simpa using bq
   have c:Hid ((!dp x.stable.length F z ⟨D,I,A⟩||decide ((aB ⟨D,I,A⟩).at_∈R.map (·.at_))||decide ((R.length:Int)=cj z))=true->x.look F z=(0,q,R,false)):=kD fun h=>bn.out (k+1) ⟨true,0,R,false⟩ (by omega) (by rw[ac.out,if_pos h,h3];rfl) rfl rfl
   have J:Hid ((!dp x.stable.length F z ⟨D,I,A⟩||decide ((aB ⟨D,I,A⟩).at_∈R.map (·.at_))||decide ((R.length:Int)=cj z))=false->x.mM F z q (k+1)=⟨false,0,R++[aB ⟨D,I,A⟩],false⟩):=kD fun h=>by rw[ac.out,h];rfl
   have cW:=z5o F z ca.out A w4;obtain⟨cJ,lJ⟩:=bX.zc;clear ac bq;go_wp2_with fail
   refine cW.mono ?_;rintro e w5 ⟨rfl,M⟩;have bM:=bL.mD M;have cw:=cp.mD M;have cM:=bX.mD M;have B5:=B4.trans (M.mono B4.size);have ck:=kD (aq bC.out M);have d8:=kD (kO d7.out M.size);clear bC cp bX bL B4 M cW cF lF cJ lJ;have bF:Hid (D=2->dp x.stable.length F z ⟨D,I,A⟩=(ig F z A&&decide ((ee A).at_<x.stable.length))/\aB ⟨D,I,A⟩=ee A):=kD fun h=>⟨z9i (f:=⟨D,I,A⟩) h (by omega),z1m (f:=⟨D,I,A⟩) h⟩
   have bU:Hid (D≠2->dp x.stable.length F z ⟨D,I,A⟩=false):=kD fun h=>jk (f:=⟨D,I,A⟩) h
   generalize ey:ee A=rr at *;generalize ig F z A=ri at *;clear ey;obtain⟨ra,rk,rd⟩:=rr;unfold recC;simp only at bF |-
   obtain⟨XB,b3⟩:=zex w5.heap.size;have b1:Blk (w5.alloc (.cells #[.int .i64 ra,.int .i64 rk,.string rd] 118)) XB 118 #[.int .i64 ra,.int .i64 rk,.string rd]:=by rw[b3];exact zbn
   have ao:Zr w5 (w5.alloc (.cells #[.int .i64 ra,.int .i64 rk,.string rd] 118)):=(kF _ _).alloc (kE _) _;have cB:=bM.mD ao;have bK:=cw.mD ao;have bZ:=cM.mD ao;have B6:=B5.trans (ao.mono B5.size);have an:=kD (aq ck.out ao);have ea:=kD (kO d8.out ao.size);clear ck cw cM bM B5 ao;go_upto_region 17 with fail
   rw[<-b3];generalize w5.alloc (.cells #[.int .i64 ra,.int .i64 rk,.string rd] 118)=w6 at *;clear b3;obtain⟨cF,lF⟩:=cB.zc;obtain⟨cX,lX⟩:=b1.zc;obtain⟨cJ,lJ⟩:=bZ.zc;have cD:w6.cell? ⟨w.heap.size,0,none⟩=some (.slice A9 x.stable.length c9):=(bK.cells 0).trans eN;have lD:=bK.lt;by_cases bk:D=2
   rotate_left
   ·have V:Hid (x.look F z=(0,q,R,false)):=kD (c.out (by rw[bU.out bk];rfl))
    have h2:(D != 2)=true:=by simpa using bk
    clear bk bF bU J c;go_wp2_with fail
    refine bodyPost_ret (v:=.tuple #[.slice fa R.length fc,.bool false,.int .i64 0]) (by simp[results,results130,go_sem]) rfl ?_
    rw[V.out];exact⟨B6,fa,fc,rfl,be an.out U.out⟩
   have h2:(D != 2)=false:=by simpa using bk
   obtain⟨e1,e2⟩:=bF.out bk;rw[e1,e2]at c J;simp only at c J
   clear e1 e2 bF bU bk;cases ri
   ·have V:Hid (x.look F z=(0,q,R,false)):=kD (c.out rfl);clear J c;go_wp2_with fail
    refine bodyPost_ret (v:=.tuple #[.slice fa R.length fc,.bool false,.int .i64 0]) (by simp[results,results130,go_sem]) rfl ?_
    rw[V.out];exact⟨B6,fa,fc,rfl,be an.out U.out⟩
   rw[Bool.true_and]at c J;by_cases a7:ra<x.stable.length
   rotate_left
   ·have V:Hid (x.look F z=(0,q,R,false)):=kD (c.out (by rw[decide_eq_false a7];rfl))
    have b8:(x.stable.length:Int)<=ra:=by omega
    clear J c a7;go_wp2_with fail
    refine bodyPost_ret (v:=.tuple #[.slice fa R.length fc,.bool false,.int .i64 0]) (by simp[results,results130,go_sem]) rfl ?_
    rw[V.out];exact⟨B6,fa,fc,rfl,be an.out U.out⟩
   rw[decide_eq_true a7]at c J;have b8:¬(x.stable.length:Int)<=ra:=by omega
   have br:=z67 fa fc R (by omega) ra w6 (eU an.out (gO R))
   have b7:=z1t F z (by have:=ca.out;omega) w6
   clear a7;by_cases bt:ra∈R.map (·.at_)
   ·have V:Hid (x.look F z=(0,q,R,false)):=kD (c.out (by rw[decide_eq_true bt];rfl))
    rw[decide_eq_true bt]at br;clear J c bt b7;go_wp2_with fail
    refine br.mono ?_;rintro e w7 ⟨rfl,a1⟩;replace a1:=a1.symm;subst a1;go_wp2_with fail
    refine bodyPost_ret (v:=.tuple #[.slice fa R.length fc,.bool false,.int .i64 0]) (by simp[results,results130,go_sem]) rfl ?_
    rw[V.out];exact⟨B6,fa,fc,rfl,be an.out U.out⟩
   rw[decide_eq_false bt]at c J br;clear bt;go_wp2_with fail
   refine br.mono ?_;rintro e w7 ⟨rfl,a1⟩;replace a1:=a1.symm;subst a1;go_wp2_with fail
   refine b7.mono ?_;rintro e w8 ⟨rfl,aL⟩;have cz:=bK.mD aL;have cN:=bZ.mD aL;have cP:=b1.mD aL;have B8:=B6.trans (aL.mono B6.size);have bT:=kD (aq an.out aL);have eg:=kD (kO ea.out aL.size);clear br b7 bK bZ b1 cB B6 an aL cF lF cX lX cJ lJ cD lD;by_cases Y:(R.length:Int)=cj z
   ·have V:Hid (x.look F z=(0,q,R,false)):=kD (c.out (by rw[decide_eq_true Y];rfl))
    have bO:cj z<=(R.length:Int):=by omega
    clear J c Y;go_wp2_with fail
    refine bodyPost_ret (v:=.tuple #[.slice fa R.length fc,.bool false,.int .i64 0]) (by simp[results,results130,go_sem]) rfl ?_
    rw[V.out];exact⟨B8,fa,fc,rfl,be bT.out U.out⟩
   rw[decide_eq_false Y]at J;have cl:=kD (J.out rfl);have bO:¬cj z<=(R.length:Int):=by omega
   have bP:(R.length:Int)+1<=cj z:=by omega
   clear J c Y;obtain⟨cX,lX⟩:=cP.zc;obtain⟨w9,bR⟩:=zex (w8.alloc (.cells #[.int .i64 ra,.int .i64 rk,.string rd] 118));have ba:Zr w8 w9:=by rw[bR];exact(kF _ _).alloc (kE _) _
   have r9:Reads w9 (some ⟨w8.heap.size,0,none⟩) (bE ⟨ra,rk,rd⟩):=by
    have b:=Blk.new w8 118 #[.int .i64 ra,.int .i64 rk,.string rd];rw[bR];exact .inr ⟨_,0,rfl,b.lt,fun j u hu=>by rw[ld];exact(b.cells j).trans (by simpa[bE]using hu)⟩
   have B9:=B8.trans (ba.mono B8.size);have bS:w0.heap.size<=w9.heap.size:=kO eW (kO eg.out ba.size);obtain⟨e0,e3,bQ,dT,bA,-⟩:=z8a (aq bT.out ba) bS (some ⟨w8.heap.size,0,none⟩) 1 1 (bE ⟨ra,rk,rd⟩) rfl (by omega) r9 (z65 _)
   have cm:=(cz.mD ba).below bA (by have:=cQ.out;omega)
   have cC:=(cN.mD ba).below bA cQ.out;have d1:=B9.trans (bA.mono U.out);have dv:w0.heap.size<=e3.heap.size:=kO bS bA.size;have cc:=kD dT;have d3:=kD bR;clear cz cN cP r9 ba dT bA bR B8 bT;go_wp2_with (at_builtin;rw[<-d3.out];refine aS rfl _ _ _ rfl (.slice fa R.length fc) (.slice (some ⟨w8.heap.size,0,none⟩) 1 1) e0 rfl rfl bQ ?_);go_roundw
   case rel=>exact⟨k+1,R++[⟨ra,rk,rd⟩],by omega,by go_num,cl.out,by rw[kY];exact bP,by rw[kY,List.flatMap_append];simpa using cc.out,cm,cC,d1,dv⟩
   case measure=>simp[intOf];omega
  ·obtain rfl:z=k+1:=by omega
   have V:Hid (x.look F ((k+1:Nat):Int)=(0,q,R,false)):=kD (by rw[bB.out,Nat.add_sub_cancel,d2.out,if_neg (by simp)])
   clear bu a6;go_wp2_with fail
   refine bodyPost_ret (v:=.tuple #[.slice fa R.length fc,.bool false,.int .i64 0]) (by simp[results,results130,go_sem]) rfl ?_
   rw[V.out];exact⟨hB,fa,fc,rfl,be HO.out U.out⟩
open Go
section
variable {P:Program}{ops:Array Oper}{Q:Exit->Act->World->Prop}{S:World->Prop}{T:Nat}
def anyR (P:Program)(ops:Array Oper)(Q:Exit->Act->World->Prop)(S:World->Prop)(T:Nat):Nat->Array Bool->Act->World->Prop
 | 0,L,a,w=>Region.ready .any ops L=[]/\Q .normal a w
 | f+1,L,a,w=>(Region.ready .any ops L=[]->Q .normal a w) /\
  ∀i∈Region.ready .any ops L,wpOp P ops Q i (fun a' w'=>(i<T->S w->S w')/\anyR P ops Q S T f (L.setIfInBounds i true) a' w') a w
theorem z4C (f:Nat):∀(L:Array Bool) (a:Act) (w:World),anyR P ops Q S T f L a w->wpAny P .any ops Q f L a w:=by
 induction f with
 | zero=>exact fun _ _ _ h=>h
 | succ f ih=>exact fun L a w h=>⟨h.1,fun i D=>wpOp_mono (fun c I A=>ih _ c I A.2) (h.2 i D)⟩
theorem z87 {i:Nat}{o:Oper}{v:Value}(ho:ops[i]?=some o)(a1:Region.noSelect ops=true)(hT:∀j,T<=j->j<ops.size->Region.waitsFor .any ops j i=true)
  (hQ:∀c a d v w,Q (.panic c) (Act.put a d v) w->Q (.panic c) a w) (f:Nat):
  ∀(L:Array Bool) (a:Act) (w:World),(∀j p,ops[j]?=some p->j≠i->L.getD j true=false->(∀e∈p.after,Region.binds .any e=true->e.on≠i)->o.apart ops p=true) ->
   i∈Region.ready .any ops L->YieldsIf P ops S o v a->S w->anyR P ops Q S T f (L.setIfInBounds i true) (a.put o.dst v) w->anyR P ops Q S T (f+1) L a w:=by
 have A:=Region.noSelect_spec a1;induction f with
 | zero=>
  intro L a w _ D hy hS H;refine⟨fun h0=>(by rw[h0]at D;cases D),fun j hj=>?_⟩
  by_cases e:j=i
  ·subst e;exact hy.wpOp ho hS ⟨fun _ h=>h,H⟩
  ·have:=ready_mono hj e;rw[H.1]at this;cases this
 | succ f ih=>
  intro L a w M D hy hS H;refine⟨fun h0=>(by rw[h0]at D;cases D),fun j hj=>?_⟩
  by_cases e:j=i
  ·subst e;exact hy.wpOp ho hS ⟨fun _ h=>h,H⟩
  ·have ab:=getD_both (mem_ready.1 D).1;obtain⟨O,p,V,K⟩:=mem_ready.1 hj;have U:∀x∈p.after,Region.binds .any x=true->x.on≠i:=fun x hx hb a6=>by
    have:=K x hx hb
    rw[a6,ab]at this;cases this
   have ac:j<T:=by
    rcases Nat.lt_or_ge j T with h|h
    ·exact h
    ·exfalso
     have an:=(lu.1 V).1;obtain⟨q,hq,x,hx,hb,a2⟩:=Region.waitsFor_spec (hT j h an);rw[V]at hq;cases hq;exact U x hx hb a2
   have I:=wpOp_putIf V (M j p V e O U) (fun cs b=>A i o cs b ho) (fun cs b=>A j p cs b V) (fun c a w=>hQ c a o.dst v w) hy (H.2 j (ready_mono hj e))
   refine wpOp_mono (fun a' w' Y=>⟨Y.2.1,?_⟩) I
   refine ih (L.setIfInBounds j true) a' w' (fun k q hk av ao aL=>M k q hk av ?_ aL) (ready_mono D (Ne.symm e)) Y.1 (Y.2.1 ac hS) ?_
   ·by_cases J:j=k
    ·subst J;exact O
    ·rwa [getD_set_ne true J]at ao
   ·rw[Array.setIfInBounds_comm _ _ e];exact Y.2.2
theorem z86 {i:Nat}{o:Oper}{v:Value}(ho:ops[i]?=some o)(av:Region.noSelect ops=true)
  (hQ:∀c a d v w,Q (.panic c) (Act.put a d v) w->Q (.panic c) a w) (f:Nat):
  ∀(L:Array Bool) (a:Act) (w:World),(∀j p,ops[j]?=some p->j≠i->L.getD j true=false->(∀e∈p.after,Region.binds .any e=true->e.on≠i)->o.apart ops p=true) ->
   i∈Region.ready .any ops L->YieldsIf P ops (fun _=>True) o v a->anyR P ops Q S T f (L.setIfInBounds i true) (a.put o.dst v) w->anyR P ops Q S T (f+1) L a w:=by
 have A:=Region.noSelect_spec av;induction f with
 | zero=>
  intro L a w _ D V H;refine⟨fun h0=>(by rw[h0]at D;cases D),fun j U=>?_⟩
  by_cases e:j=i
  ·subst e;exact V.wpOp ho trivial ⟨fun _ h=>h,H⟩
  ·have:=ready_mono U e;rw[H.1]at this;cases this
 | succ f ih=>
  intro L a w M D V H;refine⟨fun h0=>(by rw[h0]at D;cases D),fun j U=>?_⟩
  by_cases e:j=i
  ·subst e;exact V.wpOp ho trivial ⟨fun _ h=>h,H⟩
  ·have ab:=getD_both (mem_ready.1 D).1;obtain⟨O,p,hp,K⟩:=mem_ready.1 U;have aL:∀x∈p.after,Region.binds .any x=true->x.on≠i:=fun x hx hb a1=>by
    have:=K x hx hb
    rw[a1,ab]at this;cases this
   have I:=wpOp_putIf hp (M j p hp e O aL) (fun Y b=>A i o Y b ho) (fun Y b=>A j p Y b hp) (fun c a w=>hQ c a o.dst v w) V (H.2 j (ready_mono U e))
   refine wpOp_mono (fun a' w' h'=>⟨h'.2.1,?_⟩) I
   refine ih (L.setIfInBounds j true) a' w' (fun k q hk an ac ao=>M k q hk an ?_ ao) (ready_mono D (Ne.symm e)) h'.1 ?_
   ·by_cases J:j=k
    ·subst J;exact O
    ·rwa [getD_set_ne true J]at ac
   ·rw[Array.setIfInBounds_comm _ _ e];exact h'.2.2
end
inductive Us where
 | done
 | take (k:Nat) (r:Us)
 | pure (k:Nat) (r:Us)
 | one (k:Nat) (r:Us)
 | fork (i j:Nat) (r1 r2:Us)
 | late (k:Nat) (r:Us)
inductive Uf where
 | done
 | take (o:Oper) (r:Uf)
 | pure (o:Oper) (r:Uf)
 | one (o:Oper) (r:Uf)
 | fork (o p:Oper) (r1 r2:Uf)
 | late (o:Oper) (r:Uf)
def Us.takes:List Nat->Us->Us
 | [],r=>r
 | k::t,r=>.take k (Us.takes t r)
def Us.nG:List Nat->Us->Us
 | [],r=>r
 | k::t,r=>.pure k (Us.nG t r)
def Us.fill (l:List Oper)(d:Oper):Us->Uf
 | .done=>.done
 | .take k r=>.take (l.getD k d) (r.fill l d)
 | .pure k r=>.pure (l.getD k d) (r.fill l d)
 | .one k r=>.one (l.getD k d) (r.fill l d)
 | .fork i j r1 r2=>.fork (l.getD i d) (l.getD j d) (r1.fill l d) (r2.fill l d)
 | .late k r=>.late (l.getD k d) (r.fill l d)
def Us.size:Us->Nat
 | .done=>0
 | .take _ r=>r.size+1
 | .pure _ r=>r.size+1
 | .one _ r=>r.size+1
 | .fork _ _ r _=>r.size+1
 | .late _ r=>r.size+1
section
variable {P:Program}{ops:Array Oper}{Q:Exit->Act->World->Prop}{S:World->Prop}{T:Nat}
def usT (P:Program)(ops:Array Oper)(Q:Exit->Act->World->Prop)(S:World->Prop):Uf->Act->World->Prop
 | .done,a,w=>Q .normal a w
 | .take o r,a,w=>∃v,YieldsIf P ops S o v a/\usT P ops Q S r (a.put o.dst v) w
 | .pure o r,a,w=>∃v,YieldsIf P ops (fun _=>True) o v a/\usT P ops Q S r (a.put o.dst v) w
 | .one o r,a,w=>o.wp P a w (fun a' w'=>S w'/\usT P ops Q S r a' w') Q
 | .fork o p r1 r2,a,w=>o.wp P a w (fun a' w'=>S w'/\usT P ops Q S r1 a' w') Q/\p.wp P a w (fun a' w'=>S w'/\usT P ops Q S r2 a' w') Q
 | .late o r,a,w=>o.wp P a w (fun a' w'=>usT P ops Q S r a' w') Q
def usB (ops:Array Oper)(T:Nat):Bool->Us->Array Bool->Bool
 | _,.done,L=>decide (Region.ready .any ops L=[])
 | s,.take k r,L=>s&&decide (k<ops.size)&&(Region.ready .any ops L).contains k&&Region.free .any ops L k&&((List.range ops.size).all fun j=>decide (j<T)||Region.waitsFor .any ops j k)&&usB ops T s r (L.setIfInBounds k true)
 | s,.pure k r,L=>decide (k<ops.size)&&(Region.ready .any ops L).contains k&&Region.free .any ops L k&&usB ops T s r (L.setIfInBounds k true)
 | s,.one k r,L=>s&&bare ops k&&decide (Region.ready .any ops L=[k])&&usB ops T s r (L.setIfInBounds k true)
 | s,.fork i j r1 r2,L=>s&&bare ops i&&bare ops j&&decide (Region.ready .any ops L=[i,j]\/Region.ready .any ops L=[j,i])&&decide (r1.size=r2.size)&&usB ops T s r1 (L.setIfInBounds i true)&&usB ops T s r2 (L.setIfInBounds j true)
 | _,.late k r,L=>bare ops k&&decide (Region.ready .any ops L=[k])&&decide (T<=k)&&usB ops T false r (L.setIfInBounds k true)
theorem iL {l:List Oper}{d:Oper}(D:Region.noSelect l.toArray=true)(K:∀c a d v w,Q (.panic c) (Act.put a d v) w->Q (.panic c) a w):
  ∀(t:Us) (s:Bool) (L:Array Bool) (a:Act) (w:World),(s=true->S w)->usB l.toArray T s t L=true->usT P l.toArray Q S (t.fill l d) a w->anyR P l.toArray Q S T t.size L a w
 | .done,s,L,a,w,_,hB,h=>by
  simp only[usB,decide_eq_true_eq]at hB;exact⟨hB,h⟩
 | .take k r,s,L,a,w,hS,hB,h=>by
  simp only[usB,lq,decide_eq_true_eq]at hB;obtain⟨⟨⟨⟨⟨hs,I⟩,A⟩,h2⟩,h3⟩,U⟩:=hB;have I:l.toArray[k]?=some (l.getD k d):=by
   have I:k<l.length:=by simpa using I
   simp[kN,I]
  obtain⟨v,hy,h⟩:=h;exact z87 I D (fun j hj ac=>by
   have:=List.all_eq_true.1 h3 j (List.mem_range.2 ac)
   simp only[Bool.or_eq_true,decide_eq_true_eq]at this;rcases this with h|h
   ·exact absurd h (by omega)
   ·exact h) K _ L a w (Region.free_spec I h2) (by simpa using A) hy (hS hs) (iL D K r s _ _ _ hS U h)
 | .pure k r,s,L,a,w,hS,hB,h=>by
  simp only[usB,lq,decide_eq_true_eq]at hB;obtain⟨⟨⟨I,A⟩,h2⟩,U⟩:=hB;have I:l.toArray[k]?=some (l.getD k d):=by
   have I:k<l.length:=by simpa using I
   simp[kN,I]
  obtain⟨v,hy,h⟩:=h;exact z86 I D K _ L a w (Region.free_spec I h2) (by simpa using A) hy (iL D K r s _ _ _ hS U h)
 | .one k r,s,L,a,w,hS,hB,h=>by
  simp only[usB,lq,decide_eq_true_eq]at hB;obtain⟨⟨⟨hs,J⟩,A⟩,U⟩:=hB;refine⟨fun e=>(by rw[A]at e;cases e),fun i hi=>?_⟩
  rw[A]at hi;have V:i=k:=by simpa using hi
  subst V;refine dk (dH (d:=d) J) J (Oper.wp_mono ?_ h);rintro M Y ⟨s1,O⟩;exact⟨fun _ _=>s1,iL D K r s _ M Y (fun _=>s1) U O⟩
 | .fork i j r1 r2,s,L,a,w,hS,hB,h=>by
  simp only[usB,lq,decide_eq_true_eq]at hB;obtain⟨⟨⟨⟨⟨⟨hs,J⟩,b2⟩,A⟩,hN⟩,m1⟩,m2⟩:=hB;obtain⟨H1,H2⟩:=h;have ab:∀k,k∈Region.ready .any l.toArray L->k=i\/k=j:=fun k hk=>by
   rcases A with A|A
   ·rw[A]at hk;simpa using hk
   ·rw[A]at hk;simpa[or_comm]using hk
  refine⟨fun e=>(by rcases A with A|A<;>(rw[A]at e;cases e)),fun k hk=>?_⟩
  rcases ab k hk with e|e
  ·subst e;refine dk (dH (d:=d) J) J (Oper.wp_mono ?_ H1);rintro M Y ⟨s1,O⟩;exact⟨fun _ _=>s1,iL D K r1 s _ M Y (fun _=>s1) m1 O⟩
  ·subst e;refine dk (dH (d:=d) b2) b2 (Oper.wp_mono ?_ H2);rintro M Y ⟨s1,O⟩;refine⟨fun _ _=>s1,?_⟩
   rw[hN];exact iL D K r2 s _ M Y (fun _=>s1) m2 O
 | .late k r,s,L,a,w,hS,hB,h=>by
  simp only[usB,lq,decide_eq_true_eq]at hB;obtain⟨⟨⟨J,A⟩,hT⟩,U⟩:=hB;refine⟨fun e=>(by rw[A]at e;cases e),fun i hi=>?_⟩
  rw[A]at hi;have V:i=k:=by simpa using hi
  subst V;refine dk (dH (d:=d) J) J (Oper.wp_mono ?_ h);intro M Y O;exact⟨fun an=>absurd an (by omega),iL D K r false _ M Y (fun e=>by cases e) U O⟩
theorem dQ {id:Nat}{a:Act}{w:World}{o:Oper}{l:List Oper}(t:Us)(T:Nat)(S:World->Prop)(M:P.follows .mixedOrders=true)
  (A:(Region.noSelect (o::l).toArray&&decide (t.size=(o::l).length)&&usB (o::l).toArray T true t (Array.replicate (o::l).length false))=true)
  (D:∀c a t v w,Q (.panic c) (Act.put a (some t) v) w->Q (.panic c) a w) (K:S w.drew)
  (h:usT P (o::l).toArray Q S (t.fill (o::l) o) a w.drew):(Code.region id (o::l).toArray true).wp P Q a w:=by
 have J:∀c a d v w,Q (.panic c) (Act.put a d v) w->Q (.panic c) a w:=fun c a d v w h=>by
  cases d with
  | none=>exact h
  | some t=>exact D c a t v w h
 simp only[lq,decide_eq_true_eq]at A;obtain⟨⟨I,O⟩,A⟩:=A;refine wp_region_any M ?_;have H:=iL (P:=P) (Q:=Q) (S:=S) (T:=T) I J t true (Array.replicate (o::l).length false) a w.drew (fun _=>K) A h
 rw[O]at H;have:=z4C _ _ _ _ H
 simpa using this
theorem fI {a:Act}{w:World}(h:Q .normal a w):usT P ops Q S .done a w:=h
theorem dC {o:Oper}{r:Uf}{a:Act}{w:World}(c:Region.wanted o (yielded ops a.tmps)=true)(v:Value)(A:∀w,S w->(execOp a.eval o).run P w=.ok (.value v) w)(h:usT P ops Q S r (a.put o.dst v) w):usT P ops Q S (.take o r) a w:=
 ⟨v,.inl ⟨c,A⟩,h⟩
theorem zca {o:Oper}{r:Uf}{a:Act}{w:World}(c:Region.wanted o (yielded ops a.tmps)=false)(h:usT P ops Q S r (a.put o.dst undef) w):usT P ops Q S (.take o r) a w:=
 ⟨undef,.inr ⟨c,rfl⟩,h⟩
theorem eH {o:Oper}{r:Uf}{a:Act}{w:World}(c:Region.wanted o (yielded ops a.tmps)=true)(v:Value)(A:∀w,True->(execOp a.eval o).run P w=.ok (.value v) w)(h:usT P ops Q S r (a.put o.dst v) w):usT P ops Q S (.pure o r) a w:=
 ⟨v,.inl ⟨c,A⟩,h⟩
theorem du {o:Oper}{r:Uf}{a:Act}{w:World}(h:∀K:Act->World->Prop,(∀A c,S c->usT P ops Q S r A c->K A c)->o.wp P a w K Q):usT P ops Q S (.one o r) a w:=h _ fun _ _ x y=>⟨x,y⟩
theorem di {o:Oper}{r:Uf}{a:Act}{w:World}(h:∀K:Act->World->Prop,(∀c A,usT P ops Q S r c A->K c A)->o.wp P a w K Q):usT P ops Q S (.late o r) a w:=h _ fun _ _ x=>x
theorem z3k {o p:Oper}{D I:Uf}{a:Act}{w:World}
  (J:∀K:Act->World->Prop,(∀A c,S c->usT P ops Q S D A c->K A c)->o.wp P a w K Q) (M:∀K:Act->World->Prop,(∀A c,S c->usT P ops Q S I A c->K A c)->p.wp P a w K Q):usT P ops Q S (.fork o p D I) a w:=
 ⟨J _ fun _ _ x y=>⟨x,y⟩,M _ fun _ _ x y=>⟨x,y⟩⟩
end
theorem zup {P:Program}{ops:Array Oper}{Q:Exit->Act->World->Prop}{S:World->Prop}{o:Oper}{r:Uf}{a c:Act}{w:World}{v:Value}(h:usT P ops Q S r c w)(D:Region.wanted o (yielded ops a.tmps)=true:=by rfl)(J:∀w,True->(execOp a.eval o).run P w=.ok (.value v) w:=by (intro K I;go_simp;(try with_reducible rfl)))(A:a.put o.dst v=c:=by ((try simp only [Act.put,List.setIfInBounds_toArray,List.set_cons_zero,List.set_cons_succ]);with_reducible rfl)):usT P ops Q S (.pure o r) a w:=by
 subst A;exact eH D v J h
theorem zuk {P:Program}{ops:Array Oper}{Q:Exit->Act->World->Prop}{S:World->Prop}{o:Oper}{r:Uf}{a c:Act}{w:World}{v:Value}(h:usT P ops Q S r c w)(D:Region.wanted o (yielded ops a.tmps)=true:=by rfl)(J:∀w,S w->(execOp a.eval o).run P w=.ok (.value v) w:=by (intro K I;go_simp;(try with_reducible rfl)))(A:a.put o.dst v=c:=by ((try simp only [Act.put,List.setIfInBounds_toArray,List.set_cons_zero,List.set_cons_succ]);with_reducible rfl)):usT P ops Q S (.take o r) a w:=by
 subst A;exact dC D v J h
end Go.Proofs.YtejmknghkbobnaaGreatDoor
