import Derived.Test.YtejmknghkbobnaaGreatDoorPart31
set_option linter.all false
set_option maxRecDepth 100000
set_option maxHeartbeats 0
namespace Go.Proofs.YtejmknghkbobnaaGreatDoor
open Go.Proofs.Tryz
open Go.RowKit Go.Maps
theorem RTx.setBits {w:World}{P:Nat->Prop}{x:DevS}{y:TxS}{I:Array Value}{A:Option Addr}{c:Nat}{us:List Bool}(h:RTx w P x y I)(K:Reads w A (us.map .bool))(J:us=[]\/Lies P A)(D:us.length<=c):
  RTx w P x { y with now:=us,changed:=true } ((I.toList.take 17++(#[.int .i64 y.s,.int .i64 y.j,.int .i64 y.i,.slice A us.length c]:Array Value).toList++I.toList.drop (17+(#[.int .i64 y.s,.int .i64 y.j,.int .i64 y.i,.slice A us.length c]:Array Value).toList.length)).toArray.setIfInBounds 22 (.bool true)):=by
 obtain⟨p,rfl,h⟩:=h;exact⟨{ p with N:=A,nc:=c },rfl,h.dev,h.was,K,h.run,h.lw,J,h.ll,D,h.lc⟩
def TxS.chg (y:TxS)(us:List Bool)(n:Nat):Int × TxS:=if y.mP n≠0 then (12,y.brk)else (0,y.change us n)
theorem z28 {w:World}{P:Nat->Prop}{x:DevS}{y:TxS}{I:Array Value}(hq:RTx w P x y I)(ok:y.Ok)(hc:y.Clean)(A:Option Addr)(c:Nat)(us:List Bool)(hR:Reads w A (us.map .bool))(hL:us=[]\/Lies P A)(br:us.length<=c)(n:Nat)(Bl:Option Addr)(cb:Nat):
  Calls prog 150 #[.agg I,.agg #[.int .i64 y.s,.int .i64 y.j,.int .i64 y.i,.slice A us.length c],.slice Bl n cb] w (RTgot w P x (y.chg us n)):=by
 obtain⟨vs,bp⟩:∃vs:Array Value,vs=#[.int .i64 y.s,.int .i64 y.j,.int .i64 y.i,.slice A us.length c]:=⟨_,rfl⟩;have bK:RTx w P x { y with now:=us,changed:=true } ((I.toList.take 17++vs.toList++I.toList.drop (17+vs.toList.length)).toArray.setIfInBounds 22 (.bool true)):=by rw[bp];exact hq.setBits hR hL br
 have bk:vs.size=4:=by rw[bp];rfl
 have bP:vs.all (·.oneCell')=true:=by rw[bp];simp[Value.oneCell']
 rw[<-bp];clear bp hR hL br;obtain⟨w0,bb⟩:=zex (((w.alloc (.cells I 50)).alloc (.cells vs 47)).alloc (.cells txZ 50));have bT:Blk w0 w.heap.size 50 I:=by rw[bb];exact zbn
 have bS:Blk w0 (w.heap.size+1) 47 vs:=by rw[bb];exact zbn
 have bR:Blk w0 (w.heap.size+1+1) 50 txZ:=by rw[bb];exact zbn
 have B0:Zr w w0:=by rw[bb];exact zgr
 have bc:=hq.apt B0 w0.heap.size;have U:=bK.apt B0 w0.heap.size;have ba:=hq.size;have bO:=hq.one;have zR:=kD bR.lt;have T:=(bT.cells 22).trans hq.flags.1;have lT:=bT.lt;have ac:Hid (y.chg us n=if y.mP n≠0 then (12,y.brk)else (0,y.change us n)):=kD rfl
 have ab:Hid (y.mP n=if n=0 then 0 else if y.changed=false/\y.left<1 then 12 else 0):=kD rfl
 have aL:Hid (y.change us n=if n=0 then y else if y.changed=false/\y.left<1 then y else { y with now:=us,changed:=true }):=kD rfl
 clear hq bK;unfold txZ txR at bb;go_enter func150,ntmps150
 go_upto_region 1 with fail
 rw[<-bb];clear bb;by_cases hn:n=0
 ·as_aux_lemma=>
  have HH:Hid (y.chg us n=(0,y)):=kD (by rw[ac.out,ab.out,aL.out,if_pos hn,if_pos hn];rfl)
  have bW:((n:Int)==0)=true:=by rw[hn];rfl
  have l1:=aN bT ba;have a8:=aR bR rfl ba bO;have V:=bR.setRow (cs':=I);have M:=RTgot.mk (R:=w.heap.size+1+1) 0 bc B0 (by omega) zR.out
  clear ac ab aL hn T lT U;go_wp2_with (first|(refine zlw l1 ?_)|(refine zsb a8 ?_))
  refine bodyPost_ret (au (cs:=I) rfl rfl rfl V underlying50 (by rw[ba];kernel_rfl)) rfl ?_
  rw[HH.out];exact M
 have bW:((n:Int)==0)=false:=by rw[beq_eq_false_iff_ne];omega
 go_upto_region 3 with fail
 by_cases hch:y.changed=false
 ·rw[hch]at T;have hl:=z9k bc ok hc;have l1:=aN bT ba;go_wp2_with (refine zlw l1 ?_)
  refine hl.mono ?_;rintro e w1 ⟨rfl,D⟩;clear hl l1;by_cases bN:y.left<1
  ·as_aux_lemma=>
   have HH:Hid (y.chg us n=(12,y.brk)):=kD (by rw[ac.out,ab.out,if_neg hn,if_pos (show y.changed=false/\y.left<1 from ⟨hch,bN⟩)];rfl)
   clear ac ab aL hn U;have Y:=bT.mD D;have an:=bR.mD D;have B1:=B0.trans (D.mono B0.size);have bL:=gc (bc.below D) 12;have l1:=aN Y ba;clear bT bR B0 bc T lT;go_wp2_with (refine zlw l1 ?_)
   refine bL.mono ?_;rintro e w9 ⟨bQ,rfl,bD,bC⟩;have bt:=bD.size;have a8:=aR (an.mD bC) rfl bt bD.one;have bU:=(an.mD bC).setRow (cs':=bQ);have M:=RTgot.mk (R:=w.heap.size+1+1) 12 bD (B1.trans (bC.mono B1.size)) (by omega) zR.out
   clear bL l1;go_wp2_with (refine zsb a8 ?_)
   refine bodyPost_ret (au (cs:=bQ) rfl rfl rfl bU underlying50 (by rw[bt];kernel_rfl)) rfl ?_
   rw[HH.out];exact M
  have a7:¬(y.changed=false/\y.left<1):=fun h=>bN h.2
  as_aux_lemma=>
  have HH:Hid (y.chg us n=(0,{ y with now:=us,changed:=true })):=kD (by rw[ac.out,ab.out,aL.out,if_neg hn,if_neg hn,if_neg a7,if_neg a7];rfl)
  clear ac ab aL hn a7 bc;have Y:=bT.mD D;have bw:=bS.mD D;have an:=bR.mD D;have B1:=B0.trans (D.mono B0.size);have a6:=U.below D;clear bT bS bR B0 U T lT;have l2:=jc bw bk;have O:=iY (ty:=47) (o:=17) (vs:=vs) Y (by rw[ba,bk];decide) bP (by rw[bk];kernel_rfl)
  have hT:w.heap.size<w0.heap.size:=by have:=zR.out;omega
  have a1:=a6.row (g:=w.heap.size) (Apt_.ne (kE _) hT) (I.toList.take 17++vs.toList++I.toList.drop (17+vs.toList.length)).toArray;have J:=Y.setRow (cs':=(I.toList.take 17++vs.toList++I.toList.drop (17+vs.toList.length)).toArray);have V:=an.mO (cs':=(I.toList.take 17++vs.toList++I.toList.drop (17+vs.toList.length)).toArray) (show w.heap.size+1+1≠w.heap.size by omega)
  have B2:=Below.setRow B1 (kE _) (I.toList.take 17++vs.toList++I.toList.drop (17+vs.toList.length)).toArray;have ao:=a6.size;obtain⟨K,av⟩:∃K:Array Value,K=(I.toList.take 17++vs.toList++I.toList.drop (17+vs.toList.length)).toArray:=⟨_,rfl⟩;rw[<-av]at O a1 J V B2 ao;clear av a6 Y an B1;have bF:K.size=25:=by simpa using ao
  have T:=(J.cells 22).trans (Array.getElem?_eq_getElem (by omega))
  have bJ:=J.lt;have bB:=J.free;have bA:=J.mG 22 (.bool true);have bn:=V.far (p:=⟨w.heap.size,22,none⟩) (show w.heap.size+1+1≠w.heap.size by omega) (.bool true)
  have B3:=kG B2 (p:=⟨w.heap.size,22,none⟩) (kE w.heap.size) (.bool true);have a2:=a1.cell (q:=⟨w.heap.size,22,none⟩) (Apt_.ne (kE _) hT) (.bool true);clear a1 B2;generalize K[22]=u17 at *;go_upto_region 5 with fail
  go_upto_region 6 with (first|(refine zlw l2 ?_)|(refine zsb O ?_))
  clear T bJ bB J V l2 O;generalize (w1.setRow w.heap.size K).setCell ⟨w.heap.size,22,none⟩ (.bool true)=W3 at *;generalize K.setIfInBounds 22 (.bool true)=bq at *;have S:=a2.size;have l3:=aN bA S;have a8:=aR bn rfl S a2.one;have bu:=bn.setRow (cs':=bq);have M:=RTgot.mk (R:=w.heap.size+1+1) 0 a2 B3 (by omega) zR.out
  go_wp2_with (first|(refine zlw l3 ?_)|(refine zsb a8 ?_))
  refine bodyPost_ret (au (cs:=bq) rfl rfl rfl bu underlying50 (by rw[S];kernel_rfl)) rfl ?_
  rw[HH.out];exact M
 ·have bM:y.changed=true:=by cases h:y.changed with
   | true=>rfl
   | false=>exact absurd h hch
  rw[bM]at T;have a7:¬(y.changed=false/\y.left<1):=fun h=>hch h.1
  obtain⟨w1,bG⟩:=zex w0;have D:Zr w0 w1:=by rw[bG];exact kF _ _
  clear hch;go_upto_region 5 with fail
  rw[<-bG];clear bG;as_aux_lemma=>
  have HH:Hid (y.chg us n=(0,{ y with now:=us,changed:=true })):=kD (by rw[ac.out,ab.out,aL.out,if_neg hn,if_neg hn,if_neg a7,if_neg a7];rfl)
  clear ac ab aL hn a7 bc;have Y:=bT.mD D;have bw:=bS.mD D;have an:=bR.mD D;have B1:=B0.trans (D.mono B0.size);have a6:=U.below D;clear bT bS bR B0 U T lT;have l2:=jc bw bk;have O:=iY (ty:=47) (o:=17) (vs:=vs) Y (by rw[ba,bk];decide) bP (by rw[bk];kernel_rfl)
  have hT:w.heap.size<w0.heap.size:=by have:=zR.out;omega
  have a1:=a6.row (g:=w.heap.size) (Apt_.ne (kE _) hT) (I.toList.take 17++vs.toList++I.toList.drop (17+vs.toList.length)).toArray;have J:=Y.setRow (cs':=(I.toList.take 17++vs.toList++I.toList.drop (17+vs.toList.length)).toArray);have V:=an.mO (cs':=(I.toList.take 17++vs.toList++I.toList.drop (17+vs.toList.length)).toArray) (show w.heap.size+1+1≠w.heap.size by omega)
  have B2:=Below.setRow B1 (kE _) (I.toList.take 17++vs.toList++I.toList.drop (17+vs.toList.length)).toArray;have ao:=a6.size;obtain⟨K,av⟩:∃K:Array Value,K=(I.toList.take 17++vs.toList++I.toList.drop (17+vs.toList.length)).toArray:=⟨_,rfl⟩;rw[<-av]at O a1 J V B2 ao;clear av a6 Y an B1;have bF:K.size=25:=by simpa using ao
  have T:=(J.cells 22).trans (Array.getElem?_eq_getElem (by omega))
  have bJ:=J.lt;have bB:=J.free;have bA:=J.mG 22 (.bool true);have bn:=V.far (p:=⟨w.heap.size,22,none⟩) (show w.heap.size+1+1≠w.heap.size by omega) (.bool true)
  have B3:=kG B2 (p:=⟨w.heap.size,22,none⟩) (kE w.heap.size) (.bool true);have a2:=a1.cell (q:=⟨w.heap.size,22,none⟩) (Apt_.ne (kE _) hT) (.bool true);clear a1 B2;generalize K[22]=u17 at *;go_upto_region 6 with (first|(refine zlw l2 ?_)|(refine zsb O ?_))
  clear T bJ bB J V l2 O;generalize (w1.setRow w.heap.size K).setCell ⟨w.heap.size,22,none⟩ (.bool true)=W3 at *;generalize K.setIfInBounds 22 (.bool true)=bq at *;have S:=a2.size;have l3:=aN bA S;have a8:=aR bn rfl S a2.one;have bu:=bn.setRow (cs':=bq);have M:=RTgot.mk (R:=w.heap.size+1+1) 0 a2 B3 (by omega) zR.out
  go_wp2_with (first|(refine zlw l3 ?_)|(refine zsb a8 ?_))
  refine bodyPost_ret (au (cs:=bq) rfl rfl rfl bu underlying50 (by rw[S];kernel_rfl)) rfl ?_
  rw[HH.out];exact M
theorem z2M {l:List Int}{p:Nat}{x:Int}(A:p<l.length)(h:x∉l.take p)(c:l[p]≠x):x∉l.take (p+1):=by
 rw[kZ A];simp only[lE,mg,not_or];exact⟨h,fun e=>c e.symm⟩
theorem z40 {l:List Int}{p k:Nat}(A:p<k)(c:k<=l.length):l[p]'(by omega)∈l.take k:=
 List.mem_iff_getElem.2 ⟨p,by rw[kX];omega,by simp⟩
theorem z0p (n lo hi:Int)(w:World)(m:Nat):
  Calls prog 178 #[.int .i64 n,.int .i64 lo,.int .i64 hi] (w.drewN m) fun e c=>e=.returned (.bool (!outB n lo hi))/\∃q,c=w.drewN q:=
 (dX n lo hi (w.drewN m)).mono fun e I ⟨A,D⟩=>⟨A,m,D.symm⟩
theorem z6U (s j i:Int)(A Bl:Option Addr)(c cb:Nat)(us:List Bool)(l:List Int)(br:us.length<=1000)(hl:l.length<=1000)(w:World)(hB:Reads w Bl (l.map (.int .i64))):
  Calls prog 239 #[.agg #[.int .i64 s,.int .i64 j,.int .i64 i,.slice A us.length c],.slice Bl l.length cb] w (Zq (.int .i64 (LsE us.length l l.length)) w):=by
 have bt:IntKind.i64.wrap ((us.length:Int) - 1)=(us.length:Int) - 1:=by rw[kW];omega
 go_enter func239,ntmps239
 go_wp2_with fail
 obtain⟨W1,O⟩:=zex (w.alloc (.cells #[.int .i64 s,.int .i64 j,.int .i64 i,.slice A us.length c] 47));rw[<-O];have ao:Blk W1 w.heap.size 47 #[.int .i64 s,.int .i64 j,.int .i64 i,.slice A us.length c]:=by rw[O];exact zbn
 have aL:Zr w W1:=by rw[O];exact(kF _ _).alloc (kE _) _
 have lS:=ao.lt;clear O;go_loopw [5,6] (fun q _ wr=>∃k:Nat,k<=l.length/\q=.int .i64 k/\LsE us.length l k=0/\Zr W1 wr) (fun q _ _=>l.length - (RowKit.intOf q).toNat)
 case atStart=>exact⟨0,kP _,rfl,rfl,kF _ _⟩
 case round=>
  obtain⟨k,hk,rfl,Y,ab⟩:=hrel;have av:=ao.below ab lS;have cS:=av.cells;have B2:Zr w wr:=aL.trans (ab.mono (by omega))
  have V:=hB.below B2;by_cases a8:k<l.length
  ·obtain⟨b,off,U,hb,hc⟩:=V.at_ (k:=k) (by simpa using a8)
   have a6:∀q (h:q<l.length),wr.cell? ⟨b,off+q,none⟩=some (.int .i64 l[q]):=by
    intro q h;obtain⟨b',bp,T,_,bb⟩:=V.at_ (k:=q) (by simpa using h)
    rw[U]at T;simp only[lx,Addr.mk.injEq,and_true]at T;obtain⟨rfl,rfl⟩:=T;rw[bb,lf]
   have ac:=kD a6;clear a6;rw[lf]at hc;have D:=iA Y;have a7:l.getD k 0=l[k]:=by simp[kN,a8]
   unfold iv at D;rw[a7]at D;clear a7;by_cases ho:l[k]<0\/(us.length:Int) - 1<l[k]
   ·rw[if_pos ho]at D;have hT:LsE us.length l l.length=7:=by rw[gT (m:=l.length) (by rw[D];decide) (by omega),D]
    have HT:=kD hT;have hO:=eB ho;clear D hT;generalize l[k]=x at hc ho hO;subst U;go_wp2_with fail
    go_quiet (exact z0p _ _ _ _ _)
    go_wp2
    go_ret
    exact⟨by rw[HT.out];rfl,zgr⟩
   ·rw[if_neg ho]at D;have hO:=eo ho;have an:=kD D;clear D ho;have bn:∃x,l[k]=x:=⟨_,rfl⟩;obtain⟨x,hx⟩:=bn;rw[hx]at hc hO;have HX:=kD hx;clear hx;subst U;go_wp2_with fail
    go_quiet (exact z0p _ _ _ _ _)
    go_wp2_with fail
    obtain⟨W3,J⟩:=zex (wr.drewN nq);rw[<-J];have ba:Hid (∀q (h:q<l.length),W3.cell? ⟨b,off+q,none⟩=some (.int .i64 l[q])):=by rw[J];exact ac
    have bc:W3.cell? ⟨b,off+k,none⟩=some (.int .i64 x):=by rw[J];exact hc
    have a1:b<W3.heap.size:=by rw[J];exact hb
    have I:Zr W1 W3:=by rw[J];exact aa ab _
    clear J hc hb ac av cS B2 V;go_loopw [6] (fun q wr=>∃p:Nat,p<=k/\q=.int .i64 p/\x∉l.take p/\Zr W3 wr) (fun q _=>k - (RowKit.intOf q).toNat)
    case atStart=>exact⟨0,kP _,rfl,by simp,kF _ _⟩
    case round=>
     obtain⟨p,hp,rfl,S,M⟩:=hrel;by_cases bk:p<k
     ·have a2:=(M.cell (p:=⟨b,off+p,none⟩) a1).trans (ba.out p (by omega))
      have bq:=(M.cell (p:=⟨b,off+k,none⟩) a1).trans bc;by_cases K:l[p]'(by omega)=x
      ·have hT:LsE us.length l l.length=8:=by
        have h8:LsE us.length l (k+1)=8:=by
         rw[an.out,HX.out,if_pos];rw[<-K];exact z40 bk (by omega)
        rw[gT (m:=l.length) (by rw[h8];decide) (by omega),h8]
       rw[K]at a2;have HT:=kD hT;clear hT K;go_wp2_with fail
       go_quiet (fail)
       go_wp2
       go_ret
       exact⟨by rw[HT.out];rfl,by have:=I.size;exact aa (aL.trans ((I.mono (by omega)).trans (M.mono (by omega)))) _⟩
      ·have hd:(l[p]'(by omega)==x)=false:=by simpa using K
       have HM:=kD (z2M (by omega) S K)
       clear K S;generalize l[p]'(by omega)=y at a2 hd
       go_wp2_with fail
       go_quiet (fail)
       go_wp2
       go_roundw
       case rel=>exact⟨p+1,by omega,by go_num,HM.out,aa M _⟩
       case measure=>simp[RowKit.intOf];omega
     ·obtain rfl:p=k:=by omega
      have HM:=kD S;clear S;go_wp2_with fail
      go_roundw
      case rel=>exact⟨p+1,by omega,by go_num,by rw[an.out,HX.out,if_neg HM.out],I.trans (M.mono I.size)⟩
      case measure=>simp[RowKit.intOf];omega
  ·obtain rfl:k=l.length:=by omega
   have HN:=kD Y;clear Y;go_wp2_with fail
   go_ret
   exact⟨by rw[HN.out];rfl,B2⟩
def TnGo (s j i:Int)(us:List Bool)(l:List Int)(u:Bool)(al:Int)(k:Nat)(E:Int):Prop:=
 (E≠0/\TnE s j i us l u al=E)\/(E=0/\CkE s j i us.length=0/\LsE us.length l l.length=0/\eY us (l.take k) u=false)
theorem z8L (s j i:Int)(A D:Option Addr)(c J:Nat)(us:List Bool)(l:List Int)(E:Int)(M:LsE us.length l l.length=E)(I:us.length<=1000)(O:l.length<=1000)(w:World)(K:Reads w D (l.map (.int .i64))):
  Calls prog 239 #[.agg #[.int .i64 s,.int .i64 j,.int .i64 i,.slice A us.length c],.slice D l.length J] w fun e S=>e=.returned (.int .i64 E)/\Zr w S:=by
 subst M;exact z6U s j i A D c J us l I O w K
theorem z4t (s j i:Int)(A Bl:Option Addr)(c cb:Nat)(us:List Bool)(l:List Int)(u:Bool)(al:Int)(a8:al≠0)(bp:us.length<=1000)(hl:l.length<=1000)(w:World)(hR:Reads w A (us.map .bool))(hB:Reads w Bl (l.map (.int .i64))):
  Calls prog 208 #[.agg #[.int .i64 s,.int .i64 j,.int .i64 i,.slice A us.length c],.slice Bl l.length cb,.bool u,.int .i64 al] w (TnPost s j i A c us l u al w):=by
 have bk:us.length<=maxLen:=by unfold maxLen;omega
 have br:=kD a8;clear a8;by_cases Y:CkE s j i us.length=0
 rotate_left;focus
  have bB:(CkE s j i us.length==0)=false:=by simpa using Y
  have ST:Hid (TnGo s j i us l u al 0 (CkE s j i us.length)):=kD (.inl ⟨Y,by unfold TnE;rw[if_neg Y]⟩)
  clear Y;go_enter func208,ntmps208
  go_wp2_with fail
  refine(eK s j i A us.length c _ bk).mono ?_;rintro e w9 ⟨rfl,I⟩;have bS:Blk w9 w.heap.size 47 #[.int .i64 s,.int .i64 j,.int .i64 i,.slice A us.length c]:=Blk.mD zbn I
  have bR:Blk w9 (w.heap.size+1) 47 #[.int .i64 0,.int .i64 0,.int .i64 0,.slice none 0 0]:=Blk.mD zbn I
  have B9:Zr w w9:=eE I;clear I;go_wp2_with fail
 rotate_left;focus
  have bB:(CkE s j i us.length==0)=true:=by simpa using Y
  have bC:∃E,LsE us.length l l.length=E:=⟨_,rfl⟩;obtain⟨E,O⟩:=bC;have ST:Hid (TnGo s j i us l u al 0 E):=kD (by
   by_cases h0:E=0
   ·exact .inr ⟨h0,Y,by rw[O];exact h0,rfl⟩
   ·exact .inl ⟨h0,by unfold TnE;rw[if_pos Y,if_neg (by rw[O];exact h0),O]⟩)
  have bu:=kD O;clear Y O;go_enter func208,ntmps208
  go_wp2_with fail
  refine(eK s j i A us.length c _ bk).mono ?_;rintro e w1 ⟨rfl,V⟩;have ao:Blk w1 w.heap.size 47 #[.int .i64 s,.int .i64 j,.int .i64 i,.slice A us.length c]:=Blk.mD zbn V
  have a6:Blk w1 (w.heap.size+1) 47 #[.int .i64 0,.int .i64 0,.int .i64 0,.slice none 0 0]:=Blk.mD zbn V
  have B1:Zr w w1:=eE V;clear V;obtain⟨cS,lS⟩:=ao.zc;go_wp2_with fail
  refine(z8L s j i A Bl c cb us l E bu.out bp hl _ (hB.below B1)).mono ?_;rintro e w9 ⟨rfl,I⟩;have bS:=ao.mD I;have bR:=a6.mD I;have B9:Zr w w9:=B1.trans (I.mono B1.size);clear I ao a6 B1 cS lS;go_wp2_with fail
 all_goals
  have lS:=bS.lt;have lR:=bR.lt;go_loopw [10,11] (fun v q wr=>∃(k:Nat) (E:Int),k<=l.length/\v=.int .i64 E/\q=.int .i64 k/\TnGo s j i us l u al k E/\Zr w9 wr) (fun _ q _=>l.length - (RowKit.intOf q).toNat)
  case atStart=>exact⟨0,_,kP _,rfl,rfl,ST.out,kF _ _⟩
  case round=>
   obtain⟨k,E,hk,rfl,rfl,hD,M⟩:=hrel;have bw:=bS.mD M;have T:=bR.mD M;have cS:=bw.cells;have cR:=T.cells;have fR:=T.free;have bD:=T.lt;have B2:Zr w wr:=B9.trans (M.mono B9.size);have aL:=hR.below B2;have av:=hB.below B2;rcases hD with ⟨U,hT⟩|⟨rfl,hC,hL,K⟩
   ·have bL:(E==0)=false:=by simpa using U
    have bG:(E != 0)=true:=by simpa using U
    have HT:=kD hT;have bt:=kD U;clear hT U av aL;by_cases S:k<l.length
    all_goals
     go_wp2_with fail
     refine bodyPost_ret (v:=.tuple #[.agg #[.int .i64 s,.int .i64 j,.int .i64 i,.slice A us.length c],.int .i64 E]) (by simp[results,results208,go_sem,cR,bD]) rfl ?_
     exact TnPost.bad bt.out HT.out (zgr)
   ·have bJ:=(z2u hC).2.2;have bc:=z4y hL;have hT:TnE s j i us l u al=if eY us l u=true then al else 0:=by
     unfold TnE;rw[if_pos hC,if_pos hL]
    have HT:=kD hT;have HC:=kD hC;have HL:=kD hL;have a2:=kD bc;clear hT hC hL bc;by_cases S:k<l.length
    ·have hx:=a2.out l[k] (li S);have bn:eY us (l.take (k+1)) u=(us.getD l[k].toNat false==u):=by
      rw[kZ S];unfold eY at K |-;rw[List.any_append,K];simp
     have ab:(us.getD l[k].toNat false==u)=true->eY us l u=true:=fun h=>by
      unfold eY;exact List.any_eq_true.2 ⟨l[k],li S,h⟩
     have J:=kD bn;have D:=kD ab;clear bn ab K;obtain⟨b,off,bA,hb,hc⟩:=av.at_ (k:=k) (by simpa using S)
     rw[lf]at hc;generalize l[k]=x at hc hx J D;obtain⟨xn,rfl⟩:=lz hx.1;simp only[lO]at J D;have bq:xn<us.length:=by omega
     obtain⟨b2,bK,hA,bM,bb⟩:=aL.at_ (k:=xn) (by simpa using bq)
     rw[lf]at bb;have hg:us.getD xn false=us[xn]:=by simp[kN,bq]
     rw[hg]at J D;clear hg;generalize us[xn]=y at bb J D;subst bA hA;cases hu:(y==u)
     ·go_wp2_with fail
      go_quiet (fail)
      go_wp2
      go_roundw
      case rel=>exact⟨k+1,0,by omega,rfl,by go_num,.inr ⟨rfl,HC.out,HL.out,by rw[J.out];exact hu⟩,aa M _⟩
      case measure=>simp[RowKit.intOf];omega
     ·have ac:Hid (TnE s j i us l u al=al):=kD (by rw[HT.out,D.out hu];rfl)
      clear J D HT;go_wp2_with fail
      go_quiet (fail)
      go_wp2
      go_roundw
      case rel=>exact⟨k+1,al,by omega,rfl,by go_num,.inl ⟨br.out,ac.out⟩,aa M _⟩
      case measure=>simp[RowKit.intOf];omega
    ·obtain rfl:k=l.length:=by omega
     rw[lj]at K;have ac:Hid (TnE s j i us l u al=0):=kD (by rw[HT.out,K];rfl)
     clear HT K;go_wp2_with fail
     refine(z3l s j i A Bl c cb us l u _ aL (by omega) bp av hl a2.out).mono ?_
     rintro e w6 ⟨g,a7,rfl,a1,ba⟩;have an:=T.mD ba;have B6:=B2.trans (ba.mono B2.size);have bN:=B2.size;have bO:=M.size;clear cR fR;have cR:=an.cells;have fR:=an.free;have bF:=an.lt;go_wp2_with fail
     refine bodyPost_ret (v:=.tuple #[.agg #[.int .i64 s,.int .i64 j,.int .i64 i,.slice (some ⟨g,0,none⟩) us.length a7],.int .i64 0]) (by simp[results,results208,go_sem,cR,bF]) rfl ?_
     refine⟨zgr,.inr ⟨ac.out,g,a7,rfl,aI (base:=w.heap.size+2) ?_ (by omega)⟩⟩
     exact ownsRow_setCell_below (ownsRow_setCell_below (ownsRow_setCell_below (ownsRow_setCell_below (aI a1 (by omega)) (by simp) _) (by simp) _) (by simp) _) (by simp) _
theorem zbU (s j i:Int)(A Y:Option Addr)(c cb:Nat)(us:List Bool)(l:List Int)(ab:us.length<=1000)(hl:l.length<=1000)(w:World)(hR:Reads w A (us.map .bool))(hB:Reads w Y (l.map (.int .i64))):
  Calls prog 151 #[.agg #[.int .i64 s,.int .i64 j,.int .i64 i,.slice A us.length c],.slice Y l.length cb] w (TnPost s j i A c us l false 4 w):=by
 obtain⟨V,J⟩:=zex ((w.alloc (.cells #[.int .i64 s,.int .i64 j,.int .i64 i,.slice A us.length c] 47)).alloc (.cells #[.int .i64 0,.int .i64 0,.int .i64 0,.slice none 0 0] 47));have bT:Blk V w.heap.size 47 #[.int .i64 s,.int .i64 j,.int .i64 i,.slice A us.length c]:=by rw[J];exact zbn
 have bR:Blk V (w.heap.size+1) 47 #[.int .i64 0,.int .i64 0,.int .i64 0,.slice none 0 0]:=by rw[J];exact zbn
 have M:Zr w V:=by rw[J];exact zgr
 have hT:=z4t s j i A Y c cb us l false 4 (by decide) ab hl V (hR.below M) (hB.below M)
 have l1:=jc bT rfl;have zR:=kD bR.lt;clear hR hB;go_enter func151,ntmps151
 go_upto_region 1 with fail
 rw[<-J];clear J;go_wp2_with (refine zlw l1 ?_)
 refine hT.mono ?_;rintro e w1 ⟨K,⟨hE,rfl⟩|⟨hE,g,D,rfl,ho⟩⟩
 ·have I:=bR.mD K;have S:=aT (ty:=47) (vs:=#[.int .i64 s,.int .i64 j,.int .i64 i,.slice A us.length c]) I rfl (by simp[Value.oneCell']) (by kernel_rfl)
  have O:=I.setRow (cs':=#[.int .i64 s,.int .i64 j,.int .i64 i,.slice A us.length c]);have U:=Below.setRow (M.trans (K.mono M.size)) (show w.heap.size<=w.heap.size+1 by omega) #[.int .i64 s,.int .i64 j,.int .i64 i,.slice A us.length c]
  clear hT l1;go_wp2_with (refine zsb S ?_)
  refine bodyPost_ret (au (cs:=#[.int .i64 s,.int .i64 j,.int .i64 i,.slice A us.length c]) rfl rfl rfl O underlying47 (by kernel_rfl)) rfl ?_
  exact⟨U,.inl ⟨hE,rfl⟩⟩
 ·have I:=bR.mD K;have S:=aT (ty:=47) (vs:=#[.int .i64 s,.int .i64 j,.int .i64 i,.slice (some ⟨g,0,none⟩) us.length D]) I rfl (by simp[Value.oneCell']) (by kernel_rfl)
  have O:=I.setRow (cs':=#[.int .i64 s,.int .i64 j,.int .i64 i,.slice (some ⟨g,0,none⟩) us.length D]);have U:=Below.setRow (M.trans (K.mono M.size)) (show w.heap.size<=w.heap.size+1 by omega) #[.int .i64 s,.int .i64 j,.int .i64 i,.slice (some ⟨g,0,none⟩) us.length D]
  have T:(w1.setRow (w.heap.size+1) #[.int .i64 s,.int .i64 j,.int .i64 i,.slice (some ⟨g,0,none⟩) us.length D]).ownsRow w.heap.size 4 1 (.slice (some ⟨g,0,none⟩) us.length D) us.length ((bg us l false).map .bool):=ar (be ho M.size) fun q hq=>ak _ _ _ _ (by have:=(ho.lt q hq).1;have:=zR.out;omega)
  have HF:=kD (And.intro U T);clear hT l1 ho T U;go_wp2_with (refine zsb S ?_)
  refine bodyPost_ret (au (cs:=#[.int .i64 s,.int .i64 j,.int .i64 i,.slice (some ⟨g,0,none⟩) us.length D]) rfl rfl rfl O underlying47 (by kernel_rfl)) rfl ?_
  exact⟨HF.out.1,.inr ⟨hE,g,D,rfl,HF.out.2⟩⟩
theorem zc4 (s j i:Int)(A Y:Option Addr)(c cb:Nat)(us:List Bool)(l:List Int)(ab:us.length<=1000)(hl:l.length<=1000)(w:World)(hR:Reads w A (us.map .bool))(hB:Reads w Y (l.map (.int .i64))):
  Calls prog 149 #[.agg #[.int .i64 s,.int .i64 j,.int .i64 i,.slice A us.length c],.slice Y l.length cb] w (TnPost s j i A c us l true 9 w):=by
 obtain⟨V,J⟩:=zex ((w.alloc (.cells #[.int .i64 s,.int .i64 j,.int .i64 i,.slice A us.length c] 47)).alloc (.cells #[.int .i64 0,.int .i64 0,.int .i64 0,.slice none 0 0] 47));have bT:Blk V w.heap.size 47 #[.int .i64 s,.int .i64 j,.int .i64 i,.slice A us.length c]:=by rw[J];exact zbn
 have bR:Blk V (w.heap.size+1) 47 #[.int .i64 0,.int .i64 0,.int .i64 0,.slice none 0 0]:=by rw[J];exact zbn
 have M:Zr w V:=by rw[J];exact zgr
 have hT:=z4t s j i A Y c cb us l true 9 (by decide) ab hl V (hR.below M) (hB.below M)
 have l1:=jc bT rfl;have zR:=kD bR.lt;clear hR hB;go_enter func149,ntmps149
 go_upto_region 1 with fail
 rw[<-J];clear J;go_wp2_with (refine zlw l1 ?_)
 refine hT.mono ?_;rintro e w1 ⟨K,⟨hE,rfl⟩|⟨hE,g,D,rfl,ho⟩⟩
 ·have I:=bR.mD K;have S:=aT (ty:=47) (vs:=#[.int .i64 s,.int .i64 j,.int .i64 i,.slice A us.length c]) I rfl (by simp[Value.oneCell']) (by kernel_rfl)
  have O:=I.setRow (cs':=#[.int .i64 s,.int .i64 j,.int .i64 i,.slice A us.length c]);have U:=Below.setRow (M.trans (K.mono M.size)) (show w.heap.size<=w.heap.size+1 by omega) #[.int .i64 s,.int .i64 j,.int .i64 i,.slice A us.length c]
  clear hT l1;go_wp2_with (refine zsb S ?_)
  refine bodyPost_ret (au (cs:=#[.int .i64 s,.int .i64 j,.int .i64 i,.slice A us.length c]) rfl rfl rfl O underlying47 (by kernel_rfl)) rfl ?_
  exact⟨U,.inl ⟨hE,rfl⟩⟩
 ·have I:=bR.mD K;have S:=aT (ty:=47) (vs:=#[.int .i64 s,.int .i64 j,.int .i64 i,.slice (some ⟨g,0,none⟩) us.length D]) I rfl (by simp[Value.oneCell']) (by kernel_rfl)
  have O:=I.setRow (cs':=#[.int .i64 s,.int .i64 j,.int .i64 i,.slice (some ⟨g,0,none⟩) us.length D]);have U:=Below.setRow (M.trans (K.mono M.size)) (show w.heap.size<=w.heap.size+1 by omega) #[.int .i64 s,.int .i64 j,.int .i64 i,.slice (some ⟨g,0,none⟩) us.length D]
  have T:(w1.setRow (w.heap.size+1) #[.int .i64 s,.int .i64 j,.int .i64 i,.slice (some ⟨g,0,none⟩) us.length D]).ownsRow w.heap.size 4 1 (.slice (some ⟨g,0,none⟩) us.length D) us.length ((bg us l true).map .bool):=ar (be ho M.size) fun q hq=>ak _ _ _ _ (by have:=(ho.lt q hq).1;have:=zR.out;omega)
  have HF:=kD (And.intro U T);clear hT l1 ho T U;go_wp2_with (refine zsb S ?_)
  refine bodyPost_ret (au (cs:=#[.int .i64 s,.int .i64 j,.int .i64 i,.slice (some ⟨g,0,none⟩) us.length D]) rfl rfl rfl O underlying47 (by kernel_rfl)) rfl ?_
  exact⟨HF.out.1,.inr ⟨hE,g,D,rfl,HF.out.2⟩⟩
def TxS.lefts (y:TxS):Int × Int × Int:=if y.mF≠0 then (0,0,y.mF)else (zcg y.s y.j y.i y.may,y.left,0)
theorem RTx.qM {w:World}{P:Nat->Prop}{x:DevS}{y:TxS}{c:Array Value}(h:RTx w P x y c):∃N nc,c[17]?=some (.int .i64 y.s)/\c[18]?=some (.int .i64 y.j)/\c[19]?=some (.int .i64 y.i)/\c[20]?=some (.slice N y.now.length nc)/\Reads w N (y.now.map .bool)/\(y.now=[]\/Lies P N)/\y.now.length<=nc:=by
 obtain⟨p,rfl,h⟩:=h;exact⟨p.N,p.nc,rfl,rfl,rfl,rfl,h.now,h.ln,h.nc⟩
theorem z2R {y:TxS}(ok:y.Ok):y.now.length<=800:=by
 have c:=ok.now;have A:=de ok.rg;unfold rgB at c;omega
theorem zbV {w:World}{P:Nat->Prop}{x:DevS}{y:TxS}{tv:Array Value}(hq:RTx w P x y tv)(hP:∀b,w.heap.size<=b->P b)(ok:y.Ok)(hc:y.Clean)(Bl:Option Addr)(cb:Nat)(l:List Int)(hl:l.length<=1000)(hB:Reads w Bl (l.map (.int .i64))):
  Calls prog 68 #[.agg tv,.slice Bl l.length cb] w (RTgot w P x (y.free l)):=by
 obtain⟨w0,Y⟩:=zex ((w.alloc (.cells tv 50)).alloc (.cells txZ 50));have bT:Blk w0 w.heap.size 50 tv:=by rw[Y];exact zbn
 have bR:Blk w0 (w.heap.size+1) 50 txZ:=by rw[Y];exact zbn
 have B0:Zr w w0:=by rw[Y];exact zgr
 have bb:=hq.apt B0 w0.heap.size;have HN:=kD (Apt_.new hP B0.size);have V:=hq.size;have br:=hq.one;have zR:=kD bR.lt;have a6:=iH bb;have HB:=kD (hB.below B0);have bW:=z2R ok;have HW:Hid (y.free l=if y.mF≠0 then (y.mF,y)else if y.nY l≠0 then (y.nY l,y.brk)else (0,y.change (bg y.now l false) l.length)):=kD rfl
 have ab:Hid (y.nY l=if TnE y.s y.j y.i y.now l false 4≠0 then TnE y.s y.j y.i y.now l false 4 else y.mP l.length):=kD rfl
 have aL:Hid (y.chg (bg y.now l false) l.length=if y.mP l.length≠0 then (12,y.brk)else (0,y.change (bg y.now l false) l.length)):=kD rfl
 have S:Hid (y.mP l.length=0\/y.mP l.length=12):=kD (by unfold TxS.mP;split;exact .inl rfl;split;exact .inr rfl;exact .inl rfl)
 clear hq hP hB;unfold txZ txR at Y;go_enter func68,ntmps68
 go_upto_region 1 with fail
 rw[<-Y];clear Y;have l0:=aN bT V;go_wp2_with (refine zlw l0 ?_)
 refine a6.mono ?_;rintro e w1 ⟨rfl,K⟩;have c:=bT.mD K;have T:=bR.mD K;have B1:=B0.trans (K.mono B0.size);have U:=bb.below K;have bC:=kD (HB.out.below K);have bD:=kD K.size;clear a6 l0 bT bR B0 K bb;by_cases hE:y.mF=0
 rotate_left
 ·as_aux_lemma=>
  have HH:Hid (y.free l=(y.mF,y)):=kD (by rw[HW.out,if_pos hE])
  clear HW ab aL S;generalize y.mF=E at *;have bQ:(E != 0)=true:=by simpa using hE
  have l1:=aN c V;have ao:=aR T rfl V br;have bF:=T.setRow (cs':=tv);have I:=RTgot.mk (R:=w.heap.size+1) E U B1 (by omega) zR.out
  clear hE;go_wp2_with (first|(refine zlw l1 ?_)|(refine zsb ao ?_))
  refine bodyPost_ret (au (cs:=tv) rfl rfl rfl bF underlying50 (by rw[V];kernel_rfl)) rfl ?_
  rw[HH.out];exact I
 have a1:Hid (y.free l=if y.nY l≠0 then (y.nY l,y.brk)else (0,y.change (bg y.now l false) l.length)):=kD (by rw[HW.out,if_neg (by rw[hE];simp)])
 rw[hE];clear hE HW;obtain⟨N,nc,bu,bw,bA,bB,bN,bS,bP⟩:=U.qM;have bJ:=(c.cells 17).trans bu;have bK:=(c.cells 18).trans bw;have bL:=(c.cells 19).trans bA;have bM:=(c.cells 20).trans bB;have lT:=c.lt;have bq:=zbU y.s y.j y.i N Bl nc cb y.now l (by omega) hl w1 bN bC.out
 go_wp2_with fail
 refine bq.mono ?_;clear bq bJ bK bL bM lT bu bw bA bB;rintro e w2 ⟨a2,⟨hT,rfl⟩|⟨hT,g,ba,rfl,ho⟩⟩
 ·as_aux_lemma=>
  have HH:Hid (y.free l=(TnE y.s y.j y.i y.now l false 4,y.brk)):=kD (by
   have e:y.nY l=TnE y.s y.j y.i y.now l false 4:=by rw[ab.out,if_pos hT]
   rw[a1.out,e,if_pos hT])
  clear a1 ab aL S;generalize TnE y.s y.j y.i y.now l false 4=E at *;have bU:(E != 0)=true:=by simpa using hT
  go_upto_region 5 with fail
  obtain⟨w3,D⟩:=zex (w2.alloc (.cells #[.int .i64 y.s,.int .i64 y.j,.int .i64 y.i,.slice N y.now.length nc] 47));have A:Zr w1 w3:=by rw[D];exact a2.alloc a2.size _
  rw[<-D];clear D hT;have a8:=c.mD A;have ac:=T.mD A;have B3:=B1.trans (A.mono B1.size);have bp:=gc (U.below A) E;have l1:=aN a8 V;clear c T B1 U;go_wp2_with (refine zlw l1 ?_)
  refine bp.mono ?_;rintro e w9 ⟨av,rfl,O,M⟩;have J:=O.size;have ao:=aR (ac.mD M) rfl J O.one;have a7:=(ac.mD M).setRow (cs':=av);have I:=RTgot.mk (R:=w.heap.size+1) E O (B3.trans (M.mono B3.size)) (by omega) zR.out
  clear bp l1;go_wp2_with (refine zsb ao ?_)
  refine bodyPost_ret (au (cs:=av) rfl rfl rfl a7 underlying50 (by rw[J];kernel_rfl)) rfl ?_
  rw[HH.out];exact I
 ·as_aux_lemma=>
  have HH:Hid (y.free l=y.chg (bg y.now l false) l.length):=kD (by
   have e:y.nY l=y.mP l.length:=by rw[ab.out,if_neg (by rw[hT];simp)]
   rw[a1.out,aL.out,e];rcases S.out with h|h<;>rw[h]<;>rfl)
  clear a1 ab aL S hT;have bc:(bg y.now l false).length=y.now.length:=cH _ _ _;generalize bg y.now l false=us at *;rw[<-bc]at ho;have an:us=[]\/Lies (Apt_ P w.heap.size w0.heap.size) (some ⟨g,0,none⟩):=.inr (gl ho fun b hb=>HN.out b (kO bD.out hb))
  have bO:=z2U ho;have bk:=Reads.ng ho;go_upto_region 5 with fail
  rw[<-bc];obtain⟨w3,D⟩:=zex (w2.alloc (.cells #[.int .i64 y.s,.int .i64 y.j,.int .i64 y.i,.slice (some ⟨g,0,none⟩) us.length ba] 47));obtain⟨G,hG⟩:=zex w2.heap.size;have bG:Blk w3 G 47 #[.int .i64 y.s,.int .i64 y.j,.int .i64 y.i,.slice (some ⟨g,0,none⟩) us.length ba]:=by rw[D,hG];exact zbn
  have bn:Zr w2 w3:=by rw[D];exact(kF _ _).alloc (kE _) _
  have A:Zr w1 w3:=by rw[D];exact a2.alloc a2.size _
  rw[<-D,<-hG];clear D hG;have a8:=c.mD A;have ac:=T.mD A;have B3:=B1.trans (A.mono B1.size);have hch:=z28 (U.below A) ok hc (some ⟨g,0,none⟩) ba us (bk.below bn) an bO l.length Bl cb;have l1:=aN a8 V;have l2:=jc bG rfl;obtain⟨rr,bt⟩:=zxe (y.chg us l.length);rw[bt]at hch HH;clear c T B1 U an bk ho bc bt;go_wp2_with (first|(refine zlw l1 ?_)|(refine zlw l2 ?_))
  refine hch.mono ?_;rintro e w9 ⟨av,rfl,O,M⟩;obtain⟨e9,y9⟩:=rr;have J:=O.size;have ao:=aR (ac.mD M) rfl J O.one;have a7:=(ac.mD M).setRow (cs':=av);have I:=RTgot.mk (R:=w.heap.size+1) e9 O (B3.trans (M.mono B3.size)) (by omega) zR.out
  clear hch l1 l2;go_wp2_with (refine zsb ao ?_)
  refine bodyPost_ret (au (cs:=av) rfl rfl rfl a7 underlying50 (by rw[J];kernel_rfl)) rfl ?_
  rw[HH.out];exact I
def z6j (s j i:Int)(near many:Nat)(us:List Bool)(w:World)(e:Ending)(w':World):Prop:=
 Zr w w'/\∃g cap av cv,e=.returned (.tuple #[.agg #[.int .i64 s,.int .i64 j,.int .i64 i,.slice (some ⟨g,0,none⟩) us.length cap],.slice av (ay us near many).length cv,.int .i64 0]) /\
  w'.ownsRow w.heap.size 4 1 (.slice (some ⟨g,0,none⟩) us.length cap) us.length ((bg us (ay us near many) true).map .bool) /\
  w'.ownsRow w.heap.size 3 1 (.slice av (ay us near many).length cv) (ay us near many).length ((ay us near many).map (.int .i64))
theorem z84 (s j i:Int)(A:Option Addr)(c near many:Nat)(us:List Bool)(a1:near<us.length)(a2:us.length<=1000)(w:World)
  (hR:Reads w A (us.map .bool)) (hE:CkE s j i us.length=0) (bD:many<=fU us):
  Calls prog 147 #[.agg #[.int .i64 s,.int .i64 j,.int .i64 i,.slice A us.length c],.int .i64 near,.int .i64 many] w (z6j s j i near many us w):=by
 have bu:(CkE s j i us.length != 0)=false:=by simp[hE]
 have bw:(CkE s j i us.length==0)=true:=by simp[hE]
 have bA:outB near 0 ((us.length:Int) - 1)=false:=eo (by omega)
 have bJ:decide ((many:Int)<0)=false:=by simp
 have a6:=z3T a1;have bL:=z2Q us;have bC:decide (fU us<many)=false:=by simp;omega
 have HE:=kD hE;have bt:=kD a6;clear hE a6;obtain⟨i0,hi,bk,bn,bp⟩:=info_parts Tryz.info3;go_enter func147,ntmps147
 go_wp2_with fail
 refine(eK s j i A us.length c _ (by unfold maxLen;omega)).mono ?_
 rintro e w1 ⟨rfl,Y⟩;have bS:Blk w1 w.heap.size 47 #[.int .i64 s,.int .i64 j,.int .i64 i,.slice A us.length c]:=Blk.mD zbn Y
 have bR:Blk w1 (w.heap.size+1) 47 #[.int .i64 0,.int .i64 0,.int .i64 0,.slice none 0 0]:=Blk.mD zbn Y
 have B1:Zr w w1:=eE Y;clear Y;have cS:=bS.cells;go_wp2_with fail
 refine(dX _ _ _ _).mono ?_;rintro e w2 ⟨rfl,rfl⟩;go_wp2_with fail
 refine(z4b s j i A c us _ (hR.below B1) a2).mono ?_;rintro e w2 ⟨rfl,ab⟩;replace bS:=bS.mD ab;replace bR:=bR.mD ab;have B2:=B1.trans (ab.mono B1.size);clear ab B1 cS;obtain⟨cS,lS⟩:=bS.zc;have lR:=bR.lt;go_wp2_with fail
 go_loopw [10,11] (fun v q wr=>∃k:Nat,k<=us.length/\q=.int .i64 k/\wr.ownsRow w2.heap.size 3 1 v (aM us near k).length ((aM us near k).map (.int .i64))/\(aM us near k).length<=many/\Zr w2 wr) (fun _ q _=>us.length - (RowKit.intOf q).toNat)
 case atStart=>exact⟨0,kP _,rfl,by rw[jA];exact World.ownsRow_nil _ _ _ _,by rw[jA];simp,kF _ _⟩
 case round=>
  obtain⟨k,hk,rfl,D,a7,O⟩:=hrel;obtain⟨av,cv,rfl⟩:=aw D;have bb:=bS.mD O;obtain⟨cS,bM⟩:=bb.zc;have B3:=B2.trans (O.mono B2.size);have bF:=i6 us near k;have bc:=O.size;by_cases bG:k<us.length
  ·by_cases bK:(aM us near k).length<many
   ·have hm:(near+k) % us.length<us.length:=Nat.mod_lt _ (by omega)
    have bB:0<=((near:Int)+(k:Int)) % (us.length:Int)/\((near:Int)+(k:Int)) % (us.length:Int)<(us.length:Int):=⟨Int.emod_nonneg _ (by omega),Int.emod_lt_of_pos _ (by omega)⟩
    obtain⟨b,off,rfl,hb,hc⟩:=(hR.below B3).at_ (k:=(near+k) % us.length) (by simpa using hm)
    rw[lf]at hc;cases hu:us[(near+k) % us.length]<;>rw[hu]at hc
    ·have hr:=kD (je (us:=us) (near:=near) (k:=k) (by rw[kQ hm,hu]))
     clear hu;go_wp2_with (at_builtin;refine wpList_append_own _ rfl _ _ 53 rfl w2.heap.size 3 i0 (.int .i64 0) 1 8 underlying53 hi bk bn bp rfl (by decide) _ _ _ rfl (D.alloc _) ⟨wr.heap.size,0,none⟩ 1 1 [.int .i64 (((near:Int)+(k:Int)) % (us.length:Int))] rfl rfl (cell_one_new _ _ _) (by simp[Value.oneCell']) (by simp only[maxLen];omega) (by omega) (by simp;omega) ?_;intro v' w4 V aL _;obtain⟨g',br,rfl,_,_⟩:=dA V (by omega))
     have a8:Zr w2 w4:=(O.alloc bc _).grown aL (by simp;omega) (fun q hq=>(D.lt q hq).1)
     go_wp2
     go_roundw
     case rel=>exact⟨k+1,by omega,by go_num,by rw[hr.out];simpa using V,by rw[hr.out];simp;omega,a8⟩
     case measure=>simp[RowKit.intOf];omega
    ·have hr:=kD (iS (us:=us) (near:=near) (k:=k) (by rw[kQ hm,hu]))
     clear hu;go_wp2_with fail
     go_roundw
     case rel=>exact⟨k+1,by omega,by go_num,by rw[hr.out];exact D,by rw[hr.out];exact a7,O⟩
     case measure=>simp[RowKit.intOf];omega
   ·have K:ay us near many=aM us near k:=by
     obtain⟨r,hr⟩:=z16 us near k us.length hk;have:(aM us near k).length=many:=by omega
     unfold ay ew;rw[<-hr,<-this];simp
    have hd:decide ((aM us near k).length<many)=false:=by simp;omega
    have I:=kD K;have ac:Hid (∀b∈aM us near k,0<=b/\b<(us.length:Int)):=kD (by rw[<-K];exact fj (by omega))
    clear K;have hL:(aM us near k).length<=1000:=by omega
    have ao:=kD (hR.below B3);have an:=kD (Reads.ng D);go_wp2_with fail
    refine(z3l s j i A av c cv us (aM us near k) true _ ao.out (by omega) a2 an.out hL ac.out).mono ?_
    rintro e w5 ⟨g,U,rfl,S,M⟩;have J:=(bR.mD O).mD M;have cR:=J.cells;have fR:=J.free;have bq:=J.lt;have T:=aq D M;have B5:=B3.trans (M.mono B3.size);have zz:=B2.size;go_wp2_with fail
    refine bodyPost_ret (v:=.tuple #[.agg #[.int .i64 s,.int .i64 j,.int .i64 i,.slice (some ⟨g,0,none⟩) us.length U],.slice av (aM us near k).length cv,.int .i64 0]) (by simp[results,results147,go_sem,cR]) rfl ?_
    refine⟨zgr,g,U,av,cv,by rw[I.out],?_,?_⟩
    ·rw[I.out];exact aI (ownsRow_setCell_below (ownsRow_setCell_below (ownsRow_setCell_below (ownsRow_setCell_below S (by simp;omega) _) (by simp;omega) _) (by simp;omega) _) (by simp;omega) _) (by omega)
    ·rw[I.out];exact aI (ownsRow_setCell_below (ownsRow_setCell_below (ownsRow_setCell_below (ownsRow_setCell_below T (by simp;omega) _) (by simp;omega) _) (by simp;omega) _) (by simp;omega) _) (by omega)
  ·obtain rfl:k=us.length:=by omega
   have K:ay us near many=aM us near us.length:=z1P a7;by_cases ba:True
   ·skip
    have I:=kD K;have ac:Hid (∀b∈aM us near us.length,0<=b/\b<(us.length:Int)):=kD (by rw[<-K];exact fj (by omega))
    clear K;have hL:(aM us near us.length).length<=1000:=by omega
    have ao:=kD (hR.below B3);have an:=kD (Reads.ng D);go_wp2_with fail
    refine(z3l s j i A av c cv us (aM us near us.length) true _ ao.out (by omega) a2 an.out hL ac.out).mono ?_
    rintro e w5 ⟨g,U,rfl,S,M⟩;have J:=(bR.mD O).mD M;have cR:=J.cells;have fR:=J.free;have bq:=J.lt;have T:=aq D M;have B5:=B3.trans (M.mono B3.size);have zz:=B2.size;go_wp2_with fail
    refine bodyPost_ret (v:=.tuple #[.agg #[.int .i64 s,.int .i64 j,.int .i64 i,.slice (some ⟨g,0,none⟩) us.length U],.slice av (aM us near us.length).length cv,.int .i64 0]) (by simp[results,results147,go_sem,cR]) rfl ?_
    refine⟨zgr,g,U,av,cv,by rw[I.out],?_,?_⟩
    ·rw[I.out];exact aI (ownsRow_setCell_below (ownsRow_setCell_below (ownsRow_setCell_below (ownsRow_setCell_below S (by simp;omega) _) (by simp;omega) _) (by simp;omega) _) (by simp;omega) _) (by omega)
    ·rw[I.out];exact aI (ownsRow_setCell_below (ownsRow_setCell_below (ownsRow_setCell_below (ownsRow_setCell_below T (by simp;omega) _) (by simp;omega) _) (by simp;omega) _) (by simp;omega) _) (by omega)
   ·exact absurd trivial ba
end Go.Proofs.YtejmknghkbobnaaGreatDoor
