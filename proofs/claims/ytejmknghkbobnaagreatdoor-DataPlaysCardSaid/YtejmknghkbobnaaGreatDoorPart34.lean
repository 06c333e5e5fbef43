import Derived.Test.YtejmknghkbobnaaGreatDoorPart33
set_option linter.all false
set_option maxRecDepth 100000
set_option maxHeartbeats 0
namespace Go.Proofs.YtejmknghkbobnaaGreatDoor
open Go.Proofs.Tryz
open Go.RowKit Go.Maps
section
variable {w:World}{T:Nat}{F:List Nat}{D:Nat}{y:TxS}{x:DevS}{tv:Array Value}
def TxS.blk (y:TxS):(Int × Int × Int) × List Bool × Int:=if y.mF≠0 then ((0,0,0),[],y.mF)else ((y.s,y.j,y.i),y.now,0)
def TxS.rcs (y:TxS):List Rec × Int:=if y.mF≠0 then ([],y.mF)else (y.recs,0)
def jt (y:TxS)(w:World)(e:Ending)(w':World):Prop:=
 ∃A c,e=.returned (.tuple #[.agg #[.int .i64 y.blk.1.1,.int .i64 y.blk.1.2.1,.int .i64 y.blk.1.2.2,.slice A y.blk.2.1.length c],.int .i64 y.blk.2.2])/\Reads w' A (y.blk.2.1.map .bool)/\Zr w w'
def z0K (y:TxS)(w:World)(e:Ending)(w':World):Prop:=
 ∃A c,e=.returned (.tuple #[.slice A y.rcs.1.length c,.int .i64 y.rcs.2])/\RunAt w' A y.rcs.1/\Zr w w'
theorem z8i (ok:y.Ok):y.blk.2.1.length<=1000:=by
 unfold TxS.blk;split
 ·exact kP _
 ·exact kO (z2R ok) (by decide)
theorem zbR (ok:y.Ok)(c:y.Clean):y.rcs.1.length<=1000:=by
 unfold TxS.rcs;split
 ·exact kP _
 ·have:=z0C c (i:=y.writes.length+1) (d:=true) (out:=y.recs) (.inl ⟨rfl,rfl⟩)
  have:=ok.len
  unfold TxS.left TxS.most at this;show y.recs.length<=1000
  split at this<;>omega
theorem zbk (w:World)(h:TxAt w T F D y):Calls prog 70 #[.pointer (some ⟨T,0,none⟩)] w (jt y w):=by
 unfold jt TxS.blk;by_cases I:y.mF=0
 ·rw[if_neg (by simpa using I)]
  refine(z3E T F D y w h I).mono ?_;rintro e M ⟨v,rfl,K,J⟩;obtain⟨A,c,rfl⟩:=aw K;exact⟨A,c,rfl,Reads.ng K,J⟩
 ·rw[if_pos I];refine(z1Q _ _ w h.st I).mono ?_;rintro e M ⟨rfl,J⟩;exact⟨none,0,rfl,Reads.nil,J⟩
theorem z60 {w:World}{P:Nat->Prop}(M:RTx w P x y tv):Calls prog 71 #[.agg tv] w (jt y w):=by
 unfold jt TxS.blk;refine(z9c M).mono ?_;rintro e O ⟨J,⟨I,rfl⟩|⟨I,A,c,rfl,K⟩⟩
 ·rw[if_pos I];exact⟨none,0,rfl,Reads.nil,J⟩
 ·simp only[if_neg (show ¬y.mF≠0 by simpa using I)]
  exact⟨A,c,rfl,K.below J,J⟩
theorem zcH (w:World)(h:TxAt w T F D y)(M:y.Clean):Calls prog 64 #[.pointer (some ⟨T,0,none⟩)] w (z0K y w):=by
 unfold z0K TxS.rcs;by_cases I:y.mF=0
 ·rw[if_neg (by simpa using I)]
  refine(z7m T F D y w h M I).mono ?_;rintro e O ⟨v,rfl,K,J⟩;obtain⟨A,c,rfl⟩:=aw K;exact⟨A,c,rfl,Reads.qm K,J⟩
 ·rw[if_pos I];refine(z3j _ _ w h.st I).mono ?_;rintro e O ⟨rfl,J⟩;exact⟨none,0,rfl,Reads.nil,J⟩
theorem zc0 {w:World}{P:Nat->Prop}(O:RTx w P x y tv)(ok:y.Ok)(M:y.Clean):Calls prog 72 #[.agg tv] w (z0K y w):=by
 unfold z0K TxS.rcs;refine(z7h O ok M).mono ?_;rintro e S ⟨J,⟨I,rfl⟩|⟨I,A,c,rfl,K⟩⟩
 ·rw[if_pos I];exact⟨none,0,rfl,Reads.nil,J⟩
 ·rw[if_neg (by simpa using I)]
  exact⟨A,c,rfl,Reads.qm K,J⟩
end
def chE (y:TxS)(l:List Int):Int:=if y.mF≠0 then y.mF else if 8<l.length then 3 else 0
def chK (y:TxS)(l:List Int)(k:Nat):Int:=if chE y l≠0 then chE y l else LsE y.blk.2.1.length l k
theorem zbl (y:TxS)(l:List Int):chK y l l.length=aC y l:=by
 unfold chK chE aC TxS.blk;by_cases c:y.mF=0
 ·by_cases A:8<l.length
  ·simp[c,A]
  ·simp[c,A]
 ·simp[c]
theorem z2t {y:TxS}{l:List Int}{k m:Nat}(h:chK y l k≠0)(A:k<=m):chK y l m=chK y l k:=by
 unfold chK at *;split
 ·rfl
 ·rename_i c;rw[if_neg c]at h;exact gT h A
theorem z5N {y:TxS}{l:List Int}{k:Nat}(h:chK y l k=0):chK y l (k+1)=iv y.blk.2.1.length l k:=by
 unfold chK at *;by_cases c:chE y l≠0
 ·rw[if_pos c]at h;exact absurd h c
 ·rw[if_neg c]at h |-;exact iA h
theorem zbm {y:TxS}{l:List Int}{k:Nat}(O:k<l.length)(h:chK y l k=0)(K:l[k]<0\/(y.blk.2.1.length:Int) - 1<l[k]):l[k]∉l.take k:=by
 intro J;obtain⟨p,M,A⟩:=List.mem_iff_getElem.1 J;rw[kX]at M;rw[List.getElem_take]at A;have I:chK y l p=0:=by
  by_cases e:chK y l p=0
  ·exact e
  ·have:=z2t e (show p<=k by omega);omega
 have c:=z5N I;unfold iv at c;rw[if_pos (by rw[kN,kQ (by omega)];simpa[A]using K)]at c
 have:=z2t (show chK y l (p+1)≠0 by rw[c];decide) (show p+1<=k by omega)
 omega
theorem z2N {l:List Int}{p:Nat}{x:Int}(c:p<l.length):x∈l.take (p+1)↔x∈l.take p\/l[p]=x:=by
 rw[kZ c,lE,mg];exact⟨fun h=>h.imp id Eq.symm,fun h=>h.imp id Eq.symm⟩
theorem ji {w:World}{P:Nat->Prop}{x:DevS}{y:TxS}{tv:Array Value}(hq:RTx w P x y tv)(ok:y.Ok)(A:Option Addr)(c:Nat)(l:List Int)(hl:l.length<=1000)(hA:SlI w A c l):
  Calls prog 163 #[.agg tv,.slice A l.length c] w (Zq (.int .i64 (aC y l)) w):=by
 obtain⟨w0,ao⟩:=zex (w.alloc (.cells tv 50));have bT:Blk w0 w.heap.size 50 tv:=by rw[ao];exact zbn
 have B0:Zr w w0:=by rw[ao];exact zgr
 have bG:=hq.size;have ac:=z60 (hq.below B0);have bq:=hA.reads.below B0;have hn:=z8i ok;have HD:=kD (zbl y l);have ab:Hid (chK y l 0=chE y l):=kD (by unfold chK;split<;>first|rfl|(rename_i h;exact(Decidable.of_not_not h).symm))
 have aL:Hid (chE y l=if y.blk.2.2≠0 then y.blk.2.2 else if 8<l.length then 3 else 0):=kD (by unfold chE TxS.blk;split<;>simp_all)
 have ba:Hid (∀k,chK y l k=0->chK y l (k+1)=iv y.blk.2.1.length l k):=kD fun k h=>z5N h
 have a8:Hid (∀k (h:k<l.length),chK y l k=0->(l[k]<0\/(y.blk.2.1.length:Int) - 1<l[k])->l[k]∉l.take k):=kD fun k h I h2=>zbm h I h2
 have bB:Hid (∀k m,chK y l k≠0->k<=m->chK y l m=chK y l k):=kD fun k m I h2=>z2t I h2
 unfold jt at ac;clear hq hA;go_enter func163,ntmps163
 go_upto_region 1 with fail
 rw[<-ao];clear ao;have l0:=aN bT bG;go_wp2_with (refine zlw l0 ?_)
 generalize y.blk=bk at *;obtain⟨⟨s,j,i⟩,us,E⟩:=bk;simp only at ac hn aL ba a8
 refine ac.mono ?_;rintro e w1 ⟨A1,c1,rfl,bC,a2⟩;have B1:=B0.trans (a2.mono B0.size);have bt:=bq.below a2;obtain⟨W1,S⟩:=zex (w1.alloc (.cells #[.int .i64 s,.int .i64 j,.int .i64 i,.slice A1 us.length c1] 47));have bb:Blk W1 w1.heap.size 47 #[.int .i64 s,.int .i64 j,.int .i64 i,.slice A1 us.length c1]:=by rw[S];exact zbn
 have bn:Zr w W1:=by rw[S];exact B1.alloc B1.size _
 have br:Reads W1 A (l.map (.int .i64)):=by rw[S];exact bt.below ((kF _ _).alloc (kE _) _)
 have lS:=bb.lt;clear ac bC l0 bT B0 a2 B1 bt bq;go_upto_region 2 with fail
 rw[<-S];clear S;have M:(chE y l=E/\(E==0)=false)\/(chE y l=3/\E=0/\(8:Int)<l.length)\/(chE y l=0/\E=0/\¬(8:Int)<l.length):=by
  rw[aL.out];by_cases I:E=0
  ·by_cases h2:8<l.length
   ·exact .inr (.inl ⟨by simp[I,h2],I,by omega⟩)
   ·exact .inr (.inr ⟨by simp[I,h2],I,by omega⟩)
  ·exact .inl ⟨by simp[I],by simpa using I⟩
 clear aL;rcases M with ⟨he,I⟩|⟨he,rfl,I⟩|⟨he,rfl,I⟩
 all_goals
  have HE:=kD (ab.out.trans he);clear he ab;go_wp2_with fail
  clear I;go_loopw [6,7,8] (fun e q _ wr=>∃k:Nat,k<=l.length/\q=.int .i64 k/\e=.int .i64 (chK y l k)/\Zr W1 wr) (fun _ q _ _=>l.length - (RowKit.intOf q).toNat)
  case atStart=>exact⟨0,kP _,rfl,by rw[HE.out],kF _ _⟩
  case round=>
   obtain⟨k,hk,rfl,rfl,V⟩:=hrel;have bc:=bb.below V lS;have cS:=bc.cells;have B2:Zr w wr:=bn.trans (V.mono bn.size);by_cases a6:k<l.length
   rotate_left
   ·obtain rfl:k=l.length:=by omega
    rw[HD.out];go_wp2_with fail
    go_ret
    exact⟨rfl,B2⟩
   by_cases h0:chK y l k=0
   rotate_left
   ·have bK:(chK y l k==0)=false:=by simpa using h0
    have HF:=kD (bB.out k l.length h0 hk);clear h0;generalize chK y l k=ev at *;go_wp2_with fail
    go_ret
    exact⟨by rw[<-HD.out,HF.out];rfl,B2⟩
   have HN:=kD (ba.out k h0);have an:=a8.out k a6 h0;rw[h0];clear h0;obtain⟨b,off,bp,hb,hc⟩:=(br.below V).at_ (k:=k) (by simpa using a6)
   have a7:Hid (∀q (h:q<l.length),wr.cell? ⟨b,off+q,none⟩=some (.int .i64 l[q])):=kD (by
    intro q h;obtain⟨b',bJ,a1,_,bD⟩:=(br.below V).at_ (k:=q) (by simpa using h)
    rw[bp]at a1;simp only[lx,Addr.mk.injEq,and_true]at a1;obtain⟨rfl,rfl⟩:=a1;rw[bD,lf])
   rw[lf]at hc;have U:iv us.length l k=if l[k]<0\/(us.length:Int) - 1<l[k]then 7 else if l[k]∈l.take k then 8 else 0:=by
    unfold iv;rw[kN,kQ a6];rfl
   obtain⟨z,hz⟩:=zxe (l[k]);rw[hz]at hc U an;have HZ:=kD hz;have M:∃O:Int,(iv us.length l k=if z∈l.take k then 8 else O)/\(decide (z<0)=true/\O=7\/decide (z<0)=false/\decide ((us.length:Int)<=z)=true/\O=7\/decide (z<0)=false/\decide ((us.length:Int)<=z)=false/\O=0):=by
    by_cases I:z<0
    ·exact⟨7,by rw[U,if_pos (.inl I),if_neg (an (.inl I))],.inl ⟨by simpa using I,rfl⟩⟩
    ·by_cases h2:(us.length:Int)<=z
     ·exact⟨7,by rw[U,if_pos (.inr (by omega)),if_neg (an (.inr (by omega)))],.inr (.inl ⟨by simpa using I,by simpa using h2,rfl⟩)⟩
     ·exact⟨0,by rw[U,if_neg (by omega)],.inr (.inr ⟨by simpa using I,by simpa using h2,rfl⟩)⟩
   obtain⟨O,hs,M⟩:=M;have HS:=kD hs;clear hz U an hs;subst bp;rcases M with ⟨d1,M⟩|⟨d1,d2,M⟩|⟨d1,d2,M⟩
   all_goals
    have ab:=kD M;clear M;go_wp2_with fail
    go_quiet (fail)
    go_wp2_with fail
    obtain⟨W3,J⟩:=zex (wr.drewN nq);rw[<-J];have bA:Hid (∀q (h:q<l.length),W3.cell? ⟨b,off+q,none⟩=some (.int .i64 l[q])):=by rw[J];exact a7
    have bF:W3.cell? ⟨b,off+k,none⟩=some (.int .i64 z):=by rw[J];exact hc
    have bu:b<W3.heap.size:=by rw[J];exact hb
    have av:Zr W1 W3:=by rw[J];exact aa V _
    clear J hc hb a7 bc cS B2 d1;go_loopw [6,8] (fun e q wr=>∃p:Nat,p<=k/\q=.int .i64 p/\e=.int .i64 (if z∈l.take p then 8 else O)/\Zr W3 wr) (fun _ q _=>k - (RowKit.intOf q).toNat)
    case atStart=>exact⟨0,kP _,rfl,by simp[ab.out],kF _ _⟩
    case round=>
     obtain⟨p,hp,rfl,rfl,Y⟩:=hrel;by_cases bM:p<k
     ·have bw:=(Y.cell (p:=⟨b,off+p,none⟩) bu).trans (bA.out p (by omega))
      have bL:=(Y.cell (p:=⟨b,off+k,none⟩) bu).trans bF;have HM:=kD (z2N (l:=l) (p:=p) (x:=z) (by omega))
      by_cases K:l[p]'(by omega)=z
      ·have HF:Hid ((if z∈l.take (p+1)then (8:Int)else O)=8):=kD (if_pos (HM.out.2 (.inr K)))
       rw[K]at bw;clear K;generalize (if z∈l.take p then (8:Int)else O)=ev
       go_wp2_with fail
       go_quiet (fail)
       go_wp2_with fail
       go_roundw
       case rel=>exact⟨p+1,by omega,by go_num,by rw[HF.out],aa Y _⟩
       case measure=>simp[RowKit.intOf];omega
      ·have HF:Hid ((if z∈l.take (p+1)then (8:Int)else O)=if z∈l.take p then 8 else O):=kD (by simp only[HM.out,K,or_false])
       have M:(l[p]'(by omega)==z)=false:=by simpa using K
       clear K;generalize (if z∈l.take p then (8:Int)else O)=ev at *
       generalize l[p]'(by omega)=zp at bw M
       go_wp2_with fail
       go_quiet (fail)
       go_wp2_with fail
       go_roundw
       case rel=>exact⟨p+1,by omega,by go_num,by rw[HF.out],aa Y _⟩
       case measure=>simp[RowKit.intOf];omega
     ·obtain rfl:p=k:=by omega
      rw[<-HS.out,<-HN.out];go_wp2_with fail
      go_roundw
      case rel=>exact⟨p+1,by omega,by go_num,rfl,av.trans (Y.mono av.size)⟩
      case measure=>simp[RowKit.intOf];omega
def TxS.nz (y:TxS)(x:DevS)(kd:Int)(l:List Int)(size from_ to_:Int)(k:Nat):ByteArray × Int:=if from_<to_ then cO y x kd size from_ to_ l k else (⟨#[]⟩,0)
theorem TxS.qf (y:TxS)(x:DevS)(kd:Int)(l:List Int)(size from_ to_:Int)(k:Nat):(y.nz x kd l size from_ to_ k).1.size<=96*k:=by
 unfold TxS.nz;split
 ·exact z06 ..
 ·exact kP _
theorem TxS.qi {y:TxS}{x:DevS}{kd size from_ to_:Int}{l:List Int}{k m:Nat}(h:(y.nz x kd l size from_ to_ k).2≠0)(A:k<=m):y.nz x kd l size from_ to_ m=y.nz x kd l size from_ to_ k:=by
 unfold TxS.nz at *;split
 ·rename_i c;rw[if_pos c]at h;exact z2g h A
 ·rfl
theorem TxS.qh {y:TxS}{x:DevS}{kd size from_ to_:Int}{l:List Int}{k:Nat}{v:Int}(J:l[k]?=some v)(h:(y.nz x kd l size from_ to_ k).2=0)(K:(k:Int)*96<size):
  y.nz x kd l size from_ to_ (k+1)=if min (min ((k:Int)*96+96) size) to_<=max ((k:Int)*96) from_ then y.nz x kd l size from_ to_ k
  else if (y.part x kd v).2≠0 then (⟨#[]⟩,(y.part x kd v).2)
  else if ((y.part x kd v).1.size:Int)≠min ((k:Int)*96+96) size - k*96 then (⟨#[]⟩,6)
  else ((y.nz x kd l size from_ to_ k).1++(y.part x kd v).1.extract (max (from_ - k*96) 0).toNat (min (to_ - k*96) (y.part x kd v).1.size).toNat,0):=by
 have A:l.getD k 0=v:=by rw[kN,J];rfl
 unfold TxS.nz at *;by_cases c:from_<to_
 ·rw[if_pos c]at h |-;rw[if_pos c];show (if (cO y x kd size from_ to_ l k).2≠0 then cO y x kd size from_ to_ l k else _)=_
  rw[if_neg (by simpa using h),A]
  by_cases I:min ((k:Int)*96+96) size<=from_\/to_<=(k:Int)*96
  ·rw[if_pos I,if_pos (by omega)]
  ·rw[if_neg I,if_neg (show ¬min (min ((k:Int)*96+96) size) to_<=max ((k:Int)*96) from_ by omega)]
 ·rw[if_neg c,if_pos (by omega),if_neg c]
theorem z5p {w:World}{P:Nat->Prop}{x:DevS}{y:TxS}{tv:Array Value}(hq:RTx w P x y tv)(a1:x.Calm)(ok:y.Ok)(hc:y.Clean)(kd:Int)(A:Option Addr)(c:Nat)(l:List Int)(hA:Reads w A (l.map (.int .i64)))(size off n:Int)(hs:0<=size/\size<=768)(hl:(l.length:Int)=(size+95) / 96)(ho:0<=off)(hn:0<=n):
  Calls prog 166 #[.agg tv,.int .i64 kd,.slice A l.length c,.int .i64 size,.int .i64 off,.int .i64 n] w (Zq (.tuple #[.string (y.nz x kd l size (min off size) (min off size+min n (size - min off size)) l.length).1,.int .i64 (y.nz x kd l size (min off size) (min off size+min n (size - min off size)) l.length).2]) w):=by
 obtain⟨w0,aL⟩:=zex (w.alloc (.cells tv 50));have bT:Blk w0 w.heap.size 50 tv:=by rw[aL];exact zbn
 have B0:Zr w w0:=by rw[aL];exact zgr
 have bB:=hq.size;have HQ:Hid (∀W,Zr w0 W->RTx W P x y tv/\Blk W w.heap.size 50 tv/\Reads W A (l.map (.int .i64))):=kD fun W hW=>⟨(hq.below B0).below hW,bT.mD hW,(hA.below B0).below hW⟩
 obtain⟨J,a6⟩:=zxe (min off size);have hf:0<=J/\J<=size:=by omega
 obtain⟨d,hd⟩:=zxe (min n (size - J));obtain⟨I,ht⟩:=zex (J+d);have H3:Hid ((n<size - J->J+n=I)/\(¬n<size - J->size=I)):=kD (by omega)
 have bJ:J<=I/\I<=size:=by omega
 rw[a6,hd,<-ht];have bb:=kD a6;have HL:=kD hl;have bN:l.length<=8:=by omega
 clear a6 hd hq hA bT hl ht;go_enter func166,ntmps166
 go_upto_region 1 with fail
 rw[<-aL];clear aL;go_upto_region 3 with fail
 rw[bb.out];go_upto_if 32 with fail
 go_cut [16]from 32 to 35 (fun s16 wx=>s16=.int .i64 I/\wx=w0)
 case first=>
  have hw:n<size - J->IntKind.i64.wrap (J+n)=J+n:=fun h=>by rw[kW];omega
  by_cases h3:n<size - J
  ·have hw:=hw h3;have h4:=kD (H3.out.1 h3);go_wp2_with fail
   go_meet
   case rel=>exact⟨by rw[<-h4.out],rfl⟩
  ·have h4:=kD (H3.out.2 h3);clear hw;go_wp2_with fail
   go_meet
   case rel=>exact⟨by rw[<-h4.out],rfl⟩
 case rest=>
 obtain⟨rfl,hwx⟩:=hcut;replace hwx:=hwx.symm;subst hwx;clear bb;go_wp2_with fail
 go_loopw [14,17] (fun o q wr=>∃k:Nat,k<=l.length/\q=.int .i64 k/\o=.string (y.nz x kd l size J I k).1/\(y.nz x kd l size J I k).2=0/\Zr w0 wr) (fun _ q _=>l.length - (RowKit.intOf q).toNat)
 case atStart=>exact⟨0,kP _,rfl,by unfold TxS.nz;split<;>rfl,by unfold TxS.nz;split<;>rfl,kF _ _⟩
 case round=>
  obtain⟨k,hk,rfl,rfl,h0,hb⟩:=hrel;have B1:=B0.trans (hb.mono B0.size);by_cases a8:k<l.length
  rotate_left
  ·obtain rfl:k=l.length:=by omega
   have V:Hid (y.nz x kd l size J I l.length=((y.nz x kd l size J I l.length).1,0)):=kD (Prod.ext rfl h0);clear h0;generalize (y.nz x kd l size J I l.length).1=o at *;go_wp2_with fail
   go_ret2
   exact⟨by rw[V.out];rfl,B1⟩
  obtain⟨v,hv⟩:∃v,l[k]?=some v:=⟨_,kQ a8⟩;have bw:(k:Int)*96<size:=by have:=HL.out;omega
  have ac:=TxS.qh (x:=x) (kd:=kd) (from_:=J) (to_:=I) hv h0 bw;rw[show min (min ((k:Int)*96+96) size) I=min ((k:Int)*96+96) (min size I) by omega]at ac
  have bc:Hid ((y.nz x kd l size J I (k+1)).2≠0->y.nz x kd l size J I l.length=y.nz x kd l size J I (k+1)):=kD fun h=>TxS.qi h a8
  have bn:=TxS.qf y x kd l size J I k;obtain⟨b,ao,rfl,bt,ab⟩:=(HQ.out wr hb).2.2.at_ (k:=k) (by simpa using a8)
  rw[lf,(mf.1 hv).2]at ab;have H0:=kD h0;have av:Hid (∀W,Zr wr W->Blk W w.heap.size 50 tv/\W.cell? ⟨b,ao+k,none⟩=some (.int .i64 v)):=kD fun W hW=>⟨(HQ.out wr hb).2.1.mD hW,(hW.cell (p:=⟨b,ao+k,none⟩) bt).trans ab⟩
  obtain⟨o,ba⟩:=zex ((y.nz x kd l size J I k).1);rw[<-ba]at bn ac |-;have HO:=kD ba;clear ba h0 hv ab;have bL:k<8:=by omega
  have e1:((k:Int)+1)*96=(k:Int)*96+96:=by omega
  go_upto_region 10 with fail
  clear e1;obtain⟨lo,hlo⟩:=zex (max ((k:Int)*96) J);obtain⟨hi,a7⟩:=zex (min ((k:Int)*96+96) (min size I));obtain⟨en,a2⟩:=zex (min ((k:Int)*96+96) size);rw[<-hlo,<-a7,<-a2];rw[<-hlo,<-a7,<-a2]at ac;have O:=kD ac;have b1:(k:Int)*96<=lo/\hi<=en/\(k:Int)*96<=en/\en<=(k:Int)*96+96:=by omega
  have bq:Hid ((max (J - (k:Int)*96) 0).toNat=(lo - (k:Int)*96).toNat):=kD (by omega)
  have br:Hid (∀z:Nat,(z:Int)=en - (k:Int)*96->(min (I - (k:Int)*96) z).toNat=(hi - (k:Int)*96).toNat):=kD (by omega)
  clear ac hlo a7 a2;by_cases M:hi<=lo
  ·have V:Hid (y.nz x kd l size J I (k+1)=y.nz x kd l size J I k):=kD (by rw[O.out,if_pos M])
   go_wp2_with fail
   go_roundw
   case rel=>exact⟨k+1,by omega,by go_num,by rw[V.out,HO.out],by rw[V.out];exact H0.out,hb⟩
   case measure=>simp[RowKit.intOf];omega
  have U:=kD M;have bF:lo<hi:=by omega
  clear M;go_wp2_with fail
  have ab:=(av.out _ (kF _ _).drew).2;refine zrm [.take 0,.take 1,.take 2,.take 3,.take 4,.take 5,.one 6,.take 7,.take 8,.take 9,.take 10,.take 11] 12 (fun W=>Blk W w.heap.size 50 tv/\W.cell? ⟨b,ao+k,none⟩=some (.int .i64 v)) (av.out _ (kF _ _).drew) ?_
  simp only[kR,kS,Ms.fill,kT,kV];refine ai (by rfl) (.agg tv) (fun w' bC=>cr 50 _ rfl rfl (aN bC.1 bB)) ?_
  (try simp only[Act.put,kJ,kH,kI])
  iterate 5 refine ztk ?_
  refine ah (by rfl) fun K hK=>?_
  go_simp;refine(z5m (HQ.out _ (hb.trans (kF _ _).drew)).1 a1 ok hc kd v).mono ?_;rintro e w1 ⟨rfl,bk⟩;have Y:Zr wr w1:=(kF _ _).drew.trans bk;refine hK _ _ (fun _=>av.out _ Y) ?_
  clear hK K ab bk;generalize y.part x kd v=Pp at *;obtain⟨pd,pe⟩:=Pp;simp only at O |-
  have B2:=hb.trans (Y.mono hb.size);have B3:=B0.trans (B2.mono B0.size);clear Y av;iterate 5 refine ztk ?_
  refine ax ?_;have hlo:0<=(k:Int)*96:=by omega
  have bP:IntKind.i64.wrap (en - (k:Int)*96)=en - (k:Int)*96:=by rw[kW];omega
  have bQ:IntKind.i64.wrap (lo - (k:Int)*96)=lo - (k:Int)*96:=by rw[kW];omega
  have bR:IntKind.i64.wrap (hi - (k:Int)*96)=hi - (k:Int)*96:=by rw[kW];omega
  by_cases he:pe=0
  rotate_left
  ·have V:Hid (y.nz x kd l size J I l.length=(⟨#[]⟩,pe)):=kD (by
    have e1:y.nz x kd l size J I (k+1)=(⟨#[]⟩,pe):=by rw[O.out,if_neg (by have:=U.out;omega),if_pos he]
    rw[bc.out (by rw[e1];exact he),e1])
   have hq:(pe==0)=false:=by simpa using he
   have bO:(pe != 0)=true:=by simpa using he
   clear he;go_wp2_with fail
   go_ret2
   exact⟨by rw[V.out];rfl,B3⟩
  subst he;by_cases hz:(pd.size:Int)≠en - (k:Int)*96
  ·have V:Hid (y.nz x kd l size J I l.length=(⟨#[]⟩,6)):=kD (by
    have e1:y.nz x kd l size J I (k+1)=(⟨#[]⟩,6):=by rw[O.out,if_neg (by have:=U.out;omega),if_neg (by decide),if_pos hz]
    rw[bc.out (by rw[e1];decide),e1])
   have hq:((pd.size:Int) != en - (k:Int)*96)=true:=by simpa using hz
   clear hz;go_wp2_with fail
   go_ret2
   exact⟨by rw[V.out];rfl,B3⟩
  have bp:(pd.size:Int)=en - (k:Int)*96:=by simpa using hz
  have hq:((pd.size:Int) != en - (k:Int)*96)=false:=by simpa using hz
  obtain⟨an,bA⟩:∃an:Nat,lo - (k:Int)*96=(an:Int):=⟨_,(Int.toNat_of_nonneg (by omega)).symm⟩
  obtain⟨S,bu⟩:∃S:Nat,hi - (k:Int)*96=(S:Int):=⟨_,(Int.toNat_of_nonneg (by have:=U.out;omega)).symm⟩
  have V:Hid (y.nz x kd l size J I (k+1)=(o++pd.extract an S,0)):=kD (by
   rw[O.out,if_neg (by have:=U.out;omega),if_neg (by decide),if_neg hz,bq.out,br.out _ bp,bA,bu];rfl)
  have bM:an<=S:=by have:=U.out;omega
  have bK:S<=pd.size:=by omega
  have bG:pd.size<=96:=by omega
  have bD:¬9223372036854775807<o.size+(min S pd.size - an):=by omega
  clear hz bp O;go_wp2_with fail
  go_roundw
  case rel=>exact⟨k+1,by omega,by go_num,by rw[V.out],by rw[V.out],B2⟩
  case measure=>simp[RowKit.intOf];omega
theorem z1W {y:TxS}{l:List Int}(h:aC y l=0):l.length<=8:=by
 have A:=z0e h;unfold aC at h;rw[if_neg (by simpa using A)]at h
 by_cases c:8<l.length
 ·rw[if_pos c]at h;exact absurd h (by decide)
 ·omega
theorem zbY {w:World}{P:Nat->Prop}{x:DevS}{y:TxS}{tv:Array Value}(hq:RTx w P x y tv)(aL:x.Calm)(ok:y.Ok)(hc:y.Clean)(kd:Int)(A:Option Addr)(c:Nat)(l:List Int)(hl:l.length<=1000)(hA:SlI w A c l):
  Calls prog 87 #[.agg tv,.int .i64 kd,.slice A l.length c] w (j7 w (y.mY x kd l)):=by
 obtain⟨i0,hi,bw,bB,bA⟩:=info_parts Tryz.oO;have bk:=kD hi;obtain⟨w0,Y⟩:=zex (w.alloc (.cells tv 50));have bT:Blk w0 w.heap.size 50 tv:=by rw[Y];exact zbn
 have B0:Zr w w0:=by rw[Y];exact zgr
 have bc:=hq.size;have a1:=ji (hq.below B0) ok A c l hl (hA.below B0);have HQ:Hid (∀W,Zr w0 W->RTx W P x y tv/\Blk W w.heap.size 50 tv/\Reads W A (l.map (.int .i64))):=kD fun W hW=>⟨(hq.below B0).below hW,bT.mD hW,(hA.reads.below B0).below hW⟩
 have l0:=aN bT bc;clear hi hA hq bT;unfold j7;go_enter func87,ntmps87
 go_upto_region 1 with fail
 rw[<-Y];clear Y;go_wp2_with (refine zlw l0 ?_)
 refine a1.mono ?_;rintro e w1 ⟨rfl,ao⟩;have B1:=B0.trans (ao.mono B0.size);by_cases hE:aC y l=0
 rotate_left
 ·have HX:Hid (y.mY x kd l=([],aC y l)):=kD (by unfold TxS.mY;rw[if_pos hE])
  have hq:(aC y l != 0)=true:=by simpa using hE
  clear a1 hE;go_wp2_with fail
  go_ret2
  rw[HX.out];exact⟨B1,_,rfl,World.ownsRow_nil _ _ _ _⟩
 have HX:Hid (y.mY x kd l=bI y x kd l l.length):=kD (by unfold TxS.mY;rw[if_neg (by simpa using hE)])
 have bF:=z1W hE;rw[hE];clear a1 hE l0;go_wp2_with fail
 go_loopw [9,10] (fun o q wr=>∃k:Nat,k<=l.length/\q=.int .i64 k/\(bI y x kd l k).2=0/\wr.ownsRow w1.heap.size 9 1 o k ((bI y x kd l k).1.map .string)/\Zr w1 wr) (fun _ q _=>l.length - (RowKit.intOf q).toNat)
 case atStart=>exact⟨0,kP _,rfl,rfl,World.ownsRow_nil _ _ _ _,kF _ _⟩
 case round=>
  obtain⟨k,hk,rfl,h0,I,hb⟩:=hrel;have bJ:w.heap.size<=w1.heap.size:=B1.size;have bD:=hb.size;by_cases a8:k<l.length
  ·obtain⟨v,hv⟩:∃v,l[k]?=some v:=⟨_,kQ a8⟩;have a7:l.getD k 0=v:=by rw[kN,hv];rfl
   have bb:bI y x kd l (k+1)=if (y.part x kd v).2≠0 then ([],(y.part x kd v).2)else ((bI y x kd l k).1++[(y.part x kd v).1],0):=by
    show (if (bI y x kd l k).2≠0 then bI y x kd l k else _)=_
    rw[if_neg (by simpa using h0),a7]
   have ac:=kD bb;have bq:Hid ((bI y x kd l (k+1)).2≠0->y.mY x kd l=bI y x kd l (k+1)):=kD fun bt=>by rw[HX.out];exact z24 bt (by omega)
   have an:=ao.trans (hb.mono ao.size);obtain⟨b,V,rfl,br,O⟩:=(HQ.out wr an).2.2.at_ (k:=k) (by simpa using a8)
   rw[lf,(mf.1 hv).2]at O;have ab:Hid (∀W,Zr wr W->Blk W w.heap.size 50 tv/\W.cell? ⟨b,V+k,none⟩=some (.int .i64 v)):=kD fun W hW=>⟨(HQ.out wr an).2.1.mD hW,(hW.cell (p:=⟨b,V+k,none⟩) br).trans O⟩
   have hQ:=(HQ.out _ an.drew).1;obtain⟨av,cv,rfl⟩:=aw I;clear bb a7 hv h0 O;go_wp2_with fail
   have O:=(ab.out _ (kF _ _).drew).2;refine zrm [.take 0,.take 1,.take 2,.take 3,.take 4,.take 5,.one 6,.take 7,.take 8,.take 9,.take 10,.take 11] 12 (fun W=>Blk W w.heap.size 50 tv/\W.cell? ⟨b,V+k,none⟩=some (.int .i64 v)) (ab.out _ (kF _ _).drew) ?_
   simp only[kR,kS,Ms.fill,kT,kV];refine ai (by rfl) (.agg tv) (fun w' bu=>cr 50 _ rfl rfl (aN bu.1 bc)) ?_
   (try simp only[Act.put,kJ,kH,kI])
   iterate 5 refine ztk ?_
   refine ah (by rfl) fun K hK=>?_
   go_simp;refine(z5m hQ aL ok hc kd v).mono ?_;rintro e w3 ⟨rfl,a6⟩;have M:Zr wr w3:=(kF _ _).drew.trans a6;refine hK _ _ (fun _=>ab.out _ M) ?_
   clear hK K O a6 hQ;have B3:=hb.trans (M.mono hb.size);have U:=aq I M;clear I;generalize y.part x kd v=Pp at *;obtain⟨pd,pe⟩:=Pp;simp only at ac |-
   iterate 5 refine ztk ?_
   refine ax ?_;by_cases he:pe=0
   rotate_left
   ·have J:Hid (y.mY x kd l=([],pe)):=kD (by
     have e1:bI y x kd l (k+1)=([],pe):=by rw[ac.out,if_pos he]
     rw[bq.out (by rw[e1];exact he),e1])
    have bG:(pe != 0)=true:=by simpa using he
    clear he;go_wp2_with fail
    go_ret2
    rw[J.out];exact⟨B1.trans (B3.mono B1.size),_,rfl,World.ownsRow_nil _ _ _ _⟩
   subst he;have J:Hid (bI y x kd l (k+1)=((bI y x kd l k).1++[pd],0)):=kD (by rw[ac.out,if_neg (by decide)])
   have hi:=bk.out;have bK:w1.heap.size<=w3.heap.size:=B3.size;go_wp2_with (at_builtin;refine wpList_append_own _ rfl _ _ 76 rfl w1.heap.size 9 i0 (.string ⟨#[]⟩) 1 16 underlying76 hi bw bB bA rfl (by decide) _ _ _ rfl (U.alloc _) ⟨w3.heap.size,0,none⟩ 1 1 [.string pd] rfl rfl (cell_one_new _ _ _) (by simp[Value.oneCell']) (by simp only[maxLen];omega) (by omega) (by simp;omega) ?_;intro v' w4 S a2 _;obtain⟨g',bC,rfl,_,_⟩:=dA S (by omega))
   have ba:Zr w1 w4:=(B3.alloc B3.size _).grown a2 (by simp;have:=B3.size;omega) (fun q hq=>by have:=(U.lt q hq).1;exact this)
   go_wp2_with fail
   go_roundw
   case rel=>exact⟨k+1,by omega,by go_num,by rw[J.out],by rw[J.out,List.map_append];simpa using S,ba⟩
   case measure=>simp[RowKit.intOf];omega
  ·obtain rfl:k=l.length:=by omega
   have J:Hid (y.mY x kd l=((bI y x kd l l.length).1,0)):=kD (by rw[HX.out];exact Prod.ext rfl h0)
   have bn:=kD (z0i h0);have B4:=B1.trans (hb.mono B1.size);have bp:=kD I;obtain⟨av,cv,rfl⟩:=aw I;clear h0 I;go_wp2_with fail
   go_ret2
   rw[J.out];exact⟨B4,_,rfl,by simp only[bn.out];exact aI bp.out B1.size⟩
theorem TxS.pI {y:TxS}{x:DevS}{kd:Int}{l:List Int}{size from_ to_:Int}(h:from_<=to_):y.nz x kd l size from_ to_ l.length=if from_=to_ then (⟨#[]⟩,0)else y.text x kd l size from_ to_:=by
 unfold TxS.nz TxS.text;split
 ·rw[if_neg (by omega)]
 ·rw[if_pos (by omega)]
theorem z1x {y:TxS}{l:List Int}{size:Int}{bad long:Bool}(c:aC y l=0):aQ y l size bad long=if fw size=false\/bad=true then 7 else if long=true then 3 else if (l.length:Int)≠(size+95) / 96 then 6 else 0:=by
 unfold aQ fw;rw[if_neg (by simpa using c)]
 by_cases h:size<0\/768<size
 ·have e:decide (0<=size/\size<=768)=false:=decide_eq_false (by omega)
  rw[if_pos (.inl h),if_pos (.inl e)]
 ·have e:decide (0<=size/\size<=768)=true:=decide_eq_true (by omega)
  rw[e];simp only[h,false_or,Bool.true_eq_false]
theorem zc2 {w:World}{P:Nat->Prop}{x:DevS}{y:TxS}{tv:Array Value}(hq:RTx w P x y tv)(ab:x.Calm)(ok:y.Ok)(hc:y.Clean)(kd:Int)(A:Option Addr)(c:Nat)(l:List Int)(hl:l.length<=1000)(hA:SlI w A c l)(size off n:Int):
  Calls prog 85 #[.agg tv,.int .i64 kd,.slice A l.length c,.int .i64 size,.int .i64 off,.int .i64 n] w (Zq (.tuple #[.string (y.mZ x kd l size off n).1,.int .i64 (y.mZ x kd l size off n).2]) w):=by
 obtain⟨w0,S⟩:=zex (w.alloc (.cells tv 50));have bT:Blk w0 w.heap.size 50 tv:=by rw[S];exact zbn
 have B0:Zr w w0:=by rw[S];exact zgr
 have aL:=hq.size;have ao:=ji (hq.below B0) ok A c l hl (hA.below B0);have HQ:Hid (∀W,Zr w0 W->RTx W P x y tv/\Blk W w.heap.size 50 tv/\Reads W A (l.map (.int .i64))):=kD fun W hW=>⟨(hq.below B0).below hW,bT.mD hW,(hA.reads.below B0).below hW⟩
 have l0:=aN bT aL;have U:Hid (y.mZ x kd l size off n=if aQ y l size (decide (off<0)||decide (n<0)) false≠0 then (⟨#[]⟩,aQ y l size (decide (off<0)||decide (n<0)) false)
 else if min off size=min off size+min n (size - min off size)then (⟨#[]⟩,0)
 else y.text x kd l size (min off size) (min off size+min n (size - min off size))):=kD rfl
 have Y:=kD (fun h0:aC y l=0=>z1x (size:=size) (bad:=decide (off<0)||decide (n<0)) (long:=false) h0)
 have a1:Hid (fw size=true->0<=size/\size<=768):=kD fun h=>of_decide_eq_true h
 clear hA hq bT;go_enter func85,ntmps85
 go_upto_region 1 with fail
 rw[<-S];clear S;go_wp2_with (refine zlw l0 ?_)
 refine ao.mono ?_;rintro e w1 ⟨rfl,ac⟩;have B1:=B0.trans (ac.mono B0.size);clear l0 ao;by_cases V:aC y l=0
 rotate_left
 ·have HX:Hid (y.mZ x kd l size off n=(⟨#[]⟩,aC y l)):=kD (by
   have M:aQ y l size (decide (off<0)||decide (n<0)) false=aC y l:=by unfold aQ;rw[if_pos V]
   rw[U.out,M,if_pos V])
  clear U Y;generalize aC y l=E at *;have a8:(E==0)=false:=by simpa using V
  have ba:(E != 0)=true:=by simpa using V
  clear V;go_wp2_with fail
  go_ret2
  exact⟨by rw[HX.out];rfl,B1⟩
 have HS:=kD (Y.out V);rw[V];clear V Y;have hd:(fw size=false)\/(fw size=true/\decide (off<0)=true)\/(fw size=true/\decide (off<0)=false/\decide (n<0)=true)\/(fw size=true/\decide (off<0)=false/\decide (n<0)=false):=by
  cases fw size<;>cases decide (off<0)<;>cases decide (n<0)<;>simp
 by_cases J:fw size=true/\decide (off<0)=false/\decide (n<0)=false
 rotate_left
 ·have HX:Hid (y.mZ x kd l size off n=(⟨#[]⟩,7)):=kD (by
   have M:aQ y l size (decide (off<0)||decide (n<0)) false=7:=by
    rw[HS.out,if_pos];revert J
    cases fw size<;>cases decide (off<0)<;>cases decide (n<0)<;>simp
   rw[U.out,M,if_pos (by decide)])
  clear U HS;rcases hd with h1|⟨h1,h2⟩|⟨h1,h2,h3⟩|hd
  case inr.inr.inr=>exact absurd hd J
  all_goals
   clear J;go_wp2_with (refine(bV size _).mono ?_;rintro e w' ⟨rfl,rfl⟩);go_ret2;exact⟨by rw[HX.out];rfl,B1⟩
 obtain⟨h1,h2,h3⟩:=J;have an:=a1.out h1;have av:0<=off/\0<=n:=by have:=of_decide_eq_false h2;have:=of_decide_eq_false h3;omega
 have K:Hid (aQ y l size (decide (off<0)||decide (n<0)) false=if (l.length:Int)≠(size+95) / 96 then 6 else 0):=kD (by rw[HS.out,h1,h2,h3];rfl)
 have O:=z04 A c l hl size an w1;clear hd HS;by_cases I:(l.length:Int)=(size+95) / 96
 rotate_left
 ·have HX:Hid (y.mZ x kd l size off n=(⟨#[]⟩,6)):=kD (by
   have M:=K.out;rw[if_pos I]at M;rw[U.out,M,if_pos (by decide)])
  rw[if_pos I]at O;clear U K I;go_wp2_with (first|(refine(bV size _).mono ?_;rintro e w' ⟨rfl,rfl⟩)|(refine O.mono ?_;rintro e w' ⟨rfl,rfl⟩))
  go_ret2
  exact⟨by rw[HX.out];rfl,B1⟩
 have HX:Hid (y.mZ x kd l size off n=y.nz x kd l size (min off size) (min off size+min n (size - min off size)) l.length):=kD (by
  have M:=K.out;rw[if_neg (by simpa using I)]at M
  rw[U.out,M,if_neg (by decide),TxS.pI (by omega)])
 rw[if_neg (by simpa using I)]at O
 obtain⟨hQ,a2,hR⟩:=HQ.out w1 ac;have l1:=aN a2 aL;have a7:=z5p hQ ab ok hc kd A c l hR size off n an I av.1 av.2;clear U K I HQ hQ hR;generalize y.nz x kd l size (min off size) (min off size+min n (size - min off size)) l.length=r at *;go_wp2_with (first|(refine(bV size _).mono ?_;rintro e w' ⟨rfl,rfl⟩)|(refine O.mono ?_;rintro e w' ⟨rfl,rfl⟩)|(refine zlw l1 ?_))
 refine a7.mono ?_;rintro e w3 ⟨rfl,a6⟩;go_wp2_with fail
 go_ret2
 exact⟨by rw[HX.out];rfl,B1.trans (a6.mono B1.size)⟩
structure Live (x:DevS)(s j i:Int)(us:List Bool)(N:Nat):Prop where
 runs:x.nO N
 size:(x.stable.length:Int)=s
 head:∃q,HeadAt x 1 q
 map_:x.ge (1+j)=0/\∃q,x.fr (1+j)=⟨5,q,gn us⟩
 len:us.length=(rgB s j i).toNat
def begTx (s j i:Int)(us:List Bool):TxS:=⟨s,j,i,us,us,[],false,false,false⟩
theorem z3I {y:TxS}{us:List Bool}{n:Nat}(h:y.mP n=0)(A:n≠0):(y.change us n).now=us:=by
 unfold TxS.mP at h;unfold TxS.change;rw[if_neg A]at h |-;split
 ·rename_i c;rw[if_pos c]at h;exact absurd (show (12:Int)=0 from h) (by decide)
 ·rfl
theorem zat {a b:List Bool}(h:a.length=b.length){k:Nat}(c:k<a.length)(A:(orL a b).getD k false=false):a.getD k true=false/\b.getD k true=false:=by
 have e:(orL a b)[k]?=some (a[k]||b[k]'(h▸c)):=by
  unfold orL;rw[List.getElem?_zipWith,kQ c,kQ (h▸c)]
 rw[kN,e]at A;simp only[Option.getD_some,Bool.or_eq_false_iff]at A;rw[kN,kQ c,kN,kQ (h▸c)];exact A
theorem z9E {y:TxS}{near many:Int}(ok:y.Ok)(S:y.mF=0)(h:(y.take near many).1=0):
  ((y.nC near many).length:Int)=many/\∀b∈y.nC near many,0<=b/\b<y.now.length/\y.was.getD b.toNat true=false/\y.now.getD b.toNat true=false/\(y.take near many).2.now.getD b.toNat false=true:=by
 have K:y.now.length=y.was.length:=by rw[ok.now,ok.was]
 have J:y.may.length=y.now.length:=dm K;have hC:CkE y.s y.j y.i y.may.length=0:=by rw[J];exact kw ok
 have ac:¬y.mF≠0:=by simpa using S
 by_cases c:AlE y.s y.j y.i y.may near many=0
 rotate_left
 ·obtain⟨e,-⟩:=zb8 S c;rw[e]at h;exact absurd h c
 obtain⟨U,M⟩:=zb9 S c _ rfl;rw[U]at h;have hch:y.mP (ay y.may near.toNat many.toNat).length=0:=h;rw[if_pos hch]at M;have ab:=z0u hC c;unfold AlE at c;rw[if_pos hC]at c;split at c
 ·exact absurd (show (7:Int)=0 from c) (by decide)
 rename_i hr
 split at c
 ·exact absurd (show (11:Int)=0 from c) (by decide)
 rename_i hf
 have I:(ay y.may near.toNat many.toNat).length=many.toNat:=by
  unfold ay;rw[kX];omega
 refine⟨by rw[M,I];omega,fun b A=>?_⟩
 rw[M]at A;obtain⟨V,Y⟩:=fj (by omega) b A
 rw[J]at Y;obtain⟨h3,h4⟩:=zat K (k:=b.toNat) (by omega) (z0L A)
 refine⟨V,Y,h4,h3,?_⟩
 have O:(ay y.may near.toNat many.toNat).length≠0:=fun e=>by
  have:=md e
  rw[this]at A;cases A
 rw[U,hch,TxS.oQ];show (y.change _ _).now.getD b.toNat false=true
 rw[z3I hch O];have hv:=iW y.now (ay y.may near.toNat many.toNat) true b.toNat (by omega) (fun x hx=>(fj (by omega) x hx).1)
 rw[kN,hv,Int.toNat_of_nonneg V,if_pos A];rfl
structure Lst (y:TxS)(l:List Int):Prop where
 rng:∀b∈l,0<=b/\b<(y.now.length:Int)
 nd:l.Nodup
 used:∀b∈l,y.now.getD b.toNat false=true
structure Fitted (y y1:TxS)(l L:List Int)(n:Nat):Prop where
 len:L.length=n
 same:y1.Same y
 st:y1.mF=0
 wr:y1.writes=y.writes
 nlen:y1.now.length=y.now.length
 lst:Lst y1 L
 out:∀b:Int,0<=b->b<(y.now.length:Int)->b∉l->b∉L->y1.now.getD b.toNat false=y.now.getD b.toNat false
 old:∀b∈L,b∈l\/y.now.getD b.toNat false=false
def partW (wr:List Rec)(x:DevS)(kd a:Int):ByteArray × Int:=
 match bf wr a with
 | some r=>if r.kind≠kd then (⟨#[]⟩,6)else (r.data,0)
 | none=>if x.ge a=0/\(x.fr a).kind≠kd then (⟨#[]⟩,6)else ((x.fr a).data,x.ge a)
structure PutsTo (y y2:TxS)(x:DevS)(kd:Int)(L:List Int)(ps:List ByteArray)(k:Nat):Prop where
 same:y2.Same y
 st:y2.mF=0
 now:y2.now=y.now
 hit:∀i,i<k->y2.part x kd (L.getD i 0)=(ps.getD i ⟨#[]⟩,0)
 out:∀b kd':Int,0<=b->b<rgB y.s y.j y.i->b∉L.take k->y2.part x kd' b=y.part x kd' b
structure Stored (y y2:TxS)(x:DevS)(kd:Int)(l L:List Int)(ps:List ByteArray):Prop where
 len:L.length=ps.length
 same:y2.Same y
 st:y2.mF=0
 nlen:y2.now.length=y.now.length
 lst:Lst y2 L
 hit:∀i,i<ps.length->y2.part x kd (L.getD i 0)=(ps.getD i ⟨#[]⟩,0)
 out:∀b:Int,0<=b->b<(y.now.length:Int)->b∉l->b∉L->y2.now.getD b.toNat false=y.now.getD b.toNat false/\∀kd',y2.part x kd' b=y.part x kd' b
 old:∀b∈L,b∈l\/y.now.getD b.toNat false=false
structure Holds (y:TxS)(x:DevS)(kd:Int)(l:List Int)(t:ByteArray):Prop where
 len:l.length=eO t.size
 sz:t.size<=768
 part:∀k,k<eO t.size->y.part x kd (l.getD k 0)=(j4 t k,0)
structure BookOk (y:TxS)(x:DevS)(l0 l1 l2:List Int)(t0 t1:ByteArray):Prop where
 st:y.mF=0
 a0:Lst y l0
 a1:Lst y l1
 a2:Lst y l2
 h0:Holds y x 8 l0 t0
 h1:Holds y x 8 l1 t1
 len2:l2.length<=8
 d01:∀b∈l0,b∉l1
 d02:∀b∈l0,b∉l2
 d12:∀b∈l1,b∉l2
structure Apart (y0:TxS)(l:List Int)(y:TxS):Prop where
 same:y.Same y0
 len:y.now.length=y0.now.length
 keep:∀k:Nat,k<y0.now.length->y0.now.getD k false=true->(k:Int)∉l->y.now.getD k false=true/\bf y.writes (rgD y0.s y0.j y0.i+k)=bf y0.writes (rgD y0.s y0.j y0.i+k)
theorem Apart.refl (y:TxS)(l:List Int):Apart y l y:=⟨⟨rfl,rfl,rfl⟩,rfl,fun _ _ h _=>⟨h,rfl⟩⟩
theorem Apart.brk {y0 y:TxS}{l:List Int}(h:Apart y0 l y):Apart y0 l y.brk:=⟨h.same,h.len,h.keep⟩
theorem Apart.change {y0 y:TxS}{l:List Int}(h:Apart y0 l y){us:List Bool}(J:us.length=y.now.length)(K:∀k:Nat,k<y.now.length->y0.now.getD k false=true->y.now.getD k false=true->(k:Int)∉l->us.getD k false=true)(n:Nat):Apart y0 l (y.change us n):=by
 unfold TxS.change;split
 ·exact h
 ·split
  ·exact h
  ·exact⟨h.same,J.trans h.len,fun k A c I=>⟨K k (by rw[h.len];exact A) c (h.keep k A c I).1 I,(h.keep k A c I).2⟩⟩
theorem Apart.take {y0 y:TxS}{l:List Int}(h:Apart y0 l y)(a b:Int)(c:y.nI a b=0->∀x∈ay y.may a.toNat b.toNat,0<=x):Apart y0 l (y.take a b).2:=by
 unfold TxS.take;split
 ·exact h
 ·split
  ·exact h.brk
  ·rename_i J
   refine h.change (cH _ _ _) (fun k I K A M=>?_) _
   rw[kN,iW _ _ _ k I (c (by simpa using J))]
   rw[kN,kQ I]at A;simp only[Option.getD_some]at A |-;split
   ·rfl
   ·exact A
theorem Apart.free {y0 y:TxS}{l m:List Int}(h:Apart y0 l y)(O:∀x∈m,x∈l)(c:y.nY m=0->∀x∈m,0<=x):Apart y0 l (y.free m).2:=by
 unfold TxS.free;split
 ·exact h
 ·split
  ·exact h.brk
  ·rename_i K
   refine h.change (cH _ _ _) (fun k I S A M=>?_) _
   rw[kN,iW _ _ _ k I (c (by simpa using K))]
   rw[kN,kQ I]at A;simp only[Option.getD_some]at A |-;rw[if_neg (fun J=>M (O _ J))]
   exact A
theorem za8 {y:TxS}{m:List Int}(h:y.nY m=0):∀x∈m,0<=x:=by
 have c:TnE y.s y.j y.i y.now m false 4=0:=by
  refine Classical.byContradiction fun I=>?_
  unfold TxS.nY at h;rw[if_pos I]at h;exact I h
 unfold TnE at c;split at c
 ·split at c
  ·rename_i A
   exact fun x J=>(z4y A x J).1
  ·rename_i A;exact absurd c A
 ·rename_i A;exact absurd c A
theorem z89 {y:TxS}(ok:y.Ok)(hs:y.mF=0)(l:List Int)(n:Nat):Apart y l (y.fit l n).2.1/\((y.fit l n).1=0->(y.fit l n).2.2.length=n/\∀b∈(y.fit l n).2.2,b∈l\/y.now.getD b.toNat false=false):=by
 have J:y.may.length=y.now.length:=dm (ok.now.trans ok.was.symm);have I:CkE y.s y.j y.i y.may.length=0:=by rw[J];exact kw ok
 unfold TxS.fit;by_cases M:n<l.length
 ·rw[if_pos M];exact⟨(Apart.refl y l).free (fun x hx=>List.mem_of_mem_drop hx) za8,fun _=>⟨by simp;omega,fun b c=>.inl (List.mem_of_mem_take c)⟩⟩
 ·rw[if_neg M];by_cases O:l.length<n
  ·rw[if_pos O];simp only
   generalize l.getD (l.length - 1) 0=near at *;refine⟨(Apart.refl y l).take _ _ fun A=>?_,fun A=>?_⟩
   ·have Y:AlE y.s y.j y.i y.may near ((n:Int) - l.length)=0:=by
     refine Classical.byContradiction fun S=>?_
     unfold TxS.nI at A;rw[if_pos S]at A;exact S A
    exact z2n (z0u I Y)
   ·obtain⟨g1,V⟩:=z9E ok hs A;refine⟨by rw[kY];omega,fun b c=>?_⟩
    rcases lE.1 c with c|c
    ·exact .inl c
    ·refine .inr ?_;obtain⟨k1,k2,-,U,-⟩:=V b c;have K:b.toNat<y.now.length:=by omega
     rw[kN,kQ K]at U |-;exact U
  ·rw[if_neg O];exact⟨Apart.refl y l,fun _=>⟨by simp only;omega,fun b c=>.inl c⟩⟩
end Go.Proofs.YtejmknghkbobnaaGreatDoor
