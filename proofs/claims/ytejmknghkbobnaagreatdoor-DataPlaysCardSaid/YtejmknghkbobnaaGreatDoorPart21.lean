import Derived.Test.YtejmknghkbobnaaGreatDoorPart20
import Derived.Deep.CutRange
import Derived.Deep.CutBlock
set_option linter.all false
set_option maxRecDepth 100000
set_option maxHeartbeats 0
namespace Go.Proofs.YtejmknghkbobnaaGreatDoor
open Go.Proofs.Tryz
open Go.RowKit
theorem z2r {xs:List Int}(c:bj xs)(k:Nat):0<=xs.getD k 0/\xs.getD k 0<256:=by
 rw[kN];cases e:xs[k]? with
 | none=>exact(by decide:(0:Int)<=0/\(0:Int)<256)
 | some x=>exact c x (List.mem_of_getElem? e)
theorem gi {xs:List Int}(J:bj xs)(a:Nat){j:Nat}(hj:j<4):nb (aE xs a) j=xs.getD (a+j) 0:=by
 have T:=z2r J (a+0);have U:=z2r J (a+1);have V:=z2r J (a+2);have Y:=z2r J (a+3);obtain⟨c,K⟩:∃x:Nat,xs.getD (a+0) 0=x:=⟨_,(Int.toNat_of_nonneg T.1).symm⟩;obtain⟨A,M⟩:∃x:Nat,xs.getD (a+1) 0=x:=⟨_,(Int.toNat_of_nonneg U.1).symm⟩;obtain⟨D,O⟩:∃x:Nat,xs.getD (a+2) 0=x:=⟨_,(Int.toNat_of_nonneg V.1).symm⟩;obtain⟨I,S⟩:∃x:Nat,xs.getD (a+3) 0=x:=⟨_,(Int.toNat_of_nonneg Y.1).symm⟩;rw[K]at T;rw[M]at U;rw[O]at V;rw[S]at Y;have hn:∀j,j<4->xs.getD (a+j) 0=nb ((c+256*A+65536*D+16777216*I:Nat):Int) j:=fun j hj=>by
  have h4:j=0\/j=1\/j=2\/j=3:=by omega
  unfold nb;rcases h4 with rfl|rfl|rfl|rfl
  ·rw[K];show (c:Int)=_ / 1 % 256;omega
  ·rw[M];show (A:Int)=_ / 256 % 256;omega
  ·rw[O];show (D:Int)=_ / 65536 % 256;omega
  ·rw[S];show (I:Int)=_ / 16777216 % 256;omega
 have hr:=z31 xs a (c+256*A+65536*D+16777216*I) 4 (by omega) hn
 rw[hn j hj];unfold aE;rw[hr];have:(c+256*A+65536*D+16777216*I) % 2 ^ (8*4)=c+256*A+65536*D+16777216*I:=lY (by show _<4294967296;omega)
 rw[this]
theorem z4r {l:List Int}{k m:Nat}(h:k<m):(l.take m).getD k 0=l.getD k 0:=by
 rw[kN,kN,mh,if_pos h]
theorem gS (xs:List Int)(a:Nat):0<=aE xs a/\aE xs a<4294967296:=gH xs a 4
theorem z5R {xs c:List Int}(I:xs.length=c.length)(h:∀j,j<xs.length->xs.getD j 0=c.getD j 0):xs=c:=
 List.ext_getElem I fun j A D=>by
  have:=h j A
  rw[kN,kN,kQ A,kQ D]at this;exact this
theorem kx {a:Int}{xs:List Int}(h:cY a xs=0):(0<=a/\a<256)/\xs≠zsec/\aE xs 124=crc (xs.take 124)/\xs.getD 0 0=76/\xs.getD 1 0≠0/\xs.getD 2 0<=112/\xs.getD 3 0=0/\aE xs 120<256/\jg xs=true/\aE xs 120=a:=by
 unfold cY at h;split at h
 ·cases h
 split at h
 ·cases h
 split at h
 ·cases h
 split at h
 ·cases h
 split at h
 ·cases h
 split at h
 ·cases h
 rename_i J c A K D I
 exact⟨by omega,c,by simpa using A,by omega,by omega,by omega,by omega,by omega,by simpa using D,by simpa using I⟩
theorem z9x {a:Int}{xs:List Int}(hl:xs.length=128)(O:bj xs)(h:cY a xs=0):
  bY a (xs.getD 1 0) (aP xs).size=0/\cq a (xs.getD 1 0) (aE xs 4) (aP xs)=xs/\(aP xs).size=(xs.getD 2 0).toNat:=by
 obtain⟨ha,-,T,h0,h1,h2,h3,-,A,U⟩:=kx h;have b1:=z2r O 1;have b2:=z2r O 2;have M:(aP xs).size=(xs.getD 2 0).toNat:=by
  unfold aP;rw[strOfNums_size,ma,kX];omega
 have hE:bY a (xs.getD 1 0) (aP xs).size=0:=by
  unfold bY;rw[M,if_neg (by omega),if_neg (by omega)]
 have c:(aP xs).size<=112:=by omega
 have hq:=gS xs 4;have J:=gp (a:=a) (kind:=xs.getD 1 0) (aE xs 4) hE;have K:=dP a (xs.getD 1 0) (aE xs 4) (aP xs) c;have I:cf (aP xs)=(xs.take (8+(xs.getD 2 0).toNat)).drop 8:=by
  unfold aP;exact z0F fun x hx=>O x (List.mem_of_mem_take (List.mem_of_mem_drop hx))
 obtain⟨n,hn⟩:=zex ((xs.getD 2 0).toNat);rw[<-hn]at I;have V:∀j,8+n<=j->j<120->xs.getD j 0=0:=fun j h1 h2=>by
  unfold jg at A;rw[<-hn,List.all_eq_true]at A;have S:j<xs.length:=by omega
  have e:xs.getD j 0=xs[j]:=by rw[kN,kQ S];rfl
  have hm:xs[j]∈(xs.take 120).drop (8+n):=by
   refine List.mem_iff_getElem?.2 ⟨j - (8+n),?_⟩;rw[List.getElem?_drop,mh,show 8+n+(j - (8+n))=j by omega,if_pos h2,kQ S]
  have:=A _ hm
  rw[e];simpa using this
 refine⟨hE,?_,M⟩
 have D:∀j,j<124->(cq a (xs.getD 1 0) (aE xs 4) (aP xs)).getD j 0=xs.getD j 0:=fun j S=>by
  by_cases Y:120<=j
  ·obtain⟨i,rfl⟩:∃i,j=120+i:=⟨j - 120,by omega⟩
   rw[<-gi J 120 (by omega),jm c (by omega),<-gi O 120 (by omega),U]
  by_cases c2:4<=j/\j<8
  ·obtain⟨i,rfl⟩:∃i,j=4+i:=⟨j - 4,by omega⟩
   rw[<-gi J 4 (by omega),z4l c hq,<-gi O 4 (by omega)]
  by_cases c3:j<4
  ·have h5:j=0\/j=1\/j=2\/j=3:=by omega
   rcases h5 with rfl|rfl|rfl|rfl
   ·rw[z5s c,h0]
   ·rw[z5t c]
   ·rw[z3d c,M];omega
   ·rw[z9t c,h3]
  rw[fh c (by omega)]
  by_cases c4:j<8+(aP xs).size
  ·obtain⟨i,rfl⟩:∃i,j=8+i:=⟨j - 8,by omega⟩
   rw[z4i c (by omega),I,kN,List.getElem?_drop,mh,if_pos (by omega),kN]
  ·rw[z69 c (by omega),z05 c (by omega),V j (by omega) (by omega)]
 refine z5R (by rw[K,hl]) fun j S=>?_
 rw[K]at S;by_cases Y:j<124
 ·exact D j Y
 obtain⟨i,rfl⟩:∃i,j=124+i:=⟨j - 124,by omega⟩
 rw[<-gi J 124 (by omega),z4m c,<-gi O 124 (by omega),T]
 congr 2
 refine z5R (by rw[kX,kX,K,hl]) fun k hk=>?_
 rw[kX]at hk;rw[z4r (by omega),z4r (by omega)]
 exact D k (by omega)
def z32 (a:Int)(xs:List Int):Int:=
 if a<0\/256<=a then 7 else if xs=zsec then 70 else if aE xs 124≠crc (xs.take 124)then 71 else
 if 256<=aE xs 120\/112<xs.getD 2 0 then 6 else
 if bY (aE xs 120) (xs.getD 1 0) (aP xs).size≠0\/cq (aE xs 120) (xs.getD 1 0) (aE xs 4) (aP xs)≠xs then 6 else if aE xs 120≠a then 72 else 0
theorem z5k {a:Int}{xs:List Int}(hl:xs.length=128)(V:bj xs):z32 a xs=cY a xs:=by
 unfold z32;by_cases c:a<0\/256<=a
 ·rw[if_pos c];unfold cY;rw[if_pos c]
 rw[if_neg c];by_cases A:xs=zsec
 ·rw[if_pos A];unfold cY;rw[if_neg c,if_pos A]
 rw[if_neg A];by_cases D:aE xs 124≠crc (xs.take 124)
 ·rw[if_pos D];unfold cY;rw[if_neg c,if_neg A,if_pos D]
 rw[if_neg D];have b1:=z2r V 1;have T:=gH xs 120 4;have Y:0<=aE xs 120:=T.1;by_cases S:xs.getD 0 0≠76\/xs.getD 1 0=0\/120<8+xs.getD 2 0\/xs.getD 3 0≠0\/256<=aE xs 120
 ·have e:cY a xs=6:=by unfold cY;rw[if_neg c,if_neg A,if_neg D,if_pos S]
  rw[e];by_cases U:256<=aE xs 120\/112<xs.getD 2 0
  ·rw[if_pos U]
  rw[if_neg U,if_pos];refine Classical.byContradiction fun O=>?_
  have I:bY (aE xs 120) (xs.getD 1 0) (aP xs).size=0:=Classical.byContradiction fun q=>O (.inl q)
  have J:cq (aE xs 120) (xs.getD 1 0) (aE xs 4) (aP xs)=xs:=Classical.byContradiction fun q=>O (.inr q)
  have K:=z1f I (gS xs 4);rw[J]at K;have hz:=kx K;omega
 by_cases M:jg xs=false
 ·have e:cY a xs=6:=by unfold cY;rw[if_neg c,if_neg A,if_neg D,if_neg S,if_pos M]
  rw[e,if_neg (by omega),if_pos]
  refine Classical.byContradiction fun O=>?_
  have I:bY (aE xs 120) (xs.getD 1 0) (aP xs).size=0:=Classical.byContradiction fun q=>O (.inl q)
  have J:cq (aE xs 120) (xs.getD 1 0) (aE xs 4) (aP xs)=xs:=Classical.byContradiction fun q=>O (.inr q)
  have K:=z1f I (gS xs 4);rw[J]at K;have hz:=(kx K).2.2.2.2.2.2.2.2.1;rw[hz]at M;cases M
 have K:cY (aE xs 120) xs=0:=by
  unfold cY;rw[if_neg (by omega),if_neg A,if_neg D,if_neg S,if_neg M,if_neg (by simp)]
 obtain⟨s1,s2,-⟩:=z9x hl V K;have e:cY a xs=if aE xs 120≠a then 72 else 0:=by unfold cY;rw[if_neg c,if_neg A,if_neg D,if_neg S,if_neg M]
 rw[e,if_neg (by omega),if_neg (by rw[s1,s2];simp)]
def sumK (xs:List Int)(a:Nat):Nat->Int
 | 0=>0
 | k+1=>sumK xs a k+xs.getD (a+k) 0*2 ^ (8*k)
theorem z3h {xs:List Int}(A:bj xs)(a:Nat):∀k,k<=4->0<=sumK xs a k/\sumK xs a k<2 ^ (8*k)
 | 0,_=>⟨Int.le_refl _,by show (0:Int)<1;decide⟩
 | k+1,hk=>by
  have ih:=z3h A a k (by omega)
  have h:=z2r A (a+k);have D:k=0\/k=1\/k=2\/k=3:=by omega
  unfold sumK;generalize sumK xs a k=q at ih;generalize xs.getD (a+k) 0=z at h;rcases D with rfl|rfl|rfl|rfl
  ·have c:0<=q/\q<1:=ih;show 0<=q+z*1/\q+z*1<256
   omega
  ·have c:0<=q/\q<256:=ih;show 0<=q+z*256/\q+z*256<65536
   omega
  ·have c:0<=q/\q<65536:=ih;show 0<=q+z*65536/\q+z*65536<16777216
   omega
  ·have c:0<=q/\q<16777216:=ih;show 0<=q+z*16777216/\q+z*16777216<4294967296
   omega
theorem z9f {xs:List Int}(c:bj xs)(a:Nat):aE xs a=sumK xs a 4:=by
 have A:=gi c a (j:=0) (by omega)
 have D:=gi c a (j:=1) (by omega)
 have I:=gi c a (j:=2) (by omega)
 have J:=gi c a (j:=3) (by omega)
 have K:=gS xs a;show aE xs a=0+xs.getD (a+0) 0*1+xs.getD (a+1) 0*256+xs.getD (a+2) 0*65536+xs.getD (a+3) 0*16777216
 rw[<-A,<-D,<-I,<-J];generalize aE xs a=n at *;show n=0+n / 1 % 256*1+n / 256 % 256*256+n / 65536 % 256*65536+n / 16777216 % 256*16777216
 omega
theorem z5n (S a:Nat)(U:a<=124)(n:Int)(J:0<=n/\n<4294967296)(xs:List Int)(Y:xs.length=128)(w:World)(A:Blk w S 128 (ag xs)):
  Calls prog 222 #[.pointer (some ⟨S,0,none⟩),.int .i64 a,.int .u32 n] w fun e I=>(∃v,e=.returned v)/\Blk I S 128 (ag (eT xs a n))/\KeepEx w.heap.size [S] w I:=by
 have lS:=A.lt;go_enter func222,ntmps222
 go_wp2_with fail
 go_loopw [6] (fun q wr=>∃k:Nat,k<=4/\q=.int .i64 k/\Blk wr S 128 (ag (fx xs a n k))/\KeepEx w.heap.size [S] w wr) (fun q _=>4 - (intOf q).toNat)
 case atStart=>exact⟨0,by omega,rfl,A,KeepEx.refl _ _ _⟩
 case round=>
  obtain⟨k,V,rfl,c,D⟩:=hrel;have T:=c.free;by_cases M:k<4
  ·have K:wr.cell? ⟨S,a+k,none⟩=some (.int .u8 ((fx xs a n k).getD (a+k) 0)):=by rw[c.cells];exact bv (by rw[ip];omega)
   have O:IntKind.i64.wrap (8*(k:Int))=8*(k:Int):=by rw[kW];omega
   go_wp2_with fail
   go_roundw
   case rel=>exact⟨k+1,by omega,by go_num,by show Blk _ _ _ (ag ((fx xs a n k).set (a+k) (nb n k)));rw[<-dl];exact(c.mG _ _),D.trans (KeepEx.setCell _ (.inl (by simp)) _)⟩
   case measure=>simp[intOf];omega
  ·obtain rfl:k=4:=by omega
   go_wp2_with fail
   go_end0
   exact⟨⟨_,rfl⟩,c,D⟩
theorem z37 (a:Nat)(ha:a<=124)(xs:List Int)(hl:xs.length=128)(c:bj xs)(w:World):
  Calls prog 227 #[.agg (ag xs),.int .i64 a] w (Zq (.int .u32 (aE xs a)) w):=by
 rw[z9f c a];go_enter func227,ntmps227
 go_wp2_with fail
 go_loopw [5,6] (fun x q wr=>∃k:Nat,k<=4/\q=.int .i64 k/\x=.int .u32 (sumK xs a k)/\Blk wr w.heap.size 128 (ag xs)/\Zr w wr) (fun _ q _=>4 - (intOf q).toNat)
 case atStart=>exact⟨0,by omega,rfl,rfl,Blk.new _ _ _,zgr⟩
 case round=>
  obtain⟨k,hk,rfl,rfl,D,M⟩:=hrel;have lS:=D.lt;by_cases V:k<4
  ·have U:wr.cell? ⟨w.heap.size,a+k,none⟩=some (.int .u8 (xs.getD (a+k) 0)):=by rw[D.cells];exact bv (by omega)
   have K:=z2r c (a+k);have S:=z3h c a k (by omega)
   have A:=z3h c a (k+1) (by omega)
   have O:Hid (sumK xs a (k+1)=sumK xs a k+xs.getD (a+k) 0*2 ^ (8*k)):=kD rfl;have Y:(xs.getD (a+k) 0*2 ^ (8*k)) % 4294967296=xs.getD (a+k) 0*2 ^ (8*k)/\0<=xs.getD (a+k) 0*2 ^ (8*k)/\xs.getD (a+k) 0*2 ^ (8*k)<4294967296/\0<=sumK xs a (k+1)/\sumK xs a (k+1)<4294967296:=by
    have T:k=0\/k=1\/k=2\/k=3:=by omega
    generalize xs.getD (a+k) 0=z at K;generalize sumK xs a (k+1)=q at A;rcases T with rfl|rfl|rfl|rfl
    ·have I:0<=q/\q<256:=A;show z*1 % 4294967296=z*1/\0<=z*1/\z*1<4294967296/\_
     omega
    ·have I:0<=q/\q<65536:=A;show z*256 % 4294967296=z*256/\0<=z*256/\z*256<4294967296/\_
     omega
    ·have I:0<=q/\q<16777216:=A;show z*65536 % 4294967296=z*65536/\0<=z*65536/\z*65536<4294967296/\_
     omega
    ·have I:0<=q/\q<4294967296:=A;show z*16777216 % 4294967296=z*16777216/\0<=z*16777216/\z*16777216<4294967296/\_
     omega
   obtain⟨hp1,-,-,J⟩:=Y;rw[O.out]at J;clear S A;generalize xs.getD (a+k) 0=y at *;generalize sumK xs a k=x at *;have an:y % 4294967296=y:=by omega
   have ab:IntKind.i64.wrap (8*(k:Int))=8*(k:Int):=by rw[kW];omega
   generalize hg:y*2 ^ (8*k)=g at *;have ac:(x+g) % 4294967296=x+g:=by omega
   go_wp2_with fail
   go_roundw
   case rel=>exact⟨k+1,by omega,by go_num,by rw[O.out],D,M⟩
   case measure=>simp[intOf];omega
  ·obtain rfl:k=4:=by omega
   go_wp2_with fail
   go_ret
   exact⟨rfl,M⟩
def iI (xs:List Int)(s:ByteArray):Nat->List Int
 | 0=>xs
 | k+1=>(iI xs s k).set (8+k) ((cf s).getD k 0)
theorem z4o (xs:List Int)(s:ByteArray)(k:Nat):(iI xs s k).length=xs.length:=by
 induction k with
 | zero=>rfl
 | succ k ih=>unfold iI;rw[List.length_set,ih]
theorem z7A (xs:List Int)(n:Int)(s:ByteArray)(k:Nat):iI (eT xs 4 n) s k=eT (iI xs s k) 4 n:=by
 induction k with
 | zero=>rfl
 | succ k ih=>
  show (iI (eT xs 4 n) s k).set (8+k) _=eT ((iI xs s k).set (8+k) _) 4 n
  rw[ih];exact z5Z (by omega) 4 (by omega)
theorem z6b {xs:List Int}{s:ByteArray}(A:xs.length=128)(D:s.size<=112):∀k,k<=s.size->iI xs s k=xs.take 8++(cf s).take k++xs.drop (8+k)
 | 0,_=>by
  show xs=_
  simp
 | k+1,hk=>by
  have ih:=z6b A D k (by omega)
  have I:=dg s;show (iI xs s k).set (8+k) _=_
  have c:(xs.take 8++(cf s).take k).length=8+k:=by rw[kY,kX,kX];omega
  rw[ih,List.set_append_right _ _ (by omega),c,Nat.sub_self,List.drop_eq_getElem_cons (show 8+k<xs.length by omega),kH,kN,kQ (by omega)]
  simp only[Option.getD_some];rw[kZ (l:=cf s) (by omega),show 8+(k+1)=8+k+1 by omega]
  simp only[List.append_assoc,List.singleton_append]
theorem z7B (kind seq:Int)(s:ByteArray)(c:s.size<=112):iI (eT (eX kind s.size) 4 seq) s s.size=eT (eF kind s) 4 seq:=by
 rw[z7A,z6b (dO _ _) c s.size (kE _)];unfold eF;rw[show (cf s).take s.size=cf s by rw[<-dg s,lj]]
theorem z9e (A:Option Addr)(n c:Nat)(xs:List Int)(K:xs.length=n)(J:n<=100000)(D:bj xs)(w:World)(I:Reads w A (xs.map (.int .u8))):
  Calls prog 223 #[.slice A n c] w fun e M=>e=.returned (.int .u32 (crc xs))/\M=w:=by
 subst K;exact zaB A c xs J D w I
theorem z02 (S n:Nat)(x:Int)(K:x=(n:Int))(D:n<=124)(m:Int)(J:0<=m/\m<4294967296)(xs:List Int)(I:xs.length=128)(w:World)(A:Blk w S 128 (ag xs)):
  Calls prog 222 #[.pointer (some ⟨S,0,none⟩),.int .i64 x,.int .u32 m] w fun e c=>(∃v,e=.returned v)/\Blk c S 128 (ag (eT xs n m))/\KeepEx w.heap.size [S] w c:=by
 subst K;exact z5n S n D m J xs I w A
theorem z9n (a kind seq:Int)(s:ByteArray)(S:s.size<=maxLen)(w:World)(D:bY a kind s.size≠0):
  Calls prog 179 #[.int .i64 a,.int .i64 kind,.int .u32 seq,.string s] w (eI a kind seq s w):=by
 have T:=cy;have c:∃E,bY a kind s.size=E:=⟨_,rfl⟩;obtain⟨E,c⟩:=c;unfold eI;rw[if_neg D,c];have K:=kD c;have A:=D;clear D;unfold bY at c;by_cases M:a<0
 rotate_left;by_cases O:256<=a
 rotate_left;by_cases a3:kind<1
 rotate_left;by_cases a4:255<kind
 rotate_left;by_cases a5:112<s.size
 rotate_left
 ·exact absurd (by unfold bY;rw[if_neg (by omega),if_neg (by omega)]) A
 all_goals
  clear A;first
   | (rw[if_pos (by omega)]at c)
   | (rw[if_neg (by omega),if_pos (by omega)]at c)
  subst c;have I:Blk ((w.alloc (.cells (ag zsec) 128)).alloc (.cells (ag zsec) 128)) w.heap.size 128 (ag zsec):=(Blk.new _ _ _).alloc _;have J:Blk ((w.alloc (.cells (ag zsec) 128)).alloc (.cells (ag zsec) 128)) (w.heap.size+1) 128 (ag zsec):=Blk.new' (by simp)
  go_enter func179,ntmps179
  go_wp2_with (first
   | (refine aY rfl _ rfl (w.heap.size+1) rfl J am ?_)
   | (refine aA rfl _ _ rfl w.heap.size zsec rfl rfl I am am ?_))
  refine bodyPost_ret (fE rfl rfl rfl (I.setRow (cs':=ag zsec)) am) rfl ?_;exact⟨Below.setRow (zgr) (kE _) _,rfl⟩
theorem z7u (a kind seq:Int)(s:ByteArray)(hq:0<=seq/\seq<4294967296)(w:World)(V:bY a kind s.size=0):
  Calls prog 179 #[.int .i64 a,.int .i64 kind,.int .u32 seq,.string s] w (eI a kind seq s w):=by
 have hz:=cy;unfold eI;rw[if_pos V,V];have hb:¬(a<0\/256<=a\/kind<1\/255<kind)/\¬112<s.size:=by
  unfold bY at V;split at V
  ·omega
  ·split at V
   ·omega
   ·exact⟨by assumption,by assumption⟩
 clear V;obtain⟨bp,bq⟩:=hb;have a1:¬a<0:=by omega
 have a2:¬256<=a:=by omega
 have a3:¬kind<1:=by omega
 have a4:¬255<kind:=by omega
 have c:s.size<=112:=by omega
 have bn:a % 4294967296=a:=by omega
 have bt:kind % 256=kind:=by omega
 have bu:(s.size:Int) % 256=s.size:=by omega
 go_enter func179,ntmps179
 go_wp2_with fail
 have h0:Blk _ (w.heap.size+1) 128 ((((ag zsec).setIfInBounds 0 (.int .u8 76)).setIfInBounds 1 (.int .u8 kind)).setIfInBounds 2 (.int .u8 (s.size:Int))):=Blk.new' (w:=w.alloc (.cells (ag zsec) 128)) (by simp)
 rw[dl,dl,dl]at h0;refine(z02 (w.heap.size+1) 4 4 rfl (by omega) seq hq (eX kind s.size) (dO _ _) _ h0).mono ?_
 rintro e w1 ⟨⟨v,rfl⟩,K,T⟩;have a8:Blk w1 w.heap.size 128 (ag zsec):=T.blk ((Blk.new _ _ _).alloc _) (by simp;omega) (by simp)
 have B1:Zr w w1:=(((kF _ _).alloc (kE _) _).alloc (by simp) _).trans (T.nK (by simp;omega) (by simp))
 clear T h0;have bw:=K.lt;have ba:(eT (eX kind s.size) 4 seq).length=128:=by rw[cG,dO]
 have I:=kD (z7B kind seq s c);generalize eT (eX kind s.size) 4 seq=x0 at K ba I;have a6:∀k (h:k<s.size) (w:World),(Instr.index 9 (.string s) (.int .i64 (k:Int))).run prog w=.ok (.int .u8 ((cf s).getD k 0)) w:=fun k h w=>dW s k k rfl h w
 go_wp2_with fail
 go_loopw [11] (fun q wr=>∃k:Nat,k<=s.size/\q=.int .i64 k/\Blk wr (w.heap.size+1) 128 (ag (iI x0 s k))/\Blk wr w.heap.size 128 (ag zsec)/\Zr w wr) (fun q _=>s.size - (intOf q).toNat)
 case atStart=>exact⟨0,kP _,rfl,K,a8,B1⟩
 case round=>
  obtain⟨k,hk,rfl,J,Y,hB⟩:=hrel;have fS:=J.free;have lS:=J.lt;by_cases bc:k<s.size
  ·have br:wr.cell? ⟨w.heap.size+1,8+k,none⟩=some (.int .u8 ((iI x0 s k).getD (8+k) 0)):=by rw[J.cells];exact bv (by rw[z4o];omega)
   have hi:=a6 k bc;go_wp2_with fail
   go_roundw
   case rel=>exact⟨k+1,by omega,by go_num,by show Blk _ _ _ (ag ((iI x0 s k).set (8+k) _));rw[<-dl];exact(J.mG _ _),by first|exact Y.far (by simp) _|exact Y.far _ (by simp),hB.setCell (p:=⟨w.heap.size+1,8+k,none⟩) (Nat.le_succ _) _⟩
   case measure=>simp[intOf];omega
  ·obtain rfl:k=s.size:=by omega
   rw[I.out]at J;have aL:=jl (kind:=kind) (by omega) c
   have av:(eT (eF kind s) 4 seq).length=128:=by rw[cG];exact eV kind s c
   have ao:bj (eG a kind seq s):=fg (fg aL _ _) _ _;have M:(eG a kind seq s).length=128:=by unfold eG;rw[cG];exact av
   go_wp2_with fail
   refine(z02 (w.heap.size+1) 120 120 rfl (by omega) a (by omega) _ av _ J).mono ?_
   rintro e w2 ⟨⟨v2,rfl⟩,A,U⟩;have ab:=U.blk Y Y.lt (by simp)
   have D:Zr w w2:=hB.trans (U.nK hB.size (by simp))
   have A:Blk w2 (w.heap.size+1) 128 (ag (eG a kind seq s)):=A;have O:Hid (eT (eG a kind seq s) 124 (crc ((eG a kind seq s).take 124))=cq a kind seq s):=kD rfl;generalize eG a kind seq s=xs at A M ao O;have bA:=A.lt;clear U J Y hB;go_wp2_with fail
   refine(z9e (some ⟨w.heap.size+1,0,none⟩) 124 128 (xs.take 124) (by rw[kX];omega) (by omega) (iZ ao _) w2 (by rw[List.map_take];exact(el A).take 124)).mono ?_
   rintro e w3 ⟨rfl,rfl⟩;have bb:=kj (xs.take 124);go_wp2_with fail
   refine(z02 (w.heap.size+1) 124 124 rfl (by omega) (crc (xs.take 124)) bb _ M _ A).mono ?_
   rintro e w4 ⟨⟨v4,rfl⟩,an,a7⟩;have ac:=a7.blk ab ab.lt (by simp)
   have bk:Zr w w4:=D.trans (a7.nK D.size (by simp))
   rw[O.out]at an;have S:(cq a kind seq s).length=128:=by rw[<-O.out,cG];exact M
   go_wp2_with (first
    | (refine aY rfl _ rfl (w.heap.size+1) rfl an S ?_)
    | (refine aA rfl _ _ rfl w.heap.size (cq a kind seq s) rfl rfl ac am S ?_))
   refine bodyPost_ret (fE rfl rfl rfl (ac.setRow (cs':=ag (cq a kind seq s))) S) rfl ?_;exact⟨Below.setRow (zgr) (kE _) _,rfl⟩
theorem z4e (a kind seq:Int)(s:ByteArray)(D:s.size<=maxLen)(A:0<=seq/\seq<4294967296)(w:World):
  Calls prog 179 #[.int .i64 a,.int .i64 kind,.int .u32 seq,.string s] w (eI a kind seq s w):=by
 by_cases c:bY a kind s.size=0
 ·exact z7u a kind seq s A w c
 ·exact z9n a kind seq s D w c
theorem dF {c:Array Oper}{rest:List Oper}{o:Oper}{a:Act}{w:World}{Q:Exit->Act->World->Prop}(J:Region.wanted o (yielded c a.tmps)=true)(x:Operand)(I:o.op=.load 128 x)
  (g:Nat) (M:a.eval x=.pointer (some ⟨g,0,none⟩)) {t:TypeId} {l:List Int} (b:Blk w g t (ag l)) (D:l.length=128)
  (h:wpList prog c Q rest (a.put o.dst (.agg (ag l))) w):wpList prog c Q (o::rest) a w:=
 wpList_step fun K A=>by
  rw[if_pos J];exact wp_load_row 128 x I g M t (ag l) (0,0) _ b underlying128 rfl (by rw[dJ,D];exact ij) (A _ _ h)
theorem zd9 (xs c:List Int)(A:xs.length=128)(D:c.length=128)(w:World):
  (binOp .neq 128 (.agg (ag xs)) (.agg (ag c))).run prog w=.ok (.bool (!decide (xs=c))) w:=by
 have h:=zbs xs c A D w;rw[run_eql_struct]at h;rw[run_neq_struct];cases e:(Op.equalIn 10000 128 (.agg (ag xs)) (.agg (ag c))).run prog w with
 | ok b w'=>
  rw[e]at h;simp only[Result.andThen_ok,Result.ok.injEq,Value.bool.injEq]at h;obtain⟨rfl,rfl⟩:=h;rfl
 | _=>rw[e]at h;cases h
theorem gJ (n:Nat)(x:Int)(I:x=(n:Int))(A:n<=124)(xs:List Int)(D:xs.length=128)(c:bj xs)(w:World):
  Calls prog 227 #[.agg (ag xs),.int .i64 x] w fun e J=>e=.returned (.int .u32 (aE xs n))/\Zr w J:=by
 subst I;exact z37 n A xs D c w
theorem z9l (a:Int)(xs:List Int)(hl:xs.length=128)(ac:bj xs)(w:World):
  Calls prog 197 #[.int .i64 a,.agg (ag xs)] w (OpenPost a xs w):=by
 have b7:∀w:World,(binOp .eql 128 (.agg (ag xs)) (.agg (ag zsec))).run prog w=.ok (.bool (decide (xs=zsec))) w:=fun w=>zbs xs zsec hl am w
 have hz:=cy;have bO:=kD (z5k (a:=a) hl ac);have ba:Blk ((w.alloc (.cells (ag xs) 128)).alloc (.cells #[Value.int .i64 0,Value.int .u32 0,Value.string ⟨#[]⟩] 190)) w.heap.size 128 (ag xs):=(Blk.new _ _ _).alloc _;have bn:Blk ((w.alloc (.cells (ag xs) 128)).alloc (.cells #[Value.int .i64 0,Value.int .u32 0,Value.string ⟨#[]⟩] 190)) (w.heap.size+1) 190 #[Value.int .i64 0,Value.int .u32 0,Value.string ⟨#[]⟩]:=Blk.new' (by simp)
 have B0:Zr w ((w.alloc (.cells (ag xs) 128)).alloc (.cells #[Value.int .i64 0,Value.int .u32 0,Value.string ⟨#[]⟩] 190)):=zgr
 by_cases a1:a<0\/256<=a
 ·have hE:cY a xs=7:=by unfold cY;rw[if_pos a1]
  have HE:=kD hE;clear hE;obtain⟨S,T⟩:=bn.zc;by_cases a2:a<0
  all_goals
   go_enter func197,ntmps197
   go_wp2_with fail
   refine bodyPost_ret (v:=.tuple #[.agg #[Value.int .i64 0,Value.int .u32 0,Value.string ⟨#[]⟩],.int .i64 7]) (by simp[results,results197,go_sem,S,T]) rfl ?_
   exact OpenPost.bad HE.out (by decide) (zgr)
 ·have a2:¬a<0:=by omega
  have a3:¬256<=a:=by omega
  by_cases bk:xs=zsec
  ·have hE:cY a xs=70:=by unfold cY;rw[if_neg a1,if_pos bk]
   have HE:=kD hE;have hd:decide (xs=zsec)=true:=decide_eq_true bk;clear hE bk;obtain⟨S,T⟩:=bn.zc;go_enter func197,ntmps197
   go_wp2_with (refine aY rfl _ rfl w.heap.size rfl ba hl ?_)
   refine bodyPost_ret (v:=.tuple #[.agg #[Value.int .i64 0,Value.int .u32 0,Value.string ⟨#[]⟩],.int .i64 70]) (by simp[results,results197,go_sem,S,T]) rfl ?_
   exact OpenPost.bad HE.out (by decide) (zgr)
  have hd:decide (xs=zsec)=false:=decide_eq_false bk;have HZ:=kD bk;clear bk;go_enter func197,ntmps197
  go_wp2_with (refine aY rfl _ rfl w.heap.size rfl ba hl ?_)
  obtain⟨W0,bP⟩:=zex ((w.alloc (.cells (ag xs) 128)).alloc (.cells #[Value.int .i64 0,Value.int .u32 0,Value.string ⟨#[]⟩] 190));rw[<-bP]at ba bn B0 |-;clear bP;refine zrm [.take 0,.take 2,.one 1,.one 3,.one 4] 5 (fun W=>Blk W w.heap.size 128 (ag xs)) ba.drew ?_
  simp only[kR,kS,Ms.fill,kT,kV];refine ai (by rfl) (.agg (ag xs)) (fun w' an=>by unfold execOp;simp only[Sem.run_bind,Sem.run_pure];exact(congrArg (fun r=>Result.andThen r _) (an.oJ hl)).trans rfl) ?_
  try simp only[Act.put,kJ,kH,kI]
  refine ai (by rfl) (.slice (some ⟨w.heap.size,0,none⟩) 124 128) (fun w' an=>by go_simp) ?_
  try simp only[Act.put,kJ,kH,kI]
  refine ah (by rfl) fun K A=>?_
  go_simp;refine(gJ 124 124 rfl (by omega) xs hl ac _).mono ?_
  rintro e w1 ⟨rfl,bw⟩;have ab:=ba.drew.mD bw;have bp:=bn.drew.mD bw;have B1:Zr w w1:=B0.drew.trans (bw.mono B0.size);refine A _ _ (fun _=>ab) ?_
  clear A K bw ba bn B0;refine ah (by rfl) fun K A=>?_
  go_simp;refine(z9e (some ⟨w.heap.size,0,none⟩) 124 128 (xs.take 124) (by rw[kX];omega) (by omega) (iZ ac _) _ (by rw[List.map_take];exact(el ab).take 124)).mono ?_
  rintro e w2 ⟨rfl,rfl⟩;refine A _ _ (fun _=>ab) ?_
  clear A K;refine ah (by rfl) fun K A=>?_
  go_simp;refine A _ _ (fun _=>ab) ?_
  clear A K;refine ax ?_;have S:=bp.cells;have fR:=bp.free;have T:=bp.lt;have lS:=ab.lt;by_cases U:aE xs 124≠crc (xs.take 124)
  ·have b4:(aE xs 124 != crc (xs.take 124))=true:=by simpa using U
   have D:Hid (cY a xs=71):=kD (by unfold cY;rw[if_neg a1,if_neg HZ.out,if_pos U])
   clear U;go_wp2_with fail
   refine bodyPost_ret (v:=.tuple #[.agg #[Value.int .i64 0,Value.int .u32 0,Value.string ⟨#[]⟩],.int .i64 71]) (by simp[results,results197,go_sem,S,T]) rfl ?_
   exact OpenPost.bad D.out (by decide) (zgr)
  have b4:(aE xs 124 != crc (xs.take 124))=false:=by simpa using U
  have D:Hid (cY a xs=if 256<=aE xs 120\/112<xs.getD 2 0 then 6 else if bY (aE xs 120) (xs.getD 1 0) (aP xs).size≠0\/cq (aE xs 120) (xs.getD 1 0) (aE xs 4) (aP xs)≠xs then 6 else if aE xs 120≠a then 72 else 0):=
   kD (by rw[<-bO.out];unfold z32;rw[if_neg a1,if_neg HZ.out,if_neg U])
  clear U bO;go_wp2_with (refine aY rfl _ rfl w.heap.size rfl ab hl ?_)
  refine(gJ 120 120 rfl (by omega) xs hl ac _).mono ?_
  rintro e w3 ⟨rfl,bA⟩;have M:=ab.mD bA;have av:=bp.mD bA;have B3:Zr w w3:=B1.trans (bA.mono B1.size);clear bA ab bp B1 S fR T lS;go_wp2_with fail
  have y1:=aZ ac 1;obtain⟨Y,bD⟩:=zxe (xs.getD 1 0);rw[bD]at y1 D;have bQ:∀W,Blk W w.heap.size 128 (ag xs)->W.cell? ⟨w.heap.size,1,none⟩=some (.int .u8 Y):=fun W b=>by rw[b.cells,<-bD];exact bv (by omega)
  have b1:=kD bD;have bL:=kD bQ;clear bD bQ;have hwx:IntKind.i64.wrap Y=Y:=by rw[kW];omega
  go_cut [7]from 29 to 77 (fun s7 wx=>∃N,s7=.pointer (some ⟨N,0,none⟩)/\Zr w wx/\w.heap.size+1<N/\Blk wx w.heap.size 128 (ag xs)/\Blk wx (w.heap.size+1) 190 #[Value.int .i64 0,Value.int .u32 0,Value.string ⟨#[]⟩]/\Blk wx N 190 #[.int .i64 Y,.int .u32 (aE xs 4),.string ⟨#[]⟩])
  case first=>
   as_aux_lemma=>
    refine zrm [.take 0,.take 1,.take 2,.take 3,.par 6 [4,5],.one 7] 7 (fun W=>Blk W w.heap.size 128 (ag xs)) M.drew ?_
    simp only[kR,kS,Ms.fill,kT,kV];refine ai (by rfl) (.pointer (some ⟨w.heap.size,1,none⟩)) (fun w' an=>by go_simp) ?_
    try simp only[Act.put,kJ,kH,kI]
    refine ai (by rfl) (.int .u8 Y) (fun w' an=>by have h1:=bL.out w' an;go_simp) ?_
    try simp only[Act.put,kJ,kH,kI]
    refine ai (by rfl) (.int .i64 Y) (fun w' an=>by go_simp) ?_
    try simp only[Act.put,kJ,kH,kI]
    refine ai (by rfl) (.agg (ag xs)) (fun w' an=>by unfold execOp;simp only[Sem.run_bind,Sem.run_pure];exact(congrArg (fun r=>Result.andThen r _) (an.oJ hl)).trans rfl) ?_
    try simp only[Act.put,kJ,kH,kI]
    refine z0z fun K0 bb=>?_
    refine gb (fun K A=>?_) (fun K A=>?_)
    ·obtain⟨X,hX⟩:=zex ((w3.alloc (.cells #[Value.int .i64 0,Value.int .u32 0,Value.string ⟨#[]⟩] 190)).drew);have bX:Blk X w3.heap.size 190 #[Value.int .i64 0,Value.int .u32 0,Value.string ⟨#[]⟩]:=by rw[hX];exact(Blk.new _ _ _).drew
     have BX:Zr w3 X:=by rw[hX];exact((kF _ _).alloc (kE _) _).drew
     go_simp;rw[<-hX];refine A _ _ (M.mD BX) ?_;clear A K hX;refine dx (fun K A=>?_)
     go_simp;refine(gJ 4 4 rfl (by omega) xs hl ac _).mono ?_
     rintro e w5 ⟨rfl,bB⟩;have bM:=bX.mD bB;have B5:=BX.trans (bB.mono BX.size);refine A _ _ (M.mD B5) ?_;clear A K;refine dx (fun K A=>?_)
     go_simp;refine A _ _ (M.mD B5) ?_;clear A K;refine fe ?_;refine bb _ _ ?_;clear bb K0;refine ah (by rfl) fun K A=>?_
     have bu:=aF (ty:=190) (vs:=#[.int .i64 Y,.int .u32 (aE xs 4),.string ⟨#[]⟩]) bM rfl (by simp[Value.oneCell']) (by kernel_rfl)
     refine zob bu ?_;refine A _ _ (fun h=>absurd h (by decide)) ?_
     clear A K;refine ax ?_;have l3:=av.lt;go_wp2_with fail
     go_meet
     case rel=>exact⟨w3.heap.size,rfl,Below.setRow (B3.trans (B5.mono B3.size)) B3.size _,l3,(M.mD B5).mO (by have:=M.lt;omega),(av.mD B5).mO (by omega),bM.setRow⟩
    ·go_simp;refine(gJ 4 4 rfl (by omega) xs hl ac _).mono ?_
     rintro e w5 ⟨rfl,bB⟩;have B5:Zr w3 w5:=(kF _ _).drew.trans bB;have z5:=B5.size;refine A _ _ (M.mD B5) ?_;clear A K;refine gb (fun K A=>?_) (fun K A=>?_)
     ·obtain⟨X,hX⟩:=zex (w5.alloc (.cells #[Value.int .i64 0,Value.int .u32 0,Value.string ⟨#[]⟩] 190));have bX:Blk X w5.heap.size 190 #[Value.int .i64 0,Value.int .u32 0,Value.string ⟨#[]⟩]:=by rw[hX];exact zbn
      have BX:Zr w3 X:=by rw[hX];exact B5.alloc B5.size _
      go_simp;rw[<-hX];refine A _ _ (M.mD BX) ?_;clear A K hX;refine dx (fun K A=>?_)
      go_simp;refine A _ _ (M.mD BX) ?_;clear A K;refine fe ?_;refine bb _ _ ?_;clear bb K0;refine ah (by rfl) fun K A=>?_
      have bu:=aF (ty:=190) (vs:=#[.int .i64 Y,.int .u32 (aE xs 4),.string ⟨#[]⟩]) bX rfl (by simp[Value.oneCell']) (by kernel_rfl)
      refine zob bu ?_;refine A _ _ (fun h=>absurd h (by decide)) ?_
      clear A K;refine ax ?_;have l3:=av.lt;go_wp2_with fail
      go_meet
      case rel=>exact⟨w5.heap.size,rfl,Below.setRow (B3.trans (BX.mono B3.size)) (by have:=B3.size;omega) _,by omega,(M.mD BX).mO (by have:=M.lt;omega),(av.mD BX).mO (by omega),bX.setRow⟩
     ·go_simp;refine A _ _ (M.mD B5) ?_;clear A K;refine z0A (fun K A=>?_)
      obtain⟨X,hX⟩:=zex (w5.alloc (.cells #[Value.int .i64 0,Value.int .u32 0,Value.string ⟨#[]⟩] 190));have bX:Blk X w5.heap.size 190 #[Value.int .i64 0,Value.int .u32 0,Value.string ⟨#[]⟩]:=by rw[hX];exact zbn
      have BX:Zr w3 X:=by rw[hX];exact B5.alloc B5.size _
      go_simp;rw[<-hX];refine A _ _ (M.mD BX) ?_;clear A K hX;refine bb _ _ ?_;clear bb K0;refine ah (by rfl) fun K A=>?_
      have bu:=aF (ty:=190) (vs:=#[.int .i64 Y,.int .u32 (aE xs 4),.string ⟨#[]⟩]) bX rfl (by simp[Value.oneCell']) (by kernel_rfl)
      refine zob bu ?_;refine A _ _ (fun h=>absurd h (by decide)) ?_
      clear A K;refine ax ?_;have l3:=av.lt;go_wp2_with fail
      go_meet
      case rel=>exact⟨w5.heap.size,rfl,Below.setRow (B3.trans (BX.mono B3.size)) (by have:=B3.size;omega) _,by omega,(M.mD BX).mO (by have:=M.lt;omega),(av.mD BX).mO (by omega),bX.setRow⟩
  clear bL hwx M av B3;obtain⟨N,rfl,hB,hN,bS,bR,bN⟩:=hcut;have lS:=bS.lt;have lN:=bN.lt;have S:=bR.cells;have fR:=bR.free;have T:=bR.lt;have hq:=gS xs 120;have y2:=aZ ac 2;obtain⟨x2,bF⟩:=zxe (xs.getD 2 0);have g2:wc.cell? ⟨w.heap.size,2,none⟩=some (.int .u8 x2):=by rw[bS.cells,<-bF];exact bv (by omega)
  rw[bF]at D y2;have b2:=kD bF;clear bF;by_cases c4:256<=aE xs 120
  ·rw[if_pos (Or.inl c4)]at D;have b5:decide (256<=aE xs 120)=true:=decide_eq_true c4;go_wp2_with fail
   refine bodyPost_ret (v:=.tuple #[.agg #[Value.int .i64 0,Value.int .u32 0,Value.string ⟨#[]⟩],.int .i64 6]) (by simp[results,results197,go_sem,S,T]) rfl ?_
   exact OpenPost.bad D.out (by decide) (zgr)
  have b5:decide (256<=aE xs 120)=false:=decide_eq_false c4;by_cases c5:112<x2
  ·rw[if_pos (Or.inr c5)]at D;go_wp2_with fail
   refine bodyPost_ret (v:=.tuple #[.agg #[Value.int .i64 0,Value.int .u32 0,Value.string ⟨#[]⟩],.int .i64 6]) (by simp[results,results197,go_sem,S,T]) rfl ?_
   exact OpenPost.bad D.out (by decide) (zgr)
  rw[if_neg (by omega)]at D
  obtain⟨m,rfl⟩:=lz y2.1;have hm:m<=112:=by omega
  have bJ:prog.arrayLen 128=128:=by kernel_rfl
  have bC:∀w:World,(sizeOf (prog.elem 128)).run prog w=.ok 1 w:=fun w=>by kernel_rfl
  have bZ:∀w0:World,(Instr.sliceAt 128 (.pointer (some ⟨w.heap.size,0,none⟩)) (some (.int .i64 8)) (some (.int .i64 (8+(m:Int)))) none).run prog w0=.ok (.slice (some ⟨w.heap.size,8,none⟩) m 120) w0:=fun w0=>by
   rw[run_sliceAt_array_lh w0 128 _ (by kernel_rfl) .i64 .i64 8 (8+(m:Int)) (by omega) (by omega) (by rw[bJ];omega),bC]
   have h1:(8+(m:Int)).toNat=8+m:=by omega
   have h2:(8:Int).toNat=8:=rfl;simp only[Result.andThen_ok,slicedAt,h1,h2,Nat.mul_one,bJ];rw[show 8+m - 8=m by omega]
   simp[Addr.add]
  clear bJ bC;have bU:=dR (some ⟨w.heap.size,8,none⟩) m 120 ((xs.take (8+m)).drop 8) (by rw[ma,kX];omega) wc (z2b bS 8 (8+m))
  have bK:strOfNums ((xs.take (8+m)).drop 8)=aP xs:=by unfold aP;rw[b2.out,lO]
  rw[bK]at bU;have bG:(aP xs).size=m:=by rw[<-bK,strOfNums_size,ma,kX];omega
  have b0:=kD bG;clear bK bG;have cN:=bN.cells;have fN:=bN.free;go_wp2_with fail
  have bC:=b0.out;refine(z4e (aE xs 120) Y (aE xs 4) (aP xs) (by rw[bC];simp only[maxLen];omega) (gS xs 4) _).mono ?_
  rintro e J ⟨br,rfl⟩;have bq:Blk J w.heap.size 128 (ag xs):=Blk.mD (by first|exact bS.far (by simp;omega) _|exact bS.far _ (by simp;omega)) br
  have aL:Blk J (w.heap.size+1) 190 #[Value.int .i64 0,Value.int .u32 0,Value.string ⟨#[]⟩]:=Blk.mD (by first|exact bR.far (by simp;omega) _|exact bR.far _ (by simp;omega)) br
  have a8:Blk J N 190 #[.int .i64 Y,.int .u32 (aE xs 4),.string (aP xs)]:=(bN.mG 2 (.string (aP xs))).mD br;have B6:Zr w J:=(hB.setCell (p:=⟨N,2,none⟩) (by show w.heap.size<=N;omega) _).trans (br.mono (by have:=hB.size;simpa using this))
  clear br bS bR bN hB S fR T cN fN lS lN g2 bU bZ;have lS:=bq.lt;have lN:=a8.lt;have S:=aL.cells;have fR:=aL.free;have T:=aL.lt;have cN:=a8.cells;have V:(if bY (aE xs 120) Y (aP xs).size=0 then cq (aE xs 120) Y (aE xs 4) (aP xs)else zsec).length=128:=by
   split
   ·exact dP _ _ _ _ (by omega)
   ·exact am
  by_cases hE:bY (aE xs 120) Y (aP xs).size=0
  rotate_left
  ·rw[if_pos (Or.inl hE)]at D;have b8:(bY (aE xs 120) Y (aP xs).size != 0)=true:=by simpa using hE
   rw[if_neg hE]at V |-;generalize bY (aE xs 120) Y (aP xs).size=E at *;have bT:Blk (J.alloc (.cells (ag zsec) 128)) J.heap.size 128 (ag zsec):=Blk.new _ _ _;clear hE;clear S fR T cN;go_wp2_with (refine aA rfl _ _ rfl J.heap.size (zsec) rfl rfl bT am am ?_;obtain⟨W7,I⟩:=zex (World.setRow (J.alloc (.cells (ag zsec) 128)) J.heap.size (ag (zsec)));rw[<-I];have c:Zr J W7:=(by rw[I];exact Below.setRow ((kF _ _).alloc (kE _) _) (kE _) _);have a7:Blk W7 J.heap.size 128 (ag (zsec)):=(by rw[I];exact Blk.setRow bT);have a6:=bq.mD c;have O:=aL.mD c;have ao:=a8.mD c;have S:=O.cells;have fR:=O.free;have T:=O.lt;have cN:=ao.cells;have B7:Zr w W7:=B6.trans (c.mono B6.size);have e8:=a7.oJ am;have e3:=a6.oJ hl;clear I c)
   refine bodyPost_ret (v:=.tuple #[.agg #[Value.int .i64 0,Value.int .u32 0,Value.string ⟨#[]⟩],.int .i64 6]) (by simp[results,results197,go_sem,S,T]) rfl ?_
   exact OpenPost.bad D.out (by decide) (zgr)
  rw[if_pos hE]at V |-;rw[hE]at D |-;clear hE;have bW:=fun w=>zd9 (cq (aE xs 120) Y (aE xs 4) (aP xs)) xs V hl w
  generalize b3:cq (aE xs 120) Y (aE xs 4) (aP xs)=L at *;have bT:Blk (J.alloc (.cells (ag zsec) 128)) J.heap.size 128 (ag zsec):=Blk.new _ _ _;clear S fR T cN b3;by_cases hL:L=xs
  rotate_left
  ·rw[if_pos (Or.inr hL)]at D;have bt:decide (L=xs)=false:=decide_eq_false hL;rw[bt]at bW;clear hL bt;go_wp2_with (first|(refine aA rfl _ _ rfl J.heap.size (L) rfl rfl bT am V ?_;obtain⟨W7,I⟩:=zex (World.setRow (J.alloc (.cells (ag zsec) 128)) J.heap.size (ag (L)));rw[<-I];have c:Zr J W7:=(by rw[I];exact Below.setRow ((kF _ _).alloc (kE _) _) (kE _) _);have a7:Blk W7 J.heap.size 128 (ag (L)):=(by rw[I];exact Blk.setRow bT);have a6:=bq.mD c;have O:=aL.mD c;have ao:=a8.mD c;have S:=O.cells;have fR:=O.free;have T:=O.lt;have cN:=ao.cells;have B7:Zr w W7:=B6.trans (c.mono B6.size);clear I c)|(refine dF (by rfl) _ rfl J.heap.size rfl a7 V ?_)|(refine dF (by rfl) _ rfl w.heap.size rfl a6 hl ?_))
   refine bodyPost_ret (v:=.tuple #[.agg #[Value.int .i64 0,Value.int .u32 0,Value.string ⟨#[]⟩],.int .i64 6]) (by simp[results,results197,go_sem,S,T]) rfl ?_
   exact OpenPost.bad D.out (by decide) (zgr)
  rw[if_neg (by simp[hL])]at D
  have bt:decide (L=xs)=true:=decide_eq_true hL;rw[bt]at bW;clear hL bt;by_cases bc:aE xs 120=a
  rotate_left
  ·rw[if_pos bc]at D;have b6:(aE xs 120 != a)=true:=by simpa using bc
   clear bc;go_wp2_with (first|(refine aA rfl _ _ rfl J.heap.size (L) rfl rfl bT am V ?_;obtain⟨W7,I⟩:=zex (World.setRow (J.alloc (.cells (ag zsec) 128)) J.heap.size (ag (L)));rw[<-I];have c:Zr J W7:=(by rw[I];exact Below.setRow ((kF _ _).alloc (kE _) _) (kE _) _);have a7:Blk W7 J.heap.size 128 (ag (L)):=(by rw[I];exact Blk.setRow bT);have a6:=bq.mD c;have O:=aL.mD c;have ao:=a8.mD c;have S:=O.cells;have fR:=O.free;have T:=O.lt;have cN:=ao.cells;have B7:Zr w W7:=B6.trans (c.mono B6.size);clear I c)|(refine dF (by rfl) _ rfl J.heap.size rfl a7 V ?_)|(refine dF (by rfl) _ rfl w.heap.size rfl a6 hl ?_))
   refine bodyPost_ret (v:=.tuple #[.agg #[Value.int .i64 0,Value.int .u32 0,Value.string ⟨#[]⟩],.int .i64 72]) (by simp[results,results197,go_sem,S,T]) rfl ?_
   exact OpenPost.bad D.out (by decide) (zgr)
  rw[if_neg (by simpa using bc)]at D
  have b6:(aE xs 120 != a)=false:=by simpa using bc
  clear bc;go_wp2_with (first|(refine aA rfl _ _ rfl J.heap.size (L) rfl rfl bT am V ?_;obtain⟨W7,I⟩:=zex (World.setRow (J.alloc (.cells (ag zsec) 128)) J.heap.size (ag (L)));rw[<-I];have c:Zr J W7:=(by rw[I];exact Below.setRow ((kF _ _).alloc (kE _) _) (kE _) _);have a7:Blk W7 J.heap.size 128 (ag (L)):=(by rw[I];exact Blk.setRow bT);have a6:=bq.mD c;have O:=aL.mD c;have ao:=a8.mD c;have S:=O.cells;have fR:=O.free;have T:=O.lt;have cN:=ao.cells;have B7:Zr w W7:=B6.trans (c.mono B6.size);clear I c)|(refine dF (by rfl) _ rfl J.heap.size rfl a7 V ?_)|(refine dF (by rfl) _ rfl w.heap.size rfl a6 hl ?_))
  refine bodyPost_ret (v:=.tuple #[.agg #[.int .i64 Y,.int .u32 (aE xs 4),.string (aP xs)],.int .i64 0]) (by simp[results,results197,go_sem,S,T]) rfl ?_
  refine⟨zgr,?_⟩
  unfold jf;rw[D.out,if_pos rfl,b1.out]
end Go.Proofs.YtejmknghkbobnaaGreatDoor
