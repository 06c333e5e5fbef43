import Derived.Test.YtejmknghkbobnaaGreatDoorPart25
set_option linter.all false
set_option maxRecDepth 100000
set_option maxHeartbeats 0
namespace Go.Proofs.YtejmknghkbobnaaGreatDoor
open Go.Proofs.Tryz
open Go.RowKit Go.Maps
theorem z1h (F Z:Int)(w:World):
  Calls prog 104 #[.agg #[.int .i64 F,.int .i64 Z]] w fun e A=>e=.returned (.int .i64 (aO F Z))/\Zr w A:=by
 by_cases D:Z<8
 rotate_left;by_cases I:96<Z
 rotate_left;by_cases a3:F<0
 rotate_left;by_cases a4:256 - Z<F
 rotate_left
 all_goals
  first
   | (have c:Hid (aO F Z=0):=kD (by unfold aO;rw[if_neg (by omega)]))
   | (have c:Hid (aO F Z=7):=kD (by unfold aO;rw[if_pos (by omega)]))
  go_enter func104,ntmps104
  (try (have J:IntKind.i64.wrap (256 - Z)=256 - Z:=by rw[kW];omega))
  go_wp2_with fail
  go_ret
  exact⟨by rw[c.out];rfl,zgr⟩
theorem z1s (F Z a:Int)(h:0<=F/\F<=256/\0<=Z/\Z<=256)(w:World):
  Calls prog 224 #[.agg #[.int .i64 F,.int .i64 Z],.int .i64 a] w fun e A=>e=.returned (.bool (cx F Z a))/\Zr w A:=by
 have J:IntKind.i64.wrap (F+Z)=F+Z:=by rw[kW];omega
 by_cases D:a<F
 rotate_left;by_cases I:a<F+Z
 rotate_left
 all_goals
  first
   | (have c:Hid (cx F Z a=true):=kD (by unfold cx;simp;omega))
   | (have c:Hid (cx F Z a=false):=kD (by unfold cx;simp;omega))
  go_enter func224,ntmps224
  go_wp2_with fail
  go_ret
  exact⟨by rw[c.out];rfl,zgr⟩
theorem z1t (F Z:Int)(h:0<=Z/\Z<=256)(w:World):
  Calls prog 195 #[.agg #[.int .i64 F,.int .i64 Z]] w fun e c=>e=.returned (.int .i64 (cj Z))/\Zr w c:=by
 have A:IntKind.i64.wrap (Z - 2)=Z - 2:=by rw[kW];omega
 unfold cj;go_enter func195,ntmps195
 go_wp2_with fail
 go_ret
 exact⟨rfl,zgr⟩
theorem z3b (n:Int)(A:0<=n)(Y:n<=9223372036854775807)(w:World):
  Calls prog 182 #[.int .i64 n] w fun e M=>e=.returned (.string (aH n))/\Zr w M:=by
 have c:Blk (w.alloc (.cells #[.int .u8 (n % 256),.int .u8 (n / 256 % 256)] 5)) w.heap.size 5 #[.int .u8 (n % 256),.int .u8 (n / 256 % 256)]:=Blk.new _ _ _;have D:Reads (w.alloc (.cells #[.int .u8 (n % 256),.int .u8 (n / 256 % 256)] 5)) (some ⟨w.heap.size,0,none⟩) ([n % 256,n / 256 % 256].map (Value.int .u8)):=.inr ⟨_,0,rfl,c.lt,fun j u K=>by rw[ld,c.cells];simpa using K⟩
 have J:=dR _ 2 2 _ rfl _ D;have I:Hid (strOfNums [n % 256,n / 256 % 256]=aH n):=kD rfl;have O:n.tmod 256=n % 256:=lI A;have S:n.tdiv 256=n / 256:=Int.tdiv_eq_ediv_of_nonneg A;have V:IntKind.i64.wrap (n / 256)=n / 256:=by rw[kW];omega
 have T:IntKind.u8.wrap (n % 256)=n % 256:=by rw[IntKind.wrap_u8];omega
 have U:IntKind.u8.wrap (n / 256)=n / 256 % 256:=by rw[IntKind.wrap_u8]
 clear c D;go_enter func182,ntmps182
 go_wp2_with fail
 go_ret
 exact⟨by rw[<-I.out];rfl,zgr⟩
theorem z5g (E:Int)(w:World):
  Calls prog 133 #[.int .i64 E] w fun e K=>e=.returned (.bool (dI E))/\Zr w K:=by
 by_cases c:E=13
 ·subst c;go_enter func133,ntmps133
  go_wp2_with fail
  go_ret
  exact⟨rfl,kF _ _⟩
 by_cases A:E=7
 ·subst A;go_enter func133,ntmps133
  go_wp2_with fail
  go_ret
  exact⟨rfl,kF _ _⟩
 have I:(E==13)=false:=by simpa using c
 have J:(E==7)=false:=by simpa using A
 have D:Hid (dI E=(E==1)):=kD (by unfold dI;rw[I,J];simp)
 go_enter func133,ntmps133
 go_wp2_with fail
 go_ret
 exact⟨by rw[D.out];rfl,kF _ _⟩
theorem z67 (A:Option Addr)(c:Nat)(l:List Rec)(hl:l.length<=1000)(a:Int)(w:World)(U:RunAt w A l):
  Calls prog 194 #[.slice A l.length c,.int .i64 a] w fun e w'=>e=.returned (.bool (decide (a∈l.map (·.at_))))/\w'=w:=by
 go_enter func194,ntmps194
 go_wp2_with fail
 go_loopw [5] (fun q wr=>∃k:Nat,k<=l.length/\q=.int .i64 k/\a∉(l.take k).map (·.at_)/\wr=w) (fun q _=>l.length - (intOf q).toNat)
 case atStart=>exact⟨0,kP _,rfl,by simp,rfl⟩
 case round=>
  obtain⟨k,hk,rfl,D,Y⟩:=hrel;subst Y;by_cases J:k<l.length
  ·obtain⟨b,off,rfl,hb,S,-,-⟩:=U.at_ J;have K:(l.take (k+1)).map (·.at_)=(l.take k).map (·.at_)++[l[k].at_]:=by rw[kZ J,List.map_append];rfl
   by_cases M:l[k].at_=a
   ·have T:a∈l.map (·.at_):=by rw[<-M];exact List.mem_map_of_mem (li J)
    have I:(l[k].at_==a)=true:=by simpa using M
    generalize l[k].at_=y at S I;have O:=kD T;clear M T D K;go_wp2_with fail
    go_ret
    exact⟨by simp[O.out],rfl⟩
   ·have I:(l[k].at_==a)=false:=by simpa using M
    have V:Hid (a∉(l.take (k+1)).map (·.at_)):=kD (by
     rw[K];intro h;rcases lE.1 h with h|h
     ·exact D h
     ·exact M (by simpa using (mg.1 h).symm))
    generalize l[k].at_=y at S I;clear M D K;go_wp2_with fail
    go_roundw
    case rel=>exact⟨k+1,by omega,by go_num,V.out,by first|trivial|rfl⟩
    case measure=>simp[intOf];omega
  ·obtain rfl:k=l.length:=by omega
   rw[lj]at D;have O:=kD D;clear D;go_wp2_with fail
   go_ret
   exact⟨by simp[O.out],rfl⟩
def gL (x:DevS)(F Z:Int)(w:World)(e:Ending)(w':World):Prop:=
 e=.returned (.tuple #[.int .u32 (x.head F Z).2,.int .i64 (x.head F Z).1])/\Zr w w'
theorem z68 {w:World}{P:Nat->Prop}{x:DevS}{sv:Array Value}(hq:RSv w P x sv)(hs:x.Calm)(F Z:Int):
  Calls prog 131 #[.agg sv,.agg #[.int .i64 F,.int .i64 Z]] w (gL x F Z w):=by
 obtain⟨w0,A⟩:=zex ((w.alloc (.cells sv 34)).alloc (.cells #[.int .i64 F,.int .i64 Z] 109));have bD:Blk w0 w.heap.size 34 sv:=by rw[A];exact zbn
 have bJ:Blk w0 (w.heap.size+1) 109 #[.int .i64 F,.int .i64 Z]:=by rw[A];exact zbn
 have B0:Zr w w0:=by rw[A];exact zgr
 have ao:=hq.size;have HQ:=kD hq;have ab:=z1h F Z w0;have K:Hid (x.head F Z=if aO F Z≠0 then (aO F Z,0)else if x.ge F≠0 then (x.ge F,0)else if (x.fr F).kind≠1\/(x.fr F).data≠⟨#[]⟩then (6,0)else (0,(x.fr F).seq)):=kD rfl
 clear hq;unfold gL;go_enter func131,ntmps131
 go_upto_region 1 with fail
 rw[<-A];clear A;obtain⟨cJ,lJ⟩:=bJ.zc;go_wp2_with fail
 refine ab.mono ?_;rintro e w1 ⟨rfl,I⟩;have S:=B0.trans (I.mono B0.size);have T:=bD.mD I;have U:=bJ.mD I;clear ab bD bJ B0 I cJ lJ;by_cases M:aO F Z=0
 rotate_left
 ·have D:Hid (x.head F Z=(aO F Z,0)):=kD (by rw[K.out,if_pos M])
  generalize aO F Z=E at *;have a1:(E != 0)=true:=by simpa using M
  clear M;go_wp2_with fail
  go_ret2
  exact⟨by rw[D.out];rfl,S⟩
 have c:Hid (x.head F Z=if x.ge F≠0 then (x.ge F,0)else if (x.fr F).kind≠1\/(x.fr F).data≠⟨#[]⟩then (6,0)else (0,(x.fr F).seq)):=kD (by rw[K.out,if_neg (by rw[M];simp)])
 rw[M];clear M K;obtain⟨cJ,lJ⟩:=U.zc;have hg:=zbX (HQ.out.below S) hs F;unfold gj frV at hg;generalize x.ge F=E at *;generalize x.fr F=f at *;have l1:=cI T ao;go_wp2_with (refine zlw l1 ?_)
 refine hg.mono ?_;rintro e w2 ⟨rfl,Y⟩;have B2:=S.trans (Y.mono S.size);have Z2:=B2.size;clear hg Y l1 T U cJ lJ S;by_cases V:E=0
 rotate_left
 ·have D:Hid (x.head F Z=(E,0)):=kD (by rw[c.out,if_pos V])
  have av:(E==0)=false:=by simpa using V
  have aL:(E != 0)=true:=by simpa using V
  clear V c;go_wp2_with fail
  go_ret2
  exact⟨by rw[D.out];rfl,zgr⟩
 subst V;by_cases J:f.kind=1
 ·by_cases O:f.data=⟨#[]⟩
  ·have D:Hid (x.head F Z=(0,f.seq)):=kD (by rw[c.out,if_neg (by simp),if_neg (by simp[J,O])])
   have ac:(f.kind != 1)=false:=by simpa using J
   have an:f.data.toList.isEmpty=true:=jN.2 O;clear J O c;go_wp2_with fail
   go_ret2
   exact⟨by rw[D.out];rfl,zgr⟩
  ·have D:Hid (x.head F Z=(6,0)):=kD (by rw[c.out,if_neg (by simp),if_pos (by simp[O])])
   have ac:(f.kind != 1)=false:=by simpa using J
   have an:f.data.toList.isEmpty=false:=by rw[Bool.eq_false_iff];exact fun h=>O (jN.1 h)
   clear J O c;go_wp2_with fail
   go_ret2
   exact⟨by rw[D.out];rfl,zgr⟩
 ·have D:Hid (x.head F Z=(6,0)):=kD (by rw[c.out,if_neg (by simp),if_pos (by simp[J])])
  have ac:(f.kind != 1)=true:=by simpa using J
  clear J c;go_wp2_with fail
  go_ret2
  exact⟨by rw[D.out];rfl,zgr⟩
theorem zbQ {w:World}{P:Nat->Prop}{x:DevS}{sv:Array Value}(hq:RSv w P x sv)(hs:x.Calm)(hP:∀b,w.heap.size<=b->P b)(F Z:Int):
  Calls prog 111 #[.agg sv,.agg #[.int .i64 F,.int .i64 Z]] w (RGv w P (x.clear F Z)):=by
 obtain⟨w0,J⟩:=zex (((w.alloc (.cells sv 34)).alloc (.cells #[.int .i64 F,.int .i64 Z] 109)).alloc (.cells svZ 34));have bD:Blk w0 w.heap.size 34 sv:=by rw[J];exact zbn
 have bJ:Blk w0 (w.heap.size+1) 109 #[.int .i64 F,.int .i64 Z]:=by rw[J];exact zbn
 have bR:Blk w0 (w.heap.size+1+1) 34 svZ:=by rw[J];exact zbn
 have B0:Zr w w0:=by rw[J];exact zgr
 have a1:=hq.apt B0 w0.heap.size;have HN:=kD (Apt_.new hP B0.size);have V:=hq.size;have bn:=hq.one;have zR:=kD bR.lt;have a6:=z68 a1 hs F Z;unfold gL at a6;have HC:Hid (x.clear F Z=if (x.head F Z).1≠0 then ((x.head F Z).1,x)else DevS.done (x.put F 1 (aD (x.head F Z).2) ⟨#[]⟩)):=kD rfl
 have bk:0<=aD (x.head F Z).2/\aD (x.head F Z).2<4294967296:=by unfold aD;omega
 have bA:IntKind.u32.wrap ((x.head F Z).2+1)=aD (x.head F Z).2:=by unfold aD;rw[IntKind.wrap_u32]
 have HQ:=kD a1;clear hq a1 hP;unfold svZ at J;go_enter func111,ntmps111
 go_upto_region 1 with fail
 rw[<-J];clear J;obtain⟨cJ,lJ⟩:=bJ.zc;have l0:=cI bD V;go_wp2_with (refine zlw l0 ?_)
 refine a6.mono ?_;rintro e w1 ⟨rfl,I⟩;have B1:=B0.trans (I.mono B0.size);have Y:=bD.mD I;have ba:=bJ.mD I;have ab:=bR.mD I;have a2:=HQ.out.below I;have aL:=kD (fun b hb=>HN.out b (kO I.size hb))
 clear a6 bD bJ bR B0 I cJ lJ l0;have l1:=cI Y V;by_cases M:(x.head F Z).1=0
 rotate_left
 ·have HH:Hid (x.clear F Z=((x.head F Z).1,x)):=kD (by rw[HC.out,if_pos M])
  clear HC bA bk;generalize (x.head F Z).1=E at *;generalize (x.head F Z).2=q at *;have bw:(E != 0)=true:=by simpa using M
  have A:=aX ab rfl V bn;have br:=ab.setRow (cs':=sv);have c:=RGv.mk (R:=w.heap.size+1+1) E a2 B1 (by omega) zR.out
  clear M;go_wp2_with (first|(refine zlw l1 ?_)|(refine zsb A ?_))
  refine bodyPost_ret (au (cs:=sv) rfl rfl rfl br underlying34 (by rw[V];kernel_rfl)) rfl ?_
  rw[HH.out];exact c
 have av:Hid (x.clear F Z=DevS.done (x.put F 1 (aD (x.head F Z).2) ⟨#[]⟩)):=kD (by rw[HC.out,if_neg (by rw[M];simp)])
 rw[M];clear M HC;generalize aD (x.head F Z).2=q' at *;generalize (x.head F Z).2=q at *;have U:=z9m a2 aL.out F 1 q' bk ⟨#[]⟩ (by decide)
 obtain⟨p,hp⟩:=zxe (x.put F 1 q' ⟨#[]⟩);rw[hp]at U av;obtain⟨cJ,lJ⟩:=ba.zc;clear hp;go_wp2_with (refine zlw l1 ?_)
 refine U.mono ?_;rintro e w2 ⟨D,rfl,an,O⟩;have B2:=B1.trans (O.mono B1.size);have K:=an.size;have T:=an.one;have A:=aX (Y.mD O) V K T;have a8:=(Y.mD O).setRow (cs':=D);have S:=(ab.mD O).mO (cs':=D) (show w.heap.size+1+1≠w.heap.size by omega)
 have bb:=an.row (Apt_.ne (kE _) (by have:=zR.out;omega)) D
 have B3:=Below.setRow B2 (kE _) D;have bq:Hid (∀b,(w2.setRow w.heap.size D).heap.size<=b->Apt_ P w.heap.size w0.heap.size b):=kD fun b hb=>aL.out b (kO O.size (by simpa using hb))
 clear U l1 Y ba ab a2 aL B1 O an cJ lJ HQ HN;go_upto_region 5 with (refine zsb A ?_)
 generalize w2.setRow w.heap.size D=W3 at *;clear A B2;have l3:=cI a8 K;by_cases M:p.1=0
 rotate_left
 ·have HH:Hid (x.clear F Z=(p.1,p.2)):=kD (by rw[av.out,gY M])
  generalize p.1=E at *;have bw:(E != 0)=true:=by simpa using M
  have A:=aX S rfl K T;have bt:=S.setRow (cs':=D);have c:=RGv.mk (R:=w.heap.size+1+1) E bb B3 (by omega) zR.out
  clear M;go_wp2_with (first|(refine zlw l3 ?_)|(refine zsb A ?_))
  refine bodyPost_ret (au (cs:=D) rfl rfl rfl bt underlying34 (by rw[K];kernel_rfl)) rfl ?_
  rw[HH.out];exact c
 have HH:Hid (x.clear F Z=p.2.flush):=kD (by rw[av.out,ga M])
 rw[M];clear M;have bc:=z36 bb bq.out;generalize p.2=z at *;go_wp2_with (refine zlw l3 ?_)
 refine bc.mono ?_;rintro e w4 ⟨bp,rfl,a7,ac⟩;have ao:=a7.size;have A:=aX (S.mD ac) rfl ao a7.one;have bu:=(S.mD ac).setRow (cs':=bp);have c:=RGv.mk (R:=w.heap.size+1+1) z.flush.1 a7 (B3.trans (ac.mono B3.size)) (by omega) zR.out
 clear bc l3 a8 S ac;go_wp2_with (refine zsb A ?_)
 refine bodyPost_ret (au (cs:=bp) rfl rfl rfl bu underlying34 (by rw[ao];kernel_rfl)) rfl ?_
 rw[HH.out];exact c
def gC (p:Int × DevS)(F:Int)(k:Nat):Int × DevS:=if p.1≠0 then p else p.2.blanks (F+1) k
theorem z8z (p:Int × DevS)(F:Int):gC p F 0=p:=by
 unfold gC;by_cases h:p.1=0
 ·rw[if_neg (by rw[h];simp)]
  show ((0:Int),p.2)=p
  rw[<-h]
 ·rw[if_pos h]
theorem z8x {p:Int × DevS}{F:Int}{k:Nat}(h:(gC p F k).1=0):gC p F (k+1)=(gC p F k).2.write (F+((k:Int)+1)) zsec:=by
 unfold gC at h |-;by_cases c:p.1=0
 ·rw[if_neg (by rw[c];simp)]at h |-
  rw[if_neg (by rw[c];simp)]
  show (if (p.2.blanks (F+1) k).1≠0 then _ else _)=_
  rw[if_neg (by rw[h];simp),show F+1+(k:Int)=F+((k:Int)+1) by omega]
 ·rw[if_pos c]at h;exact absurd h c
theorem z8y {p:Int × DevS}{F:Int}{k m:Nat}(h:(gC p F k).1≠0)(A:k<=m):gC p F m=gC p F k:=by
 unfold gC at h |-;by_cases c:p.1=0
 ·rw[if_neg (by rw[c];simp)]at h |-
  rw[if_neg (by rw[c];simp)]
  exact z0P h A
 ·rw[if_pos c,if_pos c]
theorem zbw (x:DevS)(F Z:Int):x.nH F Z=if aO F Z≠0 then (aO F Z,x)else DevS.done (gC (x.put F 1 0 ⟨#[]⟩) F (Z - 1).toNat):=by
 unfold DevS.nH DevS.done gC;generalize x.put F 1 0 ⟨#[]⟩=p;by_cases c:p.1=0
 ·simp[c]
 ·simp[c]
theorem zaE {w:World}{P:Nat->Prop}{x:DevS}{sv:Array Value}(hq:RSv w P x sv)(hP:∀b,w.heap.size<=b->P b)(F Z:Int):
  Calls prog 43 #[.agg sv,.agg #[.int .i64 F,.int .i64 Z]] w (RGv w P (x.nH F Z)):=by
 obtain⟨w0,S⟩:=zex (((w.alloc (.cells sv 34)).alloc (.cells #[.int .i64 F,.int .i64 Z] 109)).alloc (.cells svZ 34));have bD:Blk w0 w.heap.size 34 sv:=by rw[S];exact zbn
 have bJ:Blk w0 (w.heap.size+1) 109 #[.int .i64 F,.int .i64 Z]:=by rw[S];exact zbn
 have bR:Blk w0 (w.heap.size+1+1) 34 svZ:=by rw[S];exact zbn
 have B0:Zr w w0:=by rw[S];exact zgr
 have bu:=hq.apt B0 w0.heap.size;have HN:=kD (Apt_.new hP B0.size);have a6:=hq.size;have bB:=hq.one;have zR:=kD bR.lt;have bw:=z1h F Z w0;have HC:Hid (x.nH F Z=if aO F Z≠0 then (aO F Z,x)else DevS.done (gC (x.put F 1 0 ⟨#[]⟩) F (Z - 1).toNat)):=kD (zbw x F Z)
 have HQ:=kD bu;clear hq bu hP;unfold svZ at S;go_enter func43,ntmps43
 go_upto_region 1 with fail
 rw[<-S];clear S;obtain⟨cJ,lJ⟩:=bJ.zc;go_wp2_with fail
 refine bw.mono ?_;rintro e w1 ⟨rfl,D⟩;have B1:=B0.trans (D.mono B0.size);have ao:=bD.mD D;have ba:=bJ.mD D;have av:=bR.mD D;have bc:=HQ.out.below D;have br:=kD (fun b hb=>HN.out b (kO D.size hb))
 have bK:=kD D.size;clear bw bD bJ bR B0 D cJ lJ;have l1:=cI ao a6;by_cases A:aO F Z=0
 rotate_left
 ·have HH:Hid (x.nH F Z=(aO F Z,x)):=kD (by rw[HC.out,if_pos A])
  clear HC;generalize aO F Z=E at *;have bW:(E != 0)=true:=by simpa using A
  have c:=aX av rfl a6 bB;have bP:=av.setRow (cs':=sv);have I:=RGv.mk (R:=w.heap.size+1+1) E bc B1 (by omega) zR.out
  clear A;go_wp2_with (first|(refine zlw l1 ?_)|(refine zsb c ?_))
  refine bodyPost_ret (au (cs:=sv) rfl rfl rfl bP underlying34 (by rw[a6];kernel_rfl)) rfl ?_
  rw[HH.out];exact I
 have an:Hid (x.nH F Z=DevS.done (gC (x.put F 1 0 ⟨#[]⟩) F (Z - 1).toNat)):=kD (by rw[HC.out,if_neg (by rw[A];simp)])
 have b5:=dK A;rw[A];clear A HC;have ab:=z9m bc br.out F 1 0 (by decide) ⟨#[]⟩ (by decide)
 obtain⟨p,hp⟩:=zxe (x.put F 1 0 ⟨#[]⟩);rw[hp]at ab an;obtain⟨cJ,lJ⟩:=ba.zc;clear hp;go_wp2_with (refine zlw l1 ?_)
 refine ab.mono ?_;rintro e w2 ⟨J,rfl,a1,M⟩;have B2:=B1.trans (M.mono B1.size);have bC:=a1.size;have bk:=a1.one;have c:=aX (ao.mD M) a6 bC bk;have bL:=(ao.mD M).setRow (cs':=J);have bN:=(ba.mD M).mO (cs':=J) (show w.heap.size+1≠w.heap.size by omega)
 have bQ:=(av.mD M).mO (cs':=J) (show w.heap.size+1+1≠w.heap.size by omega)
 have bX:=a1.row (Apt_.ne (kE _) (by have:=zR.out;omega)) J
 have B3:=Below.setRow B2 (kE _) J;have b1:w0.heap.size<=(w2.setRow w.heap.size J).heap.size:=by
  have h1:=M.size;have h2:=bK.out;simp
  omega
 clear ab l1 ao ba av bc br B1 M a1 cJ lJ HQ;go_upto_region 5 with (refine zsb c ?_)
 generalize w2.setRow w.heap.size J=W3 at *;clear c B2;obtain⟨z,rfl⟩:=lz (show 0<=Z by omega)
 rw[show (((z:Int) - 1).toNat)=z - 1 by omega]at an
 have b6:=gM;go_wp2_with fail
 go_loopw [6,7] (fun e6 q wr=>∃(k:Nat) (ac:Array Value),k+1<=z/\q=.int .i64 ((k:Int)+1)/\e6=.int .i64 (gC p F k).1/\RSv wr (Apt_ P w.heap.size w0.heap.size) (gC p F k).2 ac/\Blk wr w.heap.size 34 ac/\Blk wr (w.heap.size+1) 109 #[.int .i64 F,.int .i64 z]/\Blk wr (w.heap.size+1+1) 34 svZ/\Zr w wr/\w0.heap.size<=wr.heap.size) (fun _ q _=>z - (intOf q).toNat)
 case atStart=>
  have e0:=z8z p F;exact⟨0,J,by omega,rfl,by rw[e0],by rw[e0];exact bX,bL,bN,bQ,B3,b1⟩
 case round=>
  obtain⟨k,ac,hk,rfl,rfl,V,Y,bb,K,hB,bF⟩:=hrel;obtain⟨cJ,lJ⟩:=bb.zc;have U:=V.size;have bn:=V.one;have lk:=cI Y U;by_cases A:(gC p F k).1=0
  ·by_cases b0:k+1<z
   ·have a7:=z9q V (fun b hb=>HN.out b (kO bF hb)) (F+((k:Int)+1)) zsec ⟨am,fi⟩
    rw[<-z8x A]at a7;rw[A];have b3:(k:Int)+1<z:=by omega
    obtain⟨p2,bp⟩:=zxe (gC p F (k+1));rw[bp]at a7;have bt:=kD bp;clear A bp V;go_wp2_with (first|(refine zlw lk ?_)|(refine ct rfl 128 _ rfl (ag zsec) gM ?_))
    refine a7.mono ?_;rintro e w5 ⟨T,rfl,a2,O⟩;have c:=aX (Y.mD O) U a2.size a2.one;have bM:=(Y.mD O).setRow (cs':=T);have bO:=(bb.mD O).mO (cs':=T) (show w.heap.size+1≠w.heap.size by omega)
    have bU:=(K.mD O).mO (cs':=T) (show w.heap.size+1+1≠w.heap.size by omega)
    have bZ:=a2.row (Apt_.ne (kE _) (by have:=zR.out;omega)) T
    have B6:=Below.setRow (hB.trans (O.mono hB.size)) (kE _) T;have b2:w0.heap.size<=(w5.setRow w.heap.size T).heap.size:=by have:=O.size;simp;omega
    clear a7 lk Y bb K hB O a2 cJ lJ;go_wp2_with (refine zsb c ?_)
    go_roundw
    case rel=>exact⟨k+1,T,by omega,by go_num,by rw[bt.out],by rw[bt.out];exact bZ,bM,bO,bU,B6,b2⟩
    case measure=>simp[intOf];omega
   ·obtain rfl:z=k+1:=by omega
    have HH:Hid (x.nH F ((k+1:Nat):Int)=(gC p F k).2.flush):=kD (by rw[an.out,Nat.add_sub_cancel,ga A])
    have bA:=z36 V (fun b hb=>HN.out b (kO bF hb))
    rw[A];generalize (gC p F k).2=zz at *;clear A;go_wp2_with (refine zlw lk ?_)
    refine bA.mono ?_;rintro e w4 ⟨bG,rfl,bq,aL⟩;have a8:=bq.size;have c:=aX (K.mD aL) rfl a8 bq.one;have bT:=(K.mD aL).setRow (cs':=bG);have I:=RGv.mk (R:=w.heap.size+1+1) zz.flush.1 bq (hB.trans (aL.mono hB.size)) (by omega) zR.out
    clear bA lk Y K aL;go_wp2_with (refine zsb c ?_)
    refine bodyPost_ret (au (cs:=bG) rfl rfl rfl bT underlying34 (by rw[a8];kernel_rfl)) rfl ?_
    rw[HH.out];exact I
  ·have HH:Hid (x.nH F (z:Int)=((gC p F k).1,(gC p F k).2)):=kD (by rw[an.out,z8y A (by omega:k<=z - 1),gY A])
   generalize (gC p F k).1=E at *;generalize (gC p F k).2=zz at *;have bW:(E==0)=false:=by simpa using A
   have b4:(E != 0)=true:=by simpa using A
   have c:=aX K rfl U bn;have bS:=K.setRow (cs':=ac);have I:=RGv.mk (R:=w.heap.size+1+1) E V hB (by omega) zR.out
   clear A;by_cases b0:(k:Int)+1<z
   all_goals
    go_wp2_with (first|(refine zlw lk ?_)|(refine zsb c ?_))
    refine bodyPost_ret (au (cs:=ac) rfl rfl rfl bS underlying34 (by rw[U];kernel_rfl)) rfl ?_
    rw[HH.out];exact I
def ee (s:ByteArray):Rec:=if s.size<3\/99<s.size then z5b else ⟨(cf s).getD 0 0+256*(cf s).getD 1 0,(cf s).getD 2 0,s.extract 3 s.size⟩
def ig (F Z:Int)(s:ByteArray):Bool:=if s.size<3\/99<s.size then false else decide ((ee s).at_<256)&&!cx F Z (ee s).at_&&decide (1<=(ee s).kind)
theorem z4H (p q:Nat)(I:p<256)(J:q<256):bits .or .i64 (p:Int) ((q:Int)*256)=(p:Int)+256*q:=by
 have D:p ||| q*256=p+256*q:=by
  have h:=Nat.two_pow_add_eq_or_of_lt (i:=8) I q;rw[Nat.or_comm,show q*256=2 ^ 8*q by omega,<-h]
  omega
 have c:(BitVec.ofInt 64 (p:Int)).toNat=p:=by
  rw[BitVec.ofInt_natCast,BitVec.toNat_ofNat];exact lY (by omega)
 have A:(BitVec.ofInt 64 ((q:Int)*256)).toNat=q*256:=by
  rw[show (q:Int)*256=((q*256:Nat):Int) by omega,BitVec.ofInt_natCast,BitVec.toNat_ofNat];exact lY (by omega)
 show IntKind.i64.wrap ((BitVec.ofInt 64 (p:Int) ||| BitVec.ofInt 64 ((q:Int)*256)).toNat:Int)=_
 rw[BitVec.toNat_or,c,A,D,kW];omega
theorem z1m {f:Fr}(D:f.kind=2):aB f=ee f.data:=by
 unfold aB ee;by_cases h:f.data.size<3\/99<f.data.size
 ·rw[if_pos (.inr h),if_pos h]
 ·rw[if_neg (by omega),if_neg h]
  have y0:=aZ (d9 f.data) 0;have y1:=aZ (d9 f.data) 1;obtain⟨p,c⟩:=lz y0.1;obtain⟨q,A⟩:=lz y1.1;rw[c,A,z4H p q (by omega) (by omega)]
theorem z9i {n F Z:Int}{f:Fr}(A:f.kind=2)(D:n<=256):dp n F Z f=(ig F Z f.data&&decide ((ee f.data).at_<n)):=by
 unfold dp ig;rw[z1m A];by_cases h:f.data.size<3\/99<f.data.size
 ·rw[if_pos (.inr h),if_pos h];rfl
 ·rw[if_neg (by omega),if_neg h]
  by_cases c:(ee f.data).at_<n
  ·rw[decide_eq_true c,decide_eq_true (show (ee f.data).at_<256 by omega)]
   simp only[Bool.true_and,Bool.and_true];rfl
  ·rw[decide_eq_false c];simp
theorem jk {n F Z:Int}{f:Fr}(c:f.kind≠2):dp n F Z f=false:=by unfold dp;rw[if_pos (.inl c)]
theorem Tryz.qB (a k:Int)(s:ByteArray):prog.built 118 [(0,.int .i64 a),(1,.int .i64 k),(2,.string s)]=some #[.int .i64 a,.int .i64 k,.string s]:=by kernel_rfl
theorem z0l {D:Func}{m n R:Nat}{ty t:TypeId}{tmps:Array Value}{w:World}{cs:Array Value}{I:Nat × Nat}{v:Value}{J:_}(T:D.results=#[.cell m ty,.tmp n])(O:tmps.getD m undef=.pointer (some ⟨R,0,none⟩))(S:tmps.getD n undef=v)
  (M:w.heap[R]?=some (.cells cs t I)) (U:prog.underlying ty=some (.struct J)) (hi:(prog.info? ty).map (·.size)=some cs.size):
  (results D tmps).run prog w=.ok (.tuple #[.agg cs,v]) w:=by
 have h:=run_loadVar_row (P:=prog) w R t ty cs I _ M U rfl hi;have K:(asAddr (.pointer (some ⟨R,0,none⟩))).run prog w=.ok ⟨R,0,none⟩ w:=rfl;have c:tmps[m]?.getD undef=.pointer (some ⟨R,0,none⟩):=by simpa using O
 have A:tmps[n]?.getD undef=v:=by simpa using S
 simp[results,T,c,A,K,h]
theorem z5o (F Z:Int)(bb:0<=F/\F<=256/\0<=Z/\Z<=256)(s:ByteArray)(w:World):
  Calls prog 193 #[.agg #[.int .i64 F,.int .i64 Z],.string s] w fun e M=>e=.returned (.tuple #[.agg (recC (ee s)),.bool (ig F Z s)])/\Zr w M:=by
 obtain⟨W,hW⟩:=zex ((w.alloc (.cells #[.int .i64 F,.int .i64 Z] 109)).alloc (.cells #[.int .i64 0,.int .i64 0,.string ⟨#[]⟩] 118));have bJ:Blk W w.heap.size 109 #[.int .i64 F,.int .i64 Z]:=by rw[hW];exact zbn
 have bR:Blk W (w.heap.size+1) 118 #[.int .i64 0,.int .i64 0,.string ⟨#[]⟩]:=by rw[hW];exact zbn
 have hB:Zr w W:=by rw[hW];exact zgr
 by_cases hb:s.size<3\/99<s.size
 ·have h1:ee s=z5b:=by unfold ee;rw[if_pos hb]
  have h2:ig F Z s=false:=by unfold ig;rw[if_pos hb]
  rw[h1,h2];clear h1 h2;unfold z5b recC;obtain⟨cR,lR⟩:=bR.zc;have fR:=bR.free;have hd:s.size<3\/(¬s.size<3/\99<s.size):=by omega
  clear hb;rcases hd with hd|⟨hd,bA⟩
  all_goals
   go_enter func193,ntmps193
   go_upto_region 1 with fail
   rw[<-hW];go_wp2_with fail
   refine bodyPost_ret (v:=.tuple #[.agg #[.int .i64 0,.int .i64 0,.string ⟨#[]⟩],.bool false]) (by simp[results,results193,go_sem,cR,lR]) rfl ?_
   exact⟨rfl,zgr⟩
 have T:Hid (ee s=⟨(cf s).getD 0 0+256*(cf s).getD 1 0,(cf s).getD 2 0,s.extract 3 s.size⟩):=kD (by unfold ee;rw[if_neg hb])
 have ab:Hid (ig F Z s=(decide ((ee s).at_<256)&&!cx F Z (ee s).at_&&decide (1<=(ee s).kind))):=kD (by unfold ig;rw[if_neg hb])
 have c1:¬s.size<3:=by omega
 have c2:¬99<s.size:=by omega
 go_enter func193,ntmps193
 go_upto_region 1 with fail
 rw[<-hW];clear hW;go_upto_region 3 with fail
 have bk:=dW s 0 0 rfl (by omega)
 have bn:=dW s 1 1 rfl (by omega)
 have bp:=dW s 2 2 rfl (by omega)
 have y0:=aZ (d9 s) 0;have y1:=aZ (d9 s) 1;have y2:=aZ (d9 s) 2;have ba:(3:Int)<=s.size:=by omega
 generalize (cf s).getD 0 0=d0 at *;generalize (cf s).getD 1 0=O at *;generalize (cf s).getD 2 0=c at *;have bq:IntKind.i64.wrap d0=d0:=by rw[kW];omega
 have br:IntKind.i64.wrap O=O:=by rw[kW];omega
 have bt:IntKind.i64.wrap c=c:=by rw[kW];omega
 have bu:IntKind.i64.wrap (256*O)=256*O:=by rw[kW];omega
 have bw:IntKind.i64.wrap (d0+256*O)=d0+256*O:=by rw[kW];omega
 obtain⟨X,hX⟩:=zex (W.drew.alloc (.cells #[.int .i64 0,.int .i64 0,.string ⟨#[]⟩] 118));have bX:Blk X W.heap.size 118 #[.int .i64 0,.int .i64 0,.string ⟨#[]⟩]:=by rw[hX];exact Blk.new W.drew _ _
 have DX:Zr W X:=by rw[hX];exact(kF _ _).drew.alloc (kE _) _
 have HX:=kD (show W.drew.alloc (.cells #[.int .i64 0,.int .i64 0,.string ⟨#[]⟩] 118)=X from hX.symm)
 have ac:=kD (show (W.alloc (.cells #[.int .i64 0,.int .i64 0,.string ⟨#[]⟩] 118)).drew=X from hX.symm)
 clear hX;go_cut [6]from 16 to 29 (fun s6 wx=>s6=.pointer (some ⟨W.heap.size,0,none⟩)/\Blk wx W.heap.size 118 #[.int .i64 (d0+256*O),.int .i64 c,.string (s.extract 3 s.size)]/\Zr W wx)
 case first=>
  as_aux_lemma=>
   refine j6 (Tr.takes [0,1,2,3,4,5,6,7,8,9,10,11,12,13] (.one 14 (.last 15))) 15 (fun _=>True) (by kernel_rfl) (by kernel_rfl) (fun _ _ _ _ _ h=>h) trivial ?_
   simp only[Tr.takes,Tr.fill,kT,kV];iterate 13 (refine gh (by rfl) ?_ (fun M bB=>?_) ?_;rotate_left;(focus (go_simp;(try with_reducible rfl)));(try simp only[Act.put,kJ,kH,kI]))
   refine z2f 118 _ rfl (by rfl) #[.int .i64 (d0+256*O),.int .i64 c,.string (s.extract 3 s.size)] (Tryz.qB _ _ _) ?_
   try simp only[Act.put,kJ,kH,kI]
   refine gu fun K I=>?_
   go_simp;first|rw[HX.out]|rw[ac.out]
   refine I _ _ trivial ?_;clear I K HX ac;have S:=aT (ty:=118) (vs:=#[.int .i64 (d0+256*O),.int .i64 c,.string (s.extract 3 s.size)]) bX rfl (by simp[Value.oneCell']) (by kernel_rfl)
   have a6:=bX.setRow (cs':=#[.int .i64 (d0+256*O),.int .i64 c,.string (s.extract 3 s.size)]);have D2:=Below.setRow DX (kE _) #[.int .i64 (d0+256*O),.int .i64 c,.string (s.extract 3 s.size)];refine jP fun K I=>?_
   refine zob S ?_;refine I _ _ ?_;clear I K;try simp only[Act.put,kJ,kH,kI]
   have HF:=kD (And.intro a6 D2);generalize X.setRow W.heap.size #[.int .i64 (d0+256*O),.int .i64 c,.string (s.extract 3 s.size)]=V at *;clear S a6 D2 bX DX;go_wp2_with fail
   go_meet
   case rel=>exact⟨rfl,HF.out⟩
 case rest=>
  as_aux_lemma=>
   obtain⟨rfl,ao,D3⟩:=hcut;rw[T.out]at ab;simp only at ab
   clear bk bn bp ba bq br bt bu bw y0 y1 y2 HX ac bX DX c1 c2 hb;generalize d0+256*O=A at *;generalize s.extract 3 s.size=D at *;have a1:=bJ.mD D3;have a2:=bR.mD D3;have B3:=hB.trans (D3.mono hB.size);have zX:=ao.lt;have zR:=bR.lt;have a7:=z1s F Z A bb wc.drew;have HS:Hid (∀V,Zr wc V->V.cell? ⟨W.heap.size,0,none⟩=some (.int .i64 A)/\V.cell? ⟨W.heap.size,1,none⟩=some (.int .i64 c)/\V.cell? ⟨W.heap.size,2,none⟩=some (.string D)/\V.cell? ⟨w.heap.size,0,none⟩=some (.int .i64 F)/\V.cell? ⟨w.heap.size,1,none⟩=some (.int .i64 Z)):=kD fun V hV=>by
    have b1:=(ao.mD hV).cells;have b2:=(a1.mD hV).cells;exact⟨(b1 0).trans rfl,(b1 1).trans rfl,(b1 2).trans rfl,(b2 0).trans rfl,(b2 1).trans rfl⟩
   have HB:∀b:Bool,ig F Z s=b->Hid (ig F Z s=b):=fun _ h=>kD h
   clear bJ bR hB D3 a1;have lX:=ao.lt;go_wp2_with fail
   by_cases c1:A<256
   ·have aL:decide (A<(256:Int))=true:=decide_eq_true c1;have HE:=HB (!cx F Z A&&decide (1<=c)) (by rw[ab.out];simp only[aL,Bool.true_and])
    clear c1;refine zrm [.take 0,.take 1,.take 2,.take 3,.take 4,.take 5,.take 6,.take 7,.one 8,.take 9,.take 10,.take 11,.take 12,.take 13,.take 14,.take 15,.one 16,.one 17] 18 (fun M=>M.cell? ⟨W.heap.size,0,none⟩=some (.int .i64 A)/\M.cell? ⟨W.heap.size,1,none⟩=some (.int .i64 c)/\M.cell? ⟨W.heap.size,2,none⟩=some (.string D)/\M.cell? ⟨w.heap.size,0,none⟩=some (.int .i64 F)/\M.cell? ⟨w.heap.size,1,none⟩=some (.int .i64 Z)) (HS.out _ (kF _ _).drew) ?_
    simp only[kR,kS,Ms.fill,kT,kV];iterate 8 refine ztk ?_
    refine ah (by rfl) fun K I=>?_
    go_simp;refine a7.mono ?_;rintro e w5 ⟨rfl,bc⟩;have J:Zr wc w5:=(kF wc.heap.size wc).drew.trans bc;refine I _ _ (fun _=>HS.out _ J) ?_
    clear I K a7;have Y:=a2.mD J;have B5:=B3.trans (J.mono B3.size);have S:=aT (ty:=118) (vs:=#[.int .i64 A,.int .i64 c,.string D]) Y rfl (by simp[Value.oneCell']) (by kernel_rfl)
    have an:=Y.setRow (cs':=#[.int .i64 A,.int .i64 c,.string D]);have B6:=Below.setRow B5 (g:=w.heap.size+1) (by omega) #[.int .i64 A,.int .i64 c,.string D]
    have U:=kD (show (w5.setRow (w.heap.size+1) #[.int .i64 A,.int .i64 c,.string D]).cell? ⟨W.heap.size,0,none⟩=some (.int .i64 A)/\(w5.setRow (w.heap.size+1) #[.int .i64 A,.int .i64 c,.string D]).cell? ⟨W.heap.size,1,none⟩=some (.int .i64 c)/\(w5.setRow (w.heap.size+1) #[.int .i64 A,.int .i64 c,.string D]).cell? ⟨W.heap.size,2,none⟩=some (.string D)/\(w5.setRow (w.heap.size+1) #[.int .i64 A,.int .i64 c,.string D]).cell? ⟨w.heap.size,0,none⟩=some (.int .i64 F)/\(w5.setRow (w.heap.size+1) #[.int .i64 A,.int .i64 c,.string D]).cell? ⟨w.heap.size,1,none⟩=some (.int .i64 Z)from by
     have h:=HS.out _ J;have k:∀b j,b≠w.heap.size+1->(w5.setRow (w.heap.size+1) #[.int .i64 A,.int .i64 c,.string D]).cell? ⟨b,j,none⟩=w5.cell? ⟨b,j,none⟩:=fun b j hb=>World.cell?_of_block (w:=w5) (a:=⟨b,j,none⟩) (ak _ _ _ _ hb)
     rw[k _ _ (by omega),k _ _ (by omega),k _ _ (by omega),k _ _ (by omega),k _ _ (by omega)]
     exact h)
    obtain⟨ib,a8⟩:=zxe (cx F Z A);rw[a8]at HE |-;clear a8;cases ib
    all_goals
     iterate 3 refine ztk ?_
     first
      | (iterate 3 ((first|refine zsa ?_|refine zse ?_)))
      | (iterate 3 refine ztk ?_)
     iterate 1 refine ztk ?_
     refine ah (by rfl) fun K I=>?_
     refine zob S ?_;refine I _ _ (fun _=>U.out) ?_
     clear I K;(try simp only[Act.put,kJ,kH,kI])
     refine ah (by rfl) fun K I=>?_
     go_simp;refine I _ _ (fun _=>U.out) ?_
     clear I K;refine ax ?_;go_wp2_with fail
     refine bodyPost_ret (z0l (cs:=#[.int .i64 A,.int .i64 c,.string D]) rfl rfl rfl an underlying118 (by kernel_rfl)) rfl ?_
     exact⟨by unfold recC;rw[T.out,HE.out]<;>try rfl,B6⟩
   ·have aL:decide (A<(256:Int))=false:=decide_eq_false c1;have HE:=HB false (by rw[ab.out];simp only[aL,Bool.false_and])
    clear c1;refine zrm [.take 0,.take 1,.take 2,.take 3,.take 4,.take 5,.take 6,.take 7,.one 8,.take 9,.take 10,.take 11,.take 12,.take 13,.take 14,.take 15,.one 16,.one 17] 18 (fun M=>M.cell? ⟨W.heap.size,0,none⟩=some (.int .i64 A)/\M.cell? ⟨W.heap.size,1,none⟩=some (.int .i64 c)/\M.cell? ⟨W.heap.size,2,none⟩=some (.string D)/\M.cell? ⟨w.heap.size,0,none⟩=some (.int .i64 F)/\M.cell? ⟨w.heap.size,1,none⟩=some (.int .i64 Z)) (HS.out _ (kF _ _).drew) ?_
    simp only[kR,kS,Ms.fill,kT,kV];iterate 5 refine ztk ?_
    iterate 5 ((first|refine zsa ?_|refine zse ?_))
    iterate 2 refine ztk ?_
    iterate 3 ((first|refine zsa ?_|refine zse ?_))
    iterate 1 refine ztk ?_
    have Y:=a2.drew;have B5:=B3.drew;have S:=aT (ty:=118) (vs:=#[.int .i64 A,.int .i64 c,.string D]) Y rfl (by simp[Value.oneCell']) (by kernel_rfl)
    have an:=Y.setRow (cs':=#[.int .i64 A,.int .i64 c,.string D]);have B6:=Below.setRow B5 (g:=w.heap.size+1) (by omega) #[.int .i64 A,.int .i64 c,.string D]
    have U:=kD (show (wc.drew.setRow (w.heap.size+1) #[.int .i64 A,.int .i64 c,.string D]).cell? ⟨W.heap.size,0,none⟩=some (.int .i64 A)/\(wc.drew.setRow (w.heap.size+1) #[.int .i64 A,.int .i64 c,.string D]).cell? ⟨W.heap.size,1,none⟩=some (.int .i64 c)/\(wc.drew.setRow (w.heap.size+1) #[.int .i64 A,.int .i64 c,.string D]).cell? ⟨W.heap.size,2,none⟩=some (.string D)/\(wc.drew.setRow (w.heap.size+1) #[.int .i64 A,.int .i64 c,.string D]).cell? ⟨w.heap.size,0,none⟩=some (.int .i64 F)/\(wc.drew.setRow (w.heap.size+1) #[.int .i64 A,.int .i64 c,.string D]).cell? ⟨w.heap.size,1,none⟩=some (.int .i64 Z)from by
     have h:=HS.out _ (kF _ _).drew;have k:∀b j,b≠w.heap.size+1->(wc.drew.setRow (w.heap.size+1) #[.int .i64 A,.int .i64 c,.string D]).cell? ⟨b,j,none⟩=wc.drew.cell? ⟨b,j,none⟩:=fun b j hb=>World.cell?_of_block (w:=wc.drew) (a:=⟨b,j,none⟩) (ak _ _ _ _ hb)
     rw[k _ _ (by omega),k _ _ (by omega),k _ _ (by omega),k _ _ (by omega),k _ _ (by omega)]
     exact h)
    refine ah (by rfl) fun K I=>?_
    refine zob S ?_;refine I _ _ (fun _=>U.out) ?_
    clear I K;(try simp only[Act.put,kJ,kH,kI])
    refine ah (by rfl) fun K I=>?_
    go_simp;refine I _ _ (fun _=>U.out) ?_
    clear I K;refine ax ?_;go_wp2_with fail
    refine bodyPost_ret (z0l (cs:=#[.int .i64 A,.int .i64 c,.string D]) rfl rfl rfl an underlying118 (by kernel_rfl)) rfl ?_
    exact⟨by unfold recC;rw[T.out,HE.out]<;>try rfl,B6⟩
end Go.Proofs.YtejmknghkbobnaaGreatDoor
