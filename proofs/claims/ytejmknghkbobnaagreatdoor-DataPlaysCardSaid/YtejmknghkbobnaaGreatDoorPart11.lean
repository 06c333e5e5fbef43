import Derived.Test.YtejmknghkbobnaaGreatDoorPart10
set_option linter.all false
set_option maxRecDepth 100000
set_option maxHeartbeats 0
namespace Go.Proofs.YtejmknghkbobnaaGreatDoor
open Go.Proofs.Tryz
open Go.RowKit Go.Maps
theorem z8Q (x:DevS)(F Z q:Int)(k:Nat):(x.mM F Z q k).run.length<=k/\∀r∈(x.mM F Z q k).run,(-9223372036854775808<=r.at_/\r.at_<=9223372036854775807)/\r.data.size<=maxLen:=by
 induction k with
 | zero=>exact⟨kE _,fun r h=>by cases h⟩
 | succ k ih=>
  cases hs:(x.mM F Z q k).stop
  ·rw[z1e hs];split
   ·exact⟨kP _,fun r h=>by cases h⟩
   ·split
    ·exact⟨kO ih.1 (Nat.le_succ _),ih.2⟩
    ·rename_i I A
     refine⟨by show (_++[_]).length<=_;simp;exact ih.1,fun r c=>?_⟩
     rcases lE.1 c with c|c
     ·exact ih.2 r c
     ·have:r=aB (x.fr (F+(k+1))):=by simpa using c
      subst this;have D:dp x.stable.length F Z (x.fr (F+(k+1)))=true:=by
       unfold eR at A;simp at A
       exact A.1.1.2
      exact z62 D
  ·rw[jD hs (Nat.le_succ k)];exact⟨kO ih.1 (Nat.le_succ _),ih.2⟩
theorem z8S (x:DevS)(F Z:Int):gv (x.look F Z).2.2.1:=by
 unfold DevS.look;by_cases h:(x.head F Z).1=0
 ·rw[if_neg (by rw[h];simp)]
  split
  ·exact⟨kP _,fun r h=>by cases h⟩
  ·have:=i7 h
   have c:=z8Q x F Z (x.head F Z).2 (Z - 1).toNat;exact⟨by show (x.mM F Z (x.head F Z).2 (Z - 1).toNat).run.length<=1000;have:=c.1;omega,c.2⟩
 ·rw[if_pos h];exact⟨kP _,fun r h=>by cases h⟩
theorem z5W (x:DevS)(F Z:Int):0<=(x.look F Z).2.1/\(x.look F Z).2.1<4294967296:=by
 unfold DevS.look;split
 ·exact⟨Int.le_refl 0,by show (0:Int)<4294967296;decide⟩
 ·split
  ·exact⟨Int.le_refl 0,by show (0:Int)<4294967296;decide⟩
  ·exact iC x F Z
theorem z7O (D:Nat)(F Z:Int)(B:List Nat)(x:DevS)(w:World)(h:DevAt w D B x):
  Calls prog 125 #[.pointer (some ⟨D,0,none⟩),.agg #[.int .i64 F,.int .i64 Z]] w fun e w'=>e=.returned (.tuple #[.int .i64 (x.apply F Z).1,.int .i64 (x.apply F Z).2.1])/\∃B',DevAt w' D B' (x.apply F Z).2.2/\Grow w B w' B':=by
 have bJ:Blk (w.alloc (.cells #[.int .i64 F,.int .i64 Z] 109)) w.heap.size 109 #[.int .i64 F,.int .i64 Z]:=Blk.new _ _ _;have BA:Zr w (w.alloc (.cells #[.int .i64 F,.int .i64 Z] 109)):=(kF _ _).alloc (kE _) _;have I:=zan D F Z B x _ (h.below BA);have S:=z8S x F Z;have an:=z5W x F Z;obtain⟨cJ,lJ⟩:=bJ.zc;have HA:=show x.apply F Z=if (x.look F Z).1≠0 then (0,(x.look F Z).1,x)else if (x.look F Z).2.2.2=false then (0,9,x)else if (x.applies (x.look F Z).2.1 (x.look F Z).2.2.1).1≠0 then (0,x.applies (x.look F Z).2.1 (x.look F Z).2.2.1)else (((x.look F Z).2.2.1.length:Int),x.applies (x.look F Z).2.1 (x.look F Z).2.2.1)from rfl
 generalize x.look F Z=lk at *;obtain⟨E,q,R,wh⟩:=lk;simp only at S an HA I
 have J:=kD HA;clear HA bJ;have a6:=S.1;go_enter func125,ntmps125
 go_wp2_with fail
 refine I.mono ?_;rintro e w1 ⟨Y,A,c,rfl,a1,aL⟩;have T:=BA.trans (Y.mono BA.size);have av:∀ad,A=some ad->ad.block∉B:=fun ad e=>h.far (by have:=aL ad e;have:=BA.size;omega)
 clear I Y cJ lJ;by_cases K:E=0
 rotate_left
 ·have M:Hid (x.apply F Z=(0,E,x)):=kD (by rw[J.out,if_pos K])
  have U:(E != 0)=true:=by simpa using K
  clear K J;go_wp2_with fail
  go_ret2
  exact⟨by rw[M.out];rfl,B,by rw[M.out];exact(h.below T).alloc _,Grow.of_below (T.alloc T.size _) B⟩
 subst K;cases wh
 ·have M:Hid (x.apply F Z=(0,9,x)):=kD (by rw[J.out,if_neg (by simp),if_pos rfl])
  clear J;go_wp2_with fail
  go_ret2
  exact⟨by rw[M.out];rfl,B,by rw[M.out];exact(h.below T).alloc _,Grow.of_below (T.alloc T.size _) B⟩
 have O:Hid (x.apply F Z=if (x.applies q R).1≠0 then (0,x.applies q R)else ((R.length:Int),x.applies q R)):=kD (by rw[J.out,if_neg (by simp),if_neg (by simp)])
 have bX:Blk (w1.alloc (.cells #[.int .u32 q,.slice A R.length c,.bool true] 216)) w1.heap.size 216 #[.int .u32 q,.slice A R.length c,.bool true]:=Blk.new _ _ _;have B2:=T.alloc T.size (.cells #[.int .u32 q,.slice A R.length c,.bool true] 216);have V:=z9W D q an true B x A c R S _ (h.below B2) (Reads.alloc a1 _) av;have nX:w1.heap.size∉B:=h.far T.size;obtain⟨p,hp⟩:=zxe (x.applies q R);rw[hp]at V O;clear J hp;go_wp2_with fail
 refine V.mono ?_;rintro e w3 ⟨rfl,B3,ab,ac⟩;have ao:=ac.blk bX nX;obtain⟨a2,a7⟩:=ao.zc;have gF:=(Grow.of_below B2 B).trans ac;by_cases K:p.1=0
 ·have M:Hid (x.apply F Z=((R.length:Int),p)):=kD (by rw[O.out,if_neg (by rw[K];simp)])
  have U:(p.1 != 0)=false:=by simpa using K
  have HE:=kD K;clear K O;go_wp2_with fail
  go_ret2
  exact⟨by rw[M.out,HE.out];rfl,B3,by rw[M.out];exact ab,gF⟩
 ·have M:Hid (x.apply F Z=(0,p)):=kD (by rw[O.out,if_pos K])
  have U:(p.1 != 0)=true:=by simpa using K
  clear K O;go_wp2_with fail
  go_ret2
  exact⟨by rw[M.out];rfl,B3,by rw[M.out];exact ab,gF⟩
theorem zcq (D c A I:Nat)(F Z q:Int)(Y:0<=q/\q<4294967296)(B:List Nat)(x:DevS)(w:World)(h:DevAt w D B x)(K:Blk w c 27 #[.pointer (some ⟨D,0,none⟩)])(J:Blk w A 109 #[.int .i64 F,.int .i64 Z])(M:Blk w I 188 #[.int .u32 q]):
  Calls prog 192 #[.pointer (some ⟨c,0,none⟩),.pointer (some ⟨A,0,none⟩),.pointer (some ⟨I,0,none⟩)] w (da w D B (x.put F 1 (aD q) ⟨#[]⟩)):=by
 obtain⟨U,lP⟩:=K.zc;obtain⟨T,lJ⟩:=J.zc;obtain⟨V,lQ⟩:=M.zc;have S:=z2Z D B x F 1 ((q+1) % 4294967296) ⟨#[]⟩ (by decide) (by omega) w h
 unfold da aD;go_enter func192,ntmps192
 go_wp2_with fail
 refine S.mono ?_;rintro e w1 ⟨rfl,O⟩;go_wp2_with fail
 go_ret
 exact⟨rfl,O⟩
theorem z8j (D:Nat)(F Z:Int)(B:List Nat)(x:DevS)(w:World)(h:DevAt w D B x):
  Calls prog 127 #[.pointer (some ⟨D,0,none⟩),.agg #[.int .i64 F,.int .i64 Z]] w (da w D B (x.clear F Z)):=by
 have bb:∀(fn:Fn) (first aL:Array Value) (w:World),(Instr.makeFunc fn first aL).run prog w=.ok (.func fn first aL) w:=fun _ _ _ _=>rfl
 obtain⟨wA,hA⟩:=zex ((w.alloc (.cells #[.pointer (some ⟨D,0,none⟩)] 27)).alloc (.cells #[.int .i64 F,.int .i64 Z] 109));have bP:Blk wA w.heap.size 27 #[.pointer (some ⟨D,0,none⟩)]:=by rw[hA];exact zbn
 have bJ:Blk wA (w.heap.size+1) 109 #[.int .i64 F,.int .i64 Z]:=by rw[hA];exact zbn
 have BA:Zr w wA:=by rw[hA];exact zgr
 have M:=z2G D F Z B x wA (h.below BA);have hq:=iC x F Z;have HC:=show x.clear F Z=if (x.head F Z).1≠0 then ((x.head F Z).1,x)else DevS.done (x.put F 1 (aD (x.head F Z).2) ⟨#[]⟩)from rfl
 generalize (x.head F Z).1=E at *;generalize (x.head F Z).2=q at *;have O:=kD HC;have cP:=bP.cells;have cJ:=bJ.cells;have lP:=bP.lt;have lJ:=bJ.lt;clear HC;unfold da;go_enter func127,ntmps127
 go_wp2_with fail
 rw[<-hA];clear hA;go_wp2_with fail
 refine M.mono ?_;rintro e w1 ⟨rfl,T⟩;have an:=bP.mD T;have a2:=bJ.mD T;have B1:=BA.trans (T.mono BA.size);clear M T cP cJ lP lJ bP bJ BA;by_cases K:E=0
 rotate_left
 ·have HL:Hid (x.clear F Z=(E,x)):=kD (by rw[O.out,if_pos K])
  have ba:(E != 0)=true:=by simpa using K
  clear K O;go_wp2_with fail
  go_ret
  exact⟨by rw[HL.out];rfl,B,by rw[HL.out];exact(h.below B1).alloc _,Grow.of_below (B1.alloc B1.size _) B⟩
 have HL:Hid (x.clear F Z=DevS.done (x.put F 1 (aD q) ⟨#[]⟩)):=kD (by rw[O.out,if_neg (by simpa using K)])
 subst K;clear O;obtain⟨V,S⟩:=zex w1.heap.size;obtain⟨U,Y⟩:=zex ((w1.alloc (.cells #[.int .u32 q] 188)).alloc (.cells #[.func (.func 192) #[] #[.pointer (some ⟨w.heap.size,0,none⟩),.pointer (some ⟨w.heap.size+1,0,none⟩),.pointer (some ⟨V,0,none⟩)],.func (.func 121) #[.pointer (some ⟨D,0,none⟩)] #[]] 58));have ao:Blk U w.heap.size 27 #[.pointer (some ⟨D,0,none⟩)]:=by rw[Y];exact(an.alloc _).alloc _
 have ac:Blk U (w.heap.size+1) 109 #[.int .i64 F,.int .i64 Z]:=by rw[Y];exact(a2.alloc _).alloc _
 have av:Blk U V 188 #[.int .u32 q]:=by rw[Y,S];exact zbn
 have ab:Blk U (V+1) 58 #[.func (.func 192) #[] #[.pointer (some ⟨w.heap.size,0,none⟩),.pointer (some ⟨w.heap.size+1,0,none⟩),.pointer (some ⟨V,0,none⟩)],.func (.func 121) #[.pointer (some ⟨D,0,none⟩)] #[]]:=by rw[Y];exact Blk.new' (by simp[S])
 have BT:Zr w U:=by rw[Y];exact(B1.alloc B1.size _).alloc (by have:=B1.size;simp;omega) _
 have a1:=h.below BT;have nS:V+1∉B:=h.far (by have:=B1.size;omega)
 obtain⟨p,hp⟩:=zxe (x.put F 1 (aD q) ⟨#[]⟩);rw[hp]at HL;have A:=zcP 192 121 #[] #[.pointer (some ⟨w.heap.size,0,none⟩),.pointer (some ⟨w.heap.size+1,0,none⟩),.pointer (some ⟨V,0,none⟩)] #[.pointer (some ⟨D,0,none⟩)] #[] (V+1) U
  (fun W=>p.1=0/\∃I,DevAt W D I p.2/\Grow U B W I) (fun E W=>E=(DevS.done p).1/\∃I,DevAt W D I (DevS.done p).2/\Grow U B W I)
  (fun _ _=>by kernel_rfl) (fun _ _=>by kernel_rfl) ab (fun W hJ=>by
   obtain⟨-,I,-,g2⟩:=hJ;exact g2.blk ab nS)
  (by
   refine eJ (zcq D w.heap.size (w.heap.size+1) V F Z q hq B x U a1 ao ac av) rfl ?_;rintro e W' ⟨rfl,I,c,J⟩;rw[hp]at c |-;refine⟨_,rfl,fun K=>⟨K,I,c,J⟩,fun K=>?_⟩
   rw[gY K];exact⟨rfl,I,c,J⟩)
  (by
   rintro W ⟨K,I,c,J⟩;refine eJ (jz D I p.2 W c) rfl ?_;rintro e W' ⟨rfl,a6,a7⟩;refine⟨_,rfl,?_⟩
   rw[ga K];exact⟨rfl,I,a6,J.trans a7⟩)
 obtain⟨a8,bc⟩:=an.zc;clear ao ac av ab a1 nS hp;rw[S]at Y A;clear S;go_wp2_with fail
 rw[<-Y];refine A.mono ?_;rintro e w' ⟨E,rfl,rfl,I,c,J⟩;clear Y A;go_wp2_with fail
 go_ret
 rw[HL.out];exact⟨rfl,I,c,(Grow.of_below BT B).trans J⟩
theorem com1 (D K M O:Nat)(F Z:Int)(B:List Nat)(x:DevS)(A:Option Addr)(c:Nat)(l:List Rec)(J:gv l)(w:World)(h:DevAt w D B x)(hr:RunAt w A l)(I:∀ad,A=some ad->ad.block∉B)(U:Blk w K 27 #[.pointer (some ⟨D,0,none⟩)])(T:Blk w M 109 #[.int .i64 F,.int .i64 Z])(V:Blk w O 48 #[.slice A l.length c]):
  Calls prog 122 #[.pointer (some ⟨K,0,none⟩),.pointer (some ⟨M,0,none⟩),.pointer (some ⟨O,0,none⟩)] w (da w D B (x.log F Z l)):=by
 obtain⟨cP,lP⟩:=U.zc;obtain⟨cJ,lJ⟩:=T.zc;obtain⟨cR,lR⟩:=V.zc;have S:=zbx D F Z B x A c l J w h hr I;unfold da at S |-;go_enter func122,ntmps122
 go_wp2_with fail
 refine S.mono ?_;rintro e w1 ⟨rfl,Y⟩;go_wp2_with fail
 go_ret
 exact⟨rfl,Y⟩
theorem com2 (D c A:Nat)(F Z:Int)(B:List Nat)(x:DevS)(w:World)(h:DevAt w D B x)(J:Blk w c 27 #[.pointer (some ⟨D,0,none⟩)])(I:Blk w A 109 #[.int .i64 F,.int .i64 Z]):
  Calls prog 124 #[.pointer (some ⟨c,0,none⟩),.pointer (some ⟨A,0,none⟩)] w (da w D B (x.apply F Z).2):=by
 obtain⟨S,U⟩:=J.zc;obtain⟨O,T⟩:=I.zc;have M:=z7O D F Z B x w h;unfold da;generalize x.apply F Z=p at *;go_enter func124,ntmps124
 go_wp2_with fail
 refine M.mono ?_;rintro e V ⟨rfl,K⟩;go_wp2_with fail
 go_ret
 exact⟨rfl,K⟩
theorem com3 (D c A:Nat)(F Z:Int)(B:List Nat)(x:DevS)(w:World)(h:DevAt w D B x)(K:Blk w c 27 #[.pointer (some ⟨D,0,none⟩)])(J:Blk w A 109 #[.int .i64 F,.int .i64 Z]):
  Calls prog 126 #[.pointer (some ⟨c,0,none⟩),.pointer (some ⟨A,0,none⟩)] w (da w D B (x.clear F Z)):=by
 obtain⟨S,U⟩:=K.zc;obtain⟨O,T⟩:=J.zc;have I:=z8j D F Z B x w h;unfold da at I |-;go_enter func126,ntmps126
 go_wp2_with fail
 refine I.mono ?_;rintro e V ⟨rfl,M⟩;go_wp2_with fail
 go_ret
 exact⟨rfl,M⟩
theorem z6y (D:Nat)(F Z:Int)(B:List Nat)(x:DevS)(A:Option Addr)(c:Nat)(l:List Rec)(an:gv l)(w:World)(h:DevAt w D B x)(hr:RunAt w A l)(ac:∀ad,A=some ad->ad.block∉B):
  Calls prog 52 #[.pointer (some ⟨D,0,none⟩),.agg #[.int .i64 F,.int .i64 Z],.slice A l.length c] w (da w D B (x.ny F Z l)):=by
 have ao:∀(fn:Fn) (first ab:Array Value) (w:World),(Instr.makeFunc fn first ab).run prog w=.ok (.func fn first ab) w:=fun _ _ _ _=>rfl
 have HC:=show x.ny F Z l=if (x.log F Z l).1≠0 then x.log F Z l else if ((x.log F Z l).2.apply F Z).2.1≠0 then ((x.log F Z l).2.apply F Z).2 else ((x.log F Z l).2.apply F Z).2.2.clear F Z from rfl
 obtain⟨T,Y⟩:=zex ((((w.alloc (.cells #[.pointer (some ⟨D,0,none⟩)] 27)).alloc (.cells #[.int .i64 F,.int .i64 Z] 109)).alloc (.cells #[.slice A l.length c] 48)).alloc (.cells #[.func (.func 122) #[] #[.pointer (some ⟨w.heap.size,0,none⟩),.pointer (some ⟨w.heap.size+1,0,none⟩),.pointer (some ⟨w.heap.size+1+1,0,none⟩)],.func (.func 124) #[] #[.pointer (some ⟨w.heap.size,0,none⟩),.pointer (some ⟨w.heap.size+1,0,none⟩)],.func (.func 126) #[] #[.pointer (some ⟨w.heap.size,0,none⟩),.pointer (some ⟨w.heap.size+1,0,none⟩)]] 58));have bP:Blk T w.heap.size 27 #[.pointer (some ⟨D,0,none⟩)]:=by rw[Y];exact zbn
 have bJ:Blk T (w.heap.size+1) 109 #[.int .i64 F,.int .i64 Z]:=by rw[Y];exact zbn
 have bR:Blk T (w.heap.size+1+1) 48 #[.slice A l.length c]:=by rw[Y];exact zbn
 have bS:Blk T (w.heap.size+1+1+1) 58 #[.func (.func 122) #[] #[.pointer (some ⟨w.heap.size,0,none⟩),.pointer (some ⟨w.heap.size+1,0,none⟩),.pointer (some ⟨w.heap.size+1+1,0,none⟩)],.func (.func 124) #[] #[.pointer (some ⟨w.heap.size,0,none⟩),.pointer (some ⟨w.heap.size+1,0,none⟩)],.func (.func 126) #[] #[.pointer (some ⟨w.heap.size,0,none⟩),.pointer (some ⟨w.heap.size+1,0,none⟩)]]:=by rw[Y];exact zbn
 have BT:Zr w T:=by rw[Y];exact zgr
 have nP:w.heap.size∉B:=h.far (kE _);have nJ:w.heap.size+1∉B:=h.far (by omega)
 have nS:w.heap.size+1+1+1∉B:=h.far (by omega)
 obtain⟨p,hp⟩:=zxe (x.log F Z l);obtain⟨a,ha⟩:=zxe ((p.2.apply F Z).2);rw[hp,ha]at HC;have S:=zdc 122 124 126 #[] #[.pointer (some ⟨w.heap.size,0,none⟩),.pointer (some ⟨w.heap.size+1,0,none⟩),.pointer (some ⟨w.heap.size+1+1,0,none⟩)] #[] #[.pointer (some ⟨w.heap.size,0,none⟩),.pointer (some ⟨w.heap.size+1,0,none⟩)] #[] #[.pointer (some ⟨w.heap.size,0,none⟩),.pointer (some ⟨w.heap.size+1,0,none⟩)] (w.heap.size+1+1+1) T
  (fun W=>p.1=0/\∃J,DevAt W D J p.2/\Grow T B W J) (fun W=>p.1=0/\a.1=0/\∃J,DevAt W D J a.2/\Grow T B W J) (fun E W=>E=(x.ny F Z l).1/\∃J,DevAt W D J (x.ny F Z l).2/\Grow T B W J)
  (fun _ _=>by kernel_rfl) (fun _ _=>by kernel_rfl) (fun _ _=>by kernel_rfl) bS (fun W hJ=>by
   rcases hJ with ⟨-,J,-,g2⟩|⟨-,-,J,-,g2⟩
   ·exact g2.blk bS nS
   ·exact g2.blk bS nS)
  (by
   refine eJ (com1 D w.heap.size (w.heap.size+1) (w.heap.size+1+1) F Z B x A c l an T (h.below BT) (Reads.below hr BT) ac bP bJ bR) rfl ?_;rintro e W' ⟨rfl,J,K,I⟩;rw[hp]at K |-;refine⟨_,rfl,fun V=>⟨V,J,K,I⟩,fun V=>?_⟩
   rw[HC,if_pos V];exact⟨rfl,J,K,I⟩)
  (by
   rintro W ⟨V,J,K,I⟩;refine eJ (com2 D w.heap.size (w.heap.size+1) F Z J p.2 W K (I.blk bP nP) (I.blk bJ nJ)) rfl ?_;rintro e W' ⟨rfl,B3,O,U⟩;rw[ha]at O |-;refine⟨_,rfl,fun M=>⟨V,M,B3,O,I.trans U⟩,fun M=>?_⟩
   rw[HC,if_neg (by rw[V];simp),if_pos M]
   exact⟨rfl,B3,O,I.trans U⟩)
  (by
   rintro W ⟨V,M,J,K,I⟩;refine eJ (com3 D w.heap.size (w.heap.size+1) F Z J a.2 W K (I.blk bP nP) (I.blk bJ nJ)) rfl ?_;rintro e W' ⟨rfl,B3,O,U⟩;refine⟨_,rfl,?_⟩
   rw[HC,if_neg (by rw[V];simp),if_neg (by rw[M];simp)]
   exact⟨rfl,B3,O,I.trans U⟩)
 unfold da;clear bP bJ bR bS nP nJ nS hp ha HC;go_enter func52,ntmps52
 go_wp2_with fail
 rw[<-Y];refine S.mono ?_;rintro e w' ⟨E,rfl,rfl,J,K,I⟩;clear Y S;go_wp2_with fail
 go_ret
 exact⟨rfl,J,K,(Grow.of_below BT B).trans I⟩
def zb6 (dv:Option Addr)(s j i J M T D B:Int):List Value:=[.pointer dv,.int .i64 s,.int .i64 j,.int .i64 i,.int .i64 J,.int .i64 M,.int .i64 T,.int .i64 D,.int .i64 B]
def noPlace:List Value:=zb6 none 0 0 0 0 0 0 0 0
def z97 (D:Nat)(s j i:Int):List Value:=zb6 (some ⟨D,0,none⟩) s j i (rgJ s j i) (rgM s j i) (rgT s j i) (rgD s j i) (rgB s j i)
def bi (n s j i:Int):Int:=if rgE s j i≠0 then rgE s j i else if n=0 then 1 else if n≠s then 6 else 0
def j5 (D:Nat)(n s j i:Int):Array Value:=if bi n s j i=0 then (z97 D s j i).toArray else noPlace.toArray
theorem aF {W:World}{g:Nat}{t ty:TypeId}{cur:Array Value}{vs:Array Value}(b:Blk W g t cur)(I:cur.size=vs.size)(A:vs.all (·.oneCell')=true)(c:(sizeOf ty).run prog W=.ok vs.size W):
  (Instr.storeAt ty (.pointer (some ⟨g,0,none⟩)) (.agg vs)).run prog W=.ok () (W.setRow g vs):=by
 have h:=dE (P:=prog) (w:=W) (ty:=ty) (t:=t) (g:=g) (o:=0) (cur:=cur) (vs:=vs.toList) b (by simp;omega) (fun v D=>by
  have:=Array.all_eq_true'.1 A v (by simpa using D)
  exact this) (by simpa using c)
 have e:(cur.toList.take 0++vs.toList++cur.toList.drop (0+vs.toList.length)).toArray=vs:=by
  rw[mm,mo,List.drop_of_length_le (by simp;omega),mp]
 rw[e]at h;simpa using h
abbrev PV (dv:Option Addr)(s j i J M T D B:Int):Array Value:=#[.pointer dv,.int .i64 s,.int .i64 j,.int .i64 i,.int .i64 J,.int .i64 M,.int .i64 T,.int .i64 D,.int .i64 B]
theorem z5T (D:Nat)(s j i:Int)(B:List Nat)(x:DevS)(w:World)(h:DevAt w D B x):
  Calls prog 48 #[.pointer (some ⟨D,0,none⟩),.agg #[.int .i64 s,.int .i64 j,.int .i64 i]] w (Zq (.tuple #[.agg (j5 D x.stable.length s j i),.int .i64 (bi x.stable.length s j i)]) w):=by
 have hlo:=h.ok.lo;have bq:=h.ok.hi;obtain⟨wA,hA⟩:=zex ((w.alloc (.cells #[.int .i64 s,.int .i64 j,.int .i64 i] 23)).alloc (.cells noPlace.toArray 120));have bL:Blk wA w.heap.size 23 #[.int .i64 s,.int .i64 j,.int .i64 i]:=by rw[hA];exact zbn
 have bP:Blk wA (w.heap.size+1) 120 noPlace.toArray:=by rw[hA];exact zbn
 have BA:Zr w wA:=by rw[hA];exact zgr
 have Y:=eP s j i wA;have hz:noPlace.toArray=#[.pointer none,.int .i64 0,.int .i64 0,.int .i64 0,.int .i64 0,.int .i64 0,.int .i64 0,.int .i64 0,.int .i64 0]:=rfl;unfold z7V rgV at Y;rw[hz]at hA bP;clear hz;obtain⟨cL,lL⟩:=bL.zc;go_enter func48,ntmps48
 go_wp2_with fail
 rw[<-hA];clear hA;go_wp2_with fail
 refine Y.mono ?_;rintro e w1 ⟨rfl,M⟩;have B1:=BA.trans (M.mono BA.size);have ac:=bL.mD M;have S:=bP.mD M;have U:Blk (w1.alloc (.cells #[.int .i64 (rgJ s j i),.int .i64 (rgM s j i),.int .i64 (rgT s j i),.int .i64 (rgD s j i),.int .i64 (rgB s j i)] 44)) w1.heap.size 44 #[.int .i64 (rgJ s j i),.int .i64 (rgM s j i),.int .i64 (rgT s j i),.int .i64 (rgD s j i),.int .i64 (rgB s j i)]:=Blk.new _ _ _;clear M Y cL lL bL bP BA;by_cases K:rgE s j i=0
 rotate_left
 ·have HE:Hid (bi x.stable.length s j i=rgE s j i):=kD (by unfold bi;rw[if_pos K])
  have HN:=kD K;obtain⟨E,ao⟩:=zxe (rgE s j i);rw[ao]at K HE HN |-;have bn:(E != 0)=true:=by simpa using K
  clear K ao;have c:=S.alloc (.cells #[.int .i64 (rgJ s j i),.int .i64 (rgM s j i),.int .i64 (rgT s j i),.int .i64 (rgD s j i),.int .i64 (rgB s j i)] 44);have I:=aF (ty:=120) (vs:=PV none 0 0 0 0 0 0 0 0) c rfl (by simp[Value.oneCell']) (by kernel_rfl)
  have a2:=c.setRow (cs':=PV none 0 0 0 0 0 0 0 0);have BF:Zr w _:=Below.setRow (B1.alloc B1.size (.cells #[.int .i64 (rgJ s j i),.int .i64 (rgM s j i),.int .i64 (rgT s j i),.int .i64 (rgD s j i),.int .i64 (rgB s j i)] 44)) (g:=w.heap.size+1) (by omega) (PV none 0 0 0 0 0 0 0 0)
  obtain⟨bb,bu⟩:=c.zc;go_wp2_with (refine zsb I ?_)
  have a7:=a2.cells;refine bodyPost_ret (v:=.tuple #[.agg (PV none 0 0 0 0 0 0 0 0),.int .i64 E]) (by simp[results,results48,go_sem,a7]) rfl ?_
  exact⟨by unfold j5;rw[HE.out,if_neg HN.out];rfl,BF⟩
 have bp:=de K;rw[K];have O:=(h.below B1).alloc (.cells #[.int .i64 (rgJ s j i),.int .i64 (rgM s j i),.int .i64 (rgT s j i),.int .i64 (rgD s j i),.int .i64 (rgB s j i)] 44);have c:=S.alloc (.cells #[.int .i64 (rgJ s j i),.int .i64 (rgM s j i),.int .i64 (rgT s j i),.int .i64 (rgD s j i),.int .i64 (rgB s j i)] 44);have J:=ac.alloc (.cells #[.int .i64 (rgJ s j i),.int .i64 (rgM s j i),.int .i64 (rgT s j i),.int .i64 (rgD s j i),.int .i64 (rgB s j i)] 44);have B2:=B1.alloc B1.size (.cells #[.int .i64 (rgJ s j i),.int .i64 (rgM s j i),.int .i64 (rgT s j i),.int .i64 (rgD s j i),.int .i64 (rgB s j i)] 44);have br:((x.stable.length:Int)==0)=false:=by rw[beq_eq_false_iff_ne];omega
 have ab:=kD K;clear K S ac;obtain⟨an,aL⟩:=J.zc;obtain⟨w2,av⟩:=zex (w1.alloc (.cells #[.int .i64 (rgJ s j i),.int .i64 (rgM s j i),.int .i64 (rgT s j i),.int .i64 (rgD s j i),.int .i64 (rgB s j i)] 44));go_wp2_with fail
 rw[<-av]at O c J B2 U an aL |-;refine(gq D B x w2 O).mono ?_;rintro e w' ⟨rfl,rfl⟩;clear av;go_wp2_with fail
 go_quiet ((go_at_call 113;exact Calls.quiet_of_same (gq D B x _ (O.drewN _))))
 have A:Blk (w'.drewN nq) (w.heap.size+1) 120 (PV none 0 0 0 0 0 0 0 0):=c;have a1:Blk (w'.drewN nq) w.heap.size 23 #[.int .i64 s,.int .i64 j,.int .i64 i]:=J;have a6:Blk (w'.drewN nq) w1.heap.size 44 #[.int .i64 (rgJ s j i),.int .i64 (rgM s j i),.int .i64 (rgT s j i),.int .i64 (rgD s j i),.int .i64 (rgB s j i)]:=U;have B4:=aa B2 nq;generalize w'.drewN nq=w4 at *;clear O c J B2 U an aL;obtain⟨ba,bt⟩:=a1.zc;obtain⟨bc,bw⟩:=A.zc;obtain⟨bk,bA⟩:=a6.zc;by_cases hn:(x.stable.length:Int)=s
 rotate_left
 ·have HE:Hid (bi x.stable.length s j i=6):=kD (by unfold bi;rw[if_neg (by rw[ab.out];simp),if_neg (by omega),if_pos hn])
  have a8:((x.stable.length:Int) != s)=true:=by simpa using hn
  clear hn;have I:=aF (ty:=120) (vs:=PV none 0 0 0 0 0 0 0 0) A rfl (by simp[Value.oneCell']) (by kernel_rfl)
  have T:=A.setRow (cs':=PV none 0 0 0 0 0 0 0 0);have BF:Zr w _:=Below.setRow B4 (g:=w.heap.size+1) (by omega) (PV none 0 0 0 0 0 0 0 0)
  go_wp2_with (refine zsb I ?_)
  have V:=T.cells;refine bodyPost_ret (v:=.tuple #[.agg (PV none 0 0 0 0 0 0 0 0),.int .i64 6]) (by simp[results,results48,go_sem,V]) rfl ?_
  exact⟨by unfold j5;rw[HE.out];rfl,BF⟩
 ·have HE:Hid (bi x.stable.length s j i=0):=kD (by unfold bi;rw[if_neg (by rw[ab.out];simp),if_neg (by omega),if_neg (by simpa using hn)])
  have a8:((x.stable.length:Int) != s)=false:=by simpa using hn
  clear hn;have I:=aF (ty:=120) (vs:=PV (some ⟨D,0,none⟩) s j i (rgJ s j i) (rgM s j i) (rgT s j i) (rgD s j i) (rgB s j i)) A rfl (by simp[Value.oneCell']) (by kernel_rfl)
  have T:=A.setRow (cs':=PV (some ⟨D,0,none⟩) s j i (rgJ s j i) (rgM s j i) (rgT s j i) (rgD s j i) (rgB s j i));have BF:Zr w _:=Below.setRow B4 (g:=w.heap.size+1) (by omega) (PV (some ⟨D,0,none⟩) s j i (rgJ s j i) (rgM s j i) (rgT s j i) (rgD s j i) (rgB s j i))
  go_wp2_with (refine zsb I ?_)
  have V:=T.cells;refine bodyPost_ret (v:=.tuple #[.agg (PV (some ⟨D,0,none⟩) s j i (rgJ s j i) (rgM s j i) (rgT s j i) (rgD s j i) (rgB s j i)),.int .i64 0]) (by simp[results,results48,go_sem,V]) rfl ?_
  exact⟨by unfold j5;rw[HE.out];rfl,BF⟩
theorem z0o (G:Nat)(t:TypeId)(cs:Array Value)(j J:Int)(w:World)(b:Blk w G t cs)(T:cs[2]?=some (.int .i64 j))(U:cs[4]?=some (.int .i64 J)):
  Calls prog 50 #[.pointer (some ⟨G,0,none⟩)] w fun e Y=>e=.returned (.agg #[.int .i64 J,.int .i64 j])/\Zr w Y:=by
 obtain⟨W,c⟩:=zex (w.alloc (.cells #[.int .i64 0,.int .i64 0] 109));have D:Blk W G t cs:=by rw[c];exact b.alloc _
 have A:Blk W w.heap.size 109 #[.int .i64 0,.int .i64 0]:=by rw[c];exact zbn
 have M:Zr w W:=by rw[c];exact zgr
 have c2:W.cell? ⟨G,2,none⟩=some (.int .i64 j):=(D.cells 2).trans T;have c4:W.cell? ⟨G,4,none⟩=some (.int .i64 J):=(D.cells 4).trans U;have lG:=D.lt;have O:=A.cells;have S:=A.free;have V:=A.lt;go_enter func50,ntmps50
 go_wp2_with fail
 rw[<-c];clear c;refine wp_region_still_tail 11 (by kernel_rfl) (by kernel_rfl) ?_
 simp only[List.take_succ_cons,mm,List.drop_succ_cons,List.drop_zero];change wpStill _ _ W.drew _ _ _
 repeat still_step
 refine wpStill_nil ?_;change wpList _ _ _ _ _ W.drew
 go_wp2_with fail
 have I:=((A.mG 0 (.int .i64 J)).mG 1 (.int .i64 j)).drew;have K:=I.cells;clear O S V;refine bodyPost_ret (v:=.agg #[.int .i64 J,.int .i64 j]) (by simp[results,results50,go_sem,K]) rfl ?_
 exact⟨rfl,((M.setCell (p:=⟨w.heap.size,0,none⟩) (by simp) _).setCell (p:=⟨w.heap.size,1,none⟩) (by simp) _).drew⟩
def gn (us:List Bool):ByteArray:=strOfNums (dZ us us.length)
theorem gQ (us:List Bool):(gn us).size=96:=by unfold gn;rw[strOfNums_size,ei]
theorem kf (G:Nat)(t:TypeId)(cs:Array Value)(M:Int)(s j i:Int)(A:Option Addr)(c:Nat)(us:List Bool)(ab:us.length<=1000)(hC:CkE s j i us.length=0)(w:World)(b:Blk w G t cs)(h5:cs[5]?=some (.int .i64 M))(hR:Reads w A (us.map .bool)):
  Calls prog 53 #[.pointer (some ⟨G,0,none⟩),.agg #[.int .i64 s,.int .i64 j,.int .i64 i,.slice A us.length c]] w (Zq (.agg #[.int .i64 M,.int .i64 5,.string (gn us)]) w):=by
 obtain⟨W,J⟩:=zex ((w.alloc (.cells #[.int .i64 s,.int .i64 j,.int .i64 i,.slice A us.length c] 47)).alloc (.cells #[.int .i64 0,.int .i64 0,.string ⟨#[]⟩] 118));have bG:Blk W G t cs:=by rw[J];exact(b.alloc _).alloc _
 have bS:Blk W w.heap.size 47 #[.int .i64 s,.int .i64 j,.int .i64 i,.slice A us.length c]:=by rw[J];exact zbn
 have bR:Blk W (w.heap.size+1) 118 #[.int .i64 0,.int .i64 0,.string ⟨#[]⟩]:=by rw[J];exact zbn
 have T:Zr w W:=by rw[J];exact zgr
 have S:=z6K s j i A c us ab W (hR.below T);obtain⟨cS,lS⟩:=bS.zc;go_enter func53,ntmps53
 go_wp2_with fail
 rw[<-J];clear J;go_wp2_with fail
 refine S.mono ?_;rintro e U ⟨I,he⟩;obtain⟨-,g,rfl,hg,O⟩:=he.resolve_left (fun h=>h.1 hC)
 have K:=bG.mD I;have D:=bR.mD I;have B1:=T.trans (I.mono T.size);have ac:=dR (some ⟨g,0,none⟩) 96 96 (dZ us us.length) (ei _ _) U.drew (O.below (kF _ _).drew);have HM:Hid (strOfNums (dZ us us.length)=gn us):=kD rfl;generalize strOfNums (dZ us us.length)=ms at *;clear I S cS lS bG bR bS T O;have c5:U.cell? ⟨G,5,none⟩=some (.int .i64 M):=(K.cells 5).trans h5;have lG:=K.lt;go_wp2_with fail
 refine wp_region_still_tail 8 (by kernel_rfl) (by kernel_rfl) ?_
 simp only[List.take_succ_cons,mm,List.drop_succ_cons,List.drop_zero];change wpStill _ _ U.drew _ _ _
 repeat still_step
 refine wpStill_nil ?_;change wpList _ _ _ _ _ U.drew
 have cR:=D.cells;have fR:=D.free;have lR:=D.lt;go_wp2_with fail
 have V:=(((D.mG 0 (.int .i64 M)).mG 1 (.int .i64 5)).mG 2 (.string ms)).drew;have Y:=V.cells;clear cR fR lR;refine bodyPost_ret (v:=.agg #[.int .i64 M,.int .i64 5,.string ms]) (by simp[results,results53,go_sem,Y]) rfl ?_
 exact⟨by rw[HM.out],(((B1.setCell (p:=⟨w.heap.size+1,0,none⟩) (by simp) _).setCell (p:=⟨w.heap.size+1,1,none⟩) (by simp) _).setCell (p:=⟨w.heap.size+1,2,none⟩) (by simp) _).drew⟩
def Asc (l:List Rec):Prop:=l.Pairwise (fun a b=>a.at_<b.at_)
def aJ:List Rec->Rec->List Rec
 | [],r=>[r]
 | x::t,r=>if r.at_<x.at_ then r::x::t else if r.at_=x.at_ then r::t else x::aJ t r
def bf (l:List Rec)(a:Int):Option Rec:=l.find? (fun r=>r.at_==a)
theorem z19 (l:List Rec)(r:Rec)(a:Int):bf (aJ l r) a=if r.at_=a then some r else bf l a:=by
 unfold bf;induction l with
 | nil=>unfold aJ;by_cases h:r.at_=a<;>simp[h]
 | cons x t ih=>
  unfold aJ;by_cases c:r.at_<x.at_
  ·rw[if_pos c];by_cases h:r.at_=a<;>simp[List.find?_cons,h]
  ·rw[if_neg c];by_cases A:r.at_=x.at_
   ·rw[if_pos A];by_cases h:r.at_=a
    ·simp[List.find?_cons,h]
    ·have:¬x.at_=a:=by omega
     simp[List.find?_cons,h,this]
   ·rw[if_neg A,List.find?_cons,ih];by_cases h:r.at_=a
    ·have e:(x.at_==a)=false:=by simp;omega
     rw[e,if_pos h,if_pos h]
    ·rw[if_neg h,if_neg h,List.find?_cons]
theorem i8 {l:List Rec}{r y:Rec}(h:y∈aJ l r):y=r\/y∈l:=by
 induction l with
 | nil=>unfold aJ at h;simp at h;exact .inl h
 | cons x t ih=>
  unfold aJ at h;split at h
  ·rcases lp.1 h with h|h
   ·exact .inl h
   ·exact .inr h
  ·split at h
   ·rcases lp.1 h with h|h
    ·exact .inl h
    ·exact .inr (ly _ h)
   ·rcases lp.1 h with h|h
    ·exact .inr (by simp[h])
    ·rcases ih h with h|h
     ·exact .inl h
     ·exact .inr (ly _ h)
theorem kr {l:List Rec}(h:Asc l)(r:Rec):Asc (aJ l r):=by
 induction l with
 | nil=>exact List.pairwise_singleton _ _
 | cons x t ih=>
  obtain⟨D,J⟩:=List.pairwise_cons.1 h;unfold aJ;split
  ·rename_i A
   exact List.pairwise_cons.2 ⟨fun y c=>by
    rcases lp.1 c with rfl|c
    ·exact A
    ·exact Int.lt_trans A (D y c),h⟩
  ·split
   ·rename_i I
    exact List.pairwise_cons.2 ⟨fun y c=>by rw[I];exact D y c,J⟩
   ·rename_i K M
    exact List.pairwise_cons.2 ⟨fun y c=>by
     rcases i8 c with rfl|c
     ·omega
     ·exact D y c,ih J⟩
theorem z3A {l:List Rec}{a:Int}{r:Rec}(h:bf l a=some r):r∈l/\r.at_=a:=by
 have c:=List.mem_of_find?_eq_some h;have A:=List.find?_some h;exact⟨c,by simpa using A⟩
theorem z6r {l:List Rec}{a:Int}(h:bf l a=none):∀r∈l,r.at_≠a:=by
 intro r c e;have:=List.find?_eq_none.1 h r c
 simp[e]at this
theorem f9 {l:List Rec}(h:Asc l)(r:Rec):(aJ l r).length=if (bf l r.at_).isSome then l.length else l.length+1:=by
 induction l with
 | nil=>rfl
 | cons x t ih=>
  obtain⟨J,K⟩:=List.pairwise_cons.1 h;have ih:=ih K;unfold aJ;unfold bf at ih |-;rw[List.find?_cons];by_cases D:r.at_<x.at_
  ·rw[if_pos D];have c:(x.at_==r.at_)=false:=by simp;omega
   have I:t.find? (fun y=>y.at_==r.at_)=none:=List.find?_eq_none.2 (fun y M=>by have:=J y M;simp;omega)
   rw[c];simp only[I];rfl
  ·rw[if_neg D];by_cases A:r.at_=x.at_
   ·rw[if_pos A];have c:(x.at_==r.at_)=true:=by simp[A]
    rw[c];rfl
   ·rw[if_neg A];have c:(x.at_==r.at_)=false:=by simp;omega
    rw[c,lr,ih];simp only[lr];split<;>rfl
def kC (r:Rec):DataW Unit:=.agg [.lit (.int .i64 r.at_),.lit (.int .i64 r.kind),.lit (.string r.data.data.toList)]
def iG:Value->Option (DataW Unit × List MemPlace)
 | .agg ⟨[.int .i64 a,.int .i64 k,.string s]⟩=>some (kC ⟨a,k,s⟩,[])
 | _=>none
theorem z1n (r:Rec):iG (.agg (recC r))=some (kC r,[]):=rfl
theorem z61 {r s:Rec}(h:kC r=kC s):r=s:=by
 unfold kC at h;simp only[DataW.agg.injEq,List.cons.injEq,DataW.lit.injEq,Lit.int.injEq,true_and,and_true,Lit.string.injEq]at h;obtain⟨c,A,D⟩:=h;obtain⟨a,k,d⟩:=r;obtain⟨J,K,I⟩:=s;simp only at c A D
 subst c A;have:d=I:=by apply ByteArray.ext;exact Array.toList_inj.1 D
 subst this;rfl
theorem z63 {v:Value}{r:Rec}{ps:List MemPlace}(h:iG v=some (kC r,ps)):v=.agg (recC r):=by
 unfold iG at h;split at h
 ·rename_i a k s
  simp only[lx,Prod.mk.injEq]at h;have:=z61 h.1
  subst this;rfl
 ·cases h
structure RecMap (D:DataW Unit)(l:List Rec):Prop where
 tidy:Tidy D
 at_:∀a z,D.atKey (.int .i64 a) z=match bf l a with|some r=>kC r|none=>z
 has_:∀a,has D (.int .i64 a)=(bf l a).isSome
 size_:size D=l.length
 asc:Asc l
theorem RecMap.empty:RecMap (.map []) []:=⟨tidy_empty,fun _ _=>rfl,fun _=>rfl,rfl,List.Pairwise.nil⟩
theorem RecMap.put {D:DataW Unit}{l:List Rec}(h:RecMap D l)(r:Rec):RecMap (D.put (.int .i64 r.at_) (kC r)) (aJ l r):=by
 refine⟨h.tidy.put (show WideAt.IsKeyLit (.int .i64 r.at_)from trivial) _,fun a z=>?_,fun a=>?_,?_,kr h.asc r⟩
 ·rw[z19];by_cases e:r.at_=a
  ·subst e;rw[if_pos rfl];exact atKey_put_same h.tidy.isMap (show WideAt.IsKeyLit (.int .i64 r.at_)from trivial) _ _
  ·rw[if_neg e,atKey_put_other (by intro x;cases x;exact e rfl),h.at_]
 ·rw[z19];by_cases e:r.at_=a
  ·subst e;rw[if_pos rfl];exact has_put_same h.tidy.isMap (show WideAt.IsKeyLit (.int .i64 r.at_)from trivial) _
  ·rw[if_neg e,has_put_other (by intro x;cases x;exact e rfl),h.has_]
 ·rw[size_put h.tidy,h.has_,h.size_,f9 h.asc]
theorem iQ {n s j i:Int}(h:bi n s j i=0):rgE s j i=0/\n=s:=by
 unfold bi at h;by_cases c:rgE s j i=0
 ·rw[if_neg (by simpa using c)]at h
  split at h
  ·omega
  ·split at h
   ·omega
   ·exact⟨c,by omega⟩
 ·rw[if_pos c]at h;exact absurd h c
def bz (s j i:Int):Rec:=⟨1+j,5,gn (List.replicate (rgB s j i).toNat false)⟩
def DevS.oC (x:DevS)(s j i:Int):Int × DevS:=
 if bi x.stable.length s j i≠0 then (bi x.stable.length s j i,x)else if (x.nH 1 j).1≠0 then x.nH 1 j else (x.nH 1 j).2.ny 1 j [bz s j i]
theorem z2v {s j i:Int}(h:rgE s j i=0):CkE s j i (rgB s j i).toNat=0:=by
 unfold CkE;have:=jM s j i
 rw[if_pos h,if_pos (by omega)]
theorem z5A (D:Nat)(s j i:Int)(B:List Nat)(x:DevS)(w:World)(h:DevAt w D B x):
  Calls prog 10 #[.pointer (some ⟨D,0,none⟩),.agg #[.int .i64 s,.int .i64 j,.int .i64 i]] w (da w D B (x.oC s j i)):=by
 obtain⟨wA,hA⟩:=zex (w.alloc (.cells #[.int .i64 s,.int .i64 j,.int .i64 i] 23));have bL:Blk wA w.heap.size 23 #[.int .i64 s,.int .i64 j,.int .i64 i]:=by rw[hA];exact zbn
 have BA:Zr w wA:=by rw[hA];exact zgr
 have ac:=z5T D s j i B x wA (h.below BA);have HT:=show x.oC s j i=if bi x.stable.length s j i≠0 then (bi x.stable.length s j i,x)else if (x.nH 1 j).1≠0 then x.nH 1 j else (x.nH 1 j).2.ny 1 j [bz s j i]from rfl
 have aL:=kD HT;obtain⟨cL,lL⟩:=bL.zc;clear HT;unfold da;by_cases I:bi x.stable.length s j i=0
 rotate_left
 ·have HL:Hid (x.oC s j i=(bi x.stable.length s j i,x)):=kD (by rw[aL.out,if_pos I])
  have hv:j5 D x.stable.length s j i=PV none 0 0 0 0 0 0 0 0:=by unfold j5;rw[if_neg I];rfl
  rw[hv]at ac;generalize bi x.stable.length s j i=E at *;have bT:(E != 0)=true:=by simpa using I
  clear I hv aL;go_enter func10,ntmps10
  go_wp2_with fail
  rw[<-hA];go_wp2_with fail
  refine ac.mono ?_;rintro e w1 ⟨rfl,ab⟩;have B1:=BA.trans (ab.mono BA.size);clear hA;go_wp2_with fail
  go_ret
  exact⟨by rw[HL.out];rfl,B,by rw[HL.out];exact(h.below B1).alloc _,Grow.of_below (B1.alloc B1.size _) B⟩
 obtain⟨an,cl⟩:=iQ I;have ci:=de an;obtain⟨r1,r2,r3,r4,r5⟩:=ir an;have hv:j5 D x.stable.length s j i=PV (some ⟨D,0,none⟩) s j i 1 (1+j) (2+j) (2+j+i) (s - (2+j+i)):=by unfold j5 z97;rw[if_pos I,r1,r2,r3,r4,r5];rfl
 rw[hv,I]at ac;have bF:=z2v an;have b3:=fun W=>z8X s j i W
 have V:Hid (x.oC s j i=if (x.nH 1 j).1≠0 then x.nH 1 j else (x.nH 1 j).2.ny 1 j [bz s j i]):=kD (by rw[aL.out,if_neg (by rw[I];simp)])
 obtain⟨nb,a7⟩:=zxe ((rgB s j i).toNat);have cg:(nb:Int)=s - (2+j+i):=by omega
 have bK:Hid (bz s j i=⟨1+j,5,gn (List.replicate nb false)⟩):=kD (by unfold bz;rw[a7])
 rw[a7]at bF;have b6:=kD a7;have b5:=kD bF;have b7:=kD an;clear I hv aL r1 r2 r3 r4 r5 an a7 bF;go_enter func10,ntmps10
 go_wp2_with fail
 rw[<-hA];go_wp2_with fail
 refine ac.mono ?_;rintro e w1 ⟨rfl,ab⟩;have B1:=BA.trans (ab.mono BA.size);have bM:=bL.mD ab;clear hA ab cL lL bL BA ac;obtain⟨PB,a1⟩:=zex w1.heap.size;obtain⟨w2,ao⟩:=zex (w1.alloc (.cells (PV (some ⟨D,0,none⟩) s j i 1 (1+j) (2+j) (2+j+i) (s - (2+j+i))) 120));have br:Blk w2 PB 120 (PV (some ⟨D,0,none⟩) s j i 1 (1+j) (2+j) (2+j+i) (s - (2+j+i))):=by rw[ao,a1];exact zbn
 have bN:Blk w2 w.heap.size 23 #[.int .i64 s,.int .i64 j,.int .i64 i]:=by rw[ao];exact bM.alloc _
 have B2:Zr w w2:=by rw[ao];exact B1.alloc B1.size _
 have bU:w.heap.size<=PB:=by rw[a1];exact B1.size
 go_wp2_with fail
 rw[<-ao,<-a1];clear ao a1 bM B1;refine(z0o PB _ _ j 1 w2 br rfl rfl).mono ?_;rintro e w3 ⟨rfl,a6⟩;have bt:=br.mD a6;have bq:=bN.mD a6;have B3:=B2.trans (a6.mono B2.size);clear br bN B2 a6;go_wp2_with fail
 refine(z4X D 1 j B x w3 (h.below B3)).mono ?_;unfold da;rintro e w4 ⟨rfl,B4,O,S⟩;obtain⟨p,hp⟩:=zxe (x.nH 1 j);rw[hp]at O V |-;have nP:PB∉B:=h.far bU;have nL:w.heap.size∉B:=h.far (kE _);have bP:=S.blk bt nP;have b8:=S.blk bq nL;have bS:=(Grow.of_below B3 B).trans S;have co:=S.og nP bt.lt;have cn:=S.og nL bq.lt;clear hp bt bq nP nL S B3;by_cases I:p.1=0
 rotate_left
 ·have HL:Hid (x.oC s j i=p):=kD (by rw[V.out,if_pos I])
  have bT:(p.1 != 0)=true:=by simpa using I
  clear I V;go_wp2_with fail
  go_ret
  exact⟨by rw[HL.out];rfl,B4,by rw[HL.out];exact O,bS⟩
 have HL:Hid (x.oC s j i=p.2.ny 1 j [⟨1+j,5,gn (List.replicate nb false)⟩]):=kD (by rw[V.out,if_neg (by rw[I];simp),bK.out])
 have bT:(p.1 != 0)=false:=by simpa using I
 clear I V bK;obtain⟨b9,cb⟩:=b8.zc;go_wp2_with fail
 refine(b3 w4).mono ?_;rintro e w5 ⟨bB,he⟩;obtain⟨-,us,rfl,cm,c⟩:=he.resolve_left (fun hh=>hh.1 b7.out)
 rw[b6.out]at c |-;obtain⟨A,a2⟩:=zex w5.heap.size;obtain⟨w6,a8⟩:=zex (w5.alloc (.cells #[.int .i64 s,.int .i64 j,.int .i64 i,.slice (some ⟨us,0,none⟩) nb nb] 47));have M:Blk w6 A 47 #[.int .i64 s,.int .i64 j,.int .i64 i,.slice (some ⟨us,0,none⟩) nb nb]:=by rw[a8,a2];exact zbn
 have bn:Zr w5 w6:=by rw[a8];exact(kF _ _).alloc (kE _) _
 have z45:=bB.size;have T:Zr w4 w6:=bB.trans (bn.mono z45);have bu:=bP.mD T;have bW:Reads w6 (some ⟨us,0,none⟩) ((List.replicate nb false).map .bool):=by
  have b:Blk w5 us 4 (fy (List.replicate nb false)):=by rw[iM];exact c
  refine Reads.below (.inr ⟨us,0,rfl,b.lt,fun k u hu=>?_⟩) bn
  rw[ld,b.cells];show (((List.replicate nb false).map Value.bool).toArray)[k]?=some u
  rw[List.getElem?_toArray];exact hu
 have ca:=O.below T;have b0:w4.heap.size<=A:=by rw[a2];exact z45
 have cc:A∉B4:=O.far b0;go_wp2_with fail
 rw[<-a8,<-a2];clear a8 a2 c bn bB z45 b9 cb bP;have bZ:w6.cell? ⟨A,0,none⟩=some (.int .i64 s)/\w6.cell? ⟨A,1,none⟩=some (.int .i64 j)/\w6.cell? ⟨A,2,none⟩=some (.int .i64 i)/\w6.cell? ⟨A,3,none⟩=some (.slice (some ⟨us,0,none⟩) nb nb):=⟨by rw[M.cells];rfl,by rw[M.cells];rfl,by rw[M.cells];rfl,by rw[M.cells];rfl⟩
 have Y:∀W,Blk W A 47 #[.int .i64 s,.int .i64 j,.int .i64 i,.slice (some ⟨us,0,none⟩) nb nb]->W.cell? ⟨A,0,none⟩=some (.int .i64 s)/\W.cell? ⟨A,1,none⟩=some (.int .i64 j)/\W.cell? ⟨A,2,none⟩=some (.int .i64 i)/\W.cell? ⟨A,3,none⟩=some (.slice (some ⟨us,0,none⟩) nb nb):=fun W b=>⟨by rw[b.cells];rfl,by rw[b.cells];rfl,by rw[b.cells];rfl,by rw[b.cells];rfl⟩
 refine zrm [.take 0,.take 2,.one 1,.one 3,.one 4,.one 5,.one 6] 7 (fun w'=>w'.cell? ⟨A,0,none⟩=some (.int .i64 s)/\w'.cell? ⟨A,1,none⟩=some (.int .i64 j)/\w'.cell? ⟨A,2,none⟩=some (.int .i64 i)/\w'.cell? ⟨A,3,none⟩=some (.slice (some ⟨us,0,none⟩) nb nb)) bZ ?_
 simp only[kR,kS,Ms.fill,kT,kV];iterate 2 refine ztk ?_
 refine ah (by rfl) fun K J=>?_
 go_simp;refine(z0o PB _ _ j 1 w6.drew bu.drew rfl rfl).mono ?_;rintro e w7 ⟨rfl,b1⟩;have U:Zr w6 w7:=(kF _ _).drew.trans b1;have bQ:=bu.mD U;have bw:=M.mD U;have bX:=bW.below U;have bk:Zr w4 w7:=T.trans (U.mono T.size);refine J _ _ (fun _=>Y _ bw) ?_
 clear J K b1 U bu M bW T bZ ca;refine ah (by rfl) fun K J=>?_
 go_simp;have bD:=kf PB _ _ (1+j) s j i (some ⟨us,0,none⟩) nb (List.replicate nb false) (by rw[m4];omega) (by rw[m4];exact b5.out) w7 bQ rfl bX
 rw[m4]at bD;refine bD.mono ?_;rintro e w8 ⟨rfl,bC⟩;have bA:=bw.mD bC;have av:Zr w4 w8:=bk.trans (bC.mono bk.size);refine J _ _ (fun _=>Y _ bA) ?_
 clear J K bD bC bQ bw bX bk;have ck:=gQ (List.replicate nb false);generalize gn (List.replicate nb false)=ms at *;obtain⟨w9,ba⟩:=zex (w8.alloc (.cells #[.int .i64 (1+j),.int .i64 5,.string ms] 118));have bO:Blk w9 w8.heap.size 118 #[.int .i64 (1+j),.int .i64 5,.string ms]:=by rw[ba];exact zbn
 have bp:Zr w8 w9:=by rw[ba];exact(kF _ _).alloc (kE _) _
 have bR:=bA.mD bp;have bJ:Zr w4 w9:=av.trans (bp.mono av.size);refine ah (by rfl) fun K J=>?_
 go_simp;rw[<-ba];refine J _ _ (fun _=>Y _ bR) ?_
 have z8:=av.size;clear J K ba bA bp av;have bG:=z6y D 1 j B4 p.2 (some ⟨w8.heap.size,0,none⟩) 1 [⟨1+j,5,ms⟩] ⟨by simp,fun r hr=>by
  have e:r=⟨1+j,5,ms⟩:=by simpa using hr
  subst e;exact⟨by simp only;omega,by simp only[maxLen];omega⟩⟩ w9 (O.below bJ) (.inr ⟨w8.heap.size,0,rfl,bO.lt,fun k u hu=>by
   rw[ld,bO.cells];simpa[bE]using hu⟩) (fun ad e=>by cases e;exact O.far z8)
 unfold da at bG;refine ah (by rfl) fun K J=>?_
 go_simp;refine bG.mono ?_;rintro e cp ⟨rfl,b4,b2,bc⟩;have bb:=bc.blk bR cc;refine J _ _ (fun _=>Y _ bb) ?_
 clear J K bG;refine ah (by rfl) fun K J=>?_
 go_simp;refine J _ _ (fun _=>Y _ bb) ?_
 clear J K;refine ax ?_;go_wp2_with fail
 go_ret
 rw[HL.out];exact⟨rfl,b4,b2,(bS.trans (Grow.of_below bJ B4)).trans bc⟩
end Go.Proofs.YtejmknghkbobnaaGreatDoor
