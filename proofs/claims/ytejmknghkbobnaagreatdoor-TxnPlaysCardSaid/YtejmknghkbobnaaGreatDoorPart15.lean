import Derived.Test.YtejmknghkbobnaaGreatDoorPart00
import Derived.Test.YtejmknghkbobnaaGreatDoorPart14
import Derived.Test.YtejmknghkbobnaaGreatDoorPart11
import Derived.Test.YtejmknghkbobnaaGreatDoorPart02
import Derived.Test.YtejmknghkbobnaaGreatDoorPart01
set_option linter.unusedVariables false
set_option linter.unusedSimpArgs false
set_option maxRecDepth 100000
set_option maxHeartbeats 8000000
namespace Go.Proofs.YtejmknghkbobnaaGreatDoor
open Go.Proofs.Tryz
open Go.RowKit Go.Maps
theorem zdJ (x:DevS)(F Z q:Int)(k:Nat):(x.lookTo F Z q k).run.length≤k∧∀r∈(x.lookTo F Z q k).run,(-9223372036854775808≤r.at_∧r.at_≤9223372036854775807)∧r.data.size≤maxLen:=by
 induction k with
 | zero=>exact⟨zhT _,fun r h=>by cases h⟩
 | succ k ih=>
  cases hs:(x.lookTo F Z q k).stop
  ·rw[z6M hs];split
   ·exact⟨zi9 _,fun r h=>by cases h⟩
   ·split
    ·exact⟨zhS ih.1 (Nat.le_succ _),ih.2⟩
    ·rename_i hb he
     refine⟨by show (_++[_]).length≤_;simp;exact ih.1,fun r hr=>?_⟩
     rcases zi0.1 hr with hr|hr
     ·exact ih.2 r hr
     ·have:r=z0i (x.fr (F+(k+1))):=by simpa using hr
      subst this;have hi:z1F x.stable.length F Z (x.fr (F+(k+1)))=true:=by
       unfold z26 at he;simp at he
       exact he.1.1.2
      exact zb0 hi
  ·rw[z4i hs (Nat.le_succ k)];exact⟨zhS ih.1 (Nat.le_succ _),ih.2⟩
theorem z7C (x:DevS)(F Z:Int):z37 (x.look F Z).2.2.1:=by
 unfold DevS.look;by_cases h:(x.head F Z).1=0
 ·rw[if_neg (by rw[h];simp)]
  split
  ·exact⟨zi9 _,fun r h=>by cases h⟩
  ·have:=z2s h
   have hk:=zdJ x F Z (x.head F Z).2 (Z - 1).toNat;exact⟨by show (x.lookTo F Z (x.head F Z).2 (Z - 1).toNat).run.length≤1000;have:=hk.1;omega,hk.2⟩
 ·rw[if_pos h];exact⟨zi9 _,fun r h=>by cases h⟩
theorem z89 (x:DevS)(F Z:Int):0≤(x.look F Z).2.1∧(x.look F Z).2.1<4294967296:=by
 unfold DevS.look;split
 ·exact⟨Int.le_refl 0,by show (0:Int)<4294967296;decide⟩
 ·split
  ·exact⟨Int.le_refl 0,by show (0:Int)<4294967296;decide⟩
  ·exact z3E x F Z
theorem zdn (D:Nat)(F Z:Int)(B:List Nat)(x:DevS)(w:World)(h:DevAt w D B x):
  Calls prog 125 #[.pointer (some ⟨D,0,none⟩),.agg #[.int .i64 F,.int .i64 Z]] w fun e w'=>e=.returned (.tuple #[.int .i64 (x.apply F Z).1,.int .i64 (x.apply F Z).2.1])∧∃B',DevAt w' D B' (x.apply F Z).2.2∧Grow w B w' B':=by
 have bJ:Blk (w.alloc (.cells #[.int .i64 F,.int .i64 Z] 109)) w.heap.size 109 #[.int .i64 F,.int .i64 Z]:=Blk.new _ _ _;have BA:Below w.heap.size w (w.alloc (.cells #[.int .i64 F,.int .i64 Z] 109)):=(zho _ _).alloc (zhT _) _;have hlook:=zat D F Z B x _ (h.below BA);have hrok:=z7C x F Z;have hsq:=z89 x F Z;have cJ:=bJ.cells;have lJ:=bJ.lt;have HA:=show x.apply F Z=if (x.look F Z).1≠0 then (0,(x.look F Z).1,x)else if (x.look F Z).2.2.2=false then (0,9,x)else if (x.applies (x.look F Z).2.1 (x.look F Z).2.2.1).1≠0 then (0,x.applies (x.look F Z).2.1 (x.look F Z).2.2.1)else (((x.look F Z).2.2.1.length:Int),x.applies (x.look F Z).2.1 (x.look F Z).2.2.1)from rfl
 generalize x.look F Z=lk at *;obtain⟨E,q,R,wh⟩:=lk;simp only at hrok hsq HA hlook
 have HAp:=zhs HA;clear HA bJ;have hl1:=hrok.1;go_enter func125,ntmps125
 go_wp2_with fail
 refine hlook.mono ?_;rintro e w1 ⟨hb1,A,c,rfl,hR1,hAb⟩;have B1:=BA.trans (hb1.mono BA.size);have hAB:∀ad,A=some ad→ad.block∉B:=fun ad e=>h.far (by have:=hAb ad e;have:=BA.size;omega)
 clear hlook hb1 cJ lJ;by_cases hE:E=0
 rotate_left
 ·have HL:Hid (x.apply F Z=(0,E,x)):=zhs (by rw[HAp.out,if_pos hE])
  have hE':(E != 0)=true:=by simpa using hE
  clear hE HAp;go_wp2_with fail
  go_ret2
  exact⟨by rw[HL.out];rfl,B,by rw[HL.out];exact(h.below B1).alloc _,Grow.of_below (B1.alloc B1.size _) B⟩
 subst hE;cases wh
 ·have HL:Hid (x.apply F Z=(0,9,x)):=zhs (by rw[HAp.out,if_neg (by simp),if_pos rfl])
  clear HAp;go_wp2_with fail
  go_ret2
  exact⟨by rw[HL.out];rfl,B,by rw[HL.out];exact(h.below B1).alloc _,Grow.of_below (B1.alloc B1.size _) B⟩
 have HL1:Hid (x.apply F Z=if (x.applies q R).1≠0 then (0,x.applies q R)else ((R.length:Int),x.applies q R)):=zhs (by rw[HAp.out,if_neg (by simp),if_neg (by simp)])
 have bX:Blk (w1.alloc (.cells #[.int .u32 q,.slice A R.length c,.bool true] 216)) w1.heap.size 216 #[.int .u32 q,.slice A R.length c,.bool true]:=Blk.new _ _ _;have B2:=B1.alloc B1.size (.cells #[.int .u32 q,.slice A R.length c,.bool true] 216);have hap:=zaZ D q hsq true B x A c R hrok _ (h.below B2) (Reads.alloc hR1 _) hAB;have nX:w1.heap.size∉B:=h.far B1.size;obtain⟨p,hp⟩:∃p,x.applies q R=p:=⟨_,rfl⟩;rw[hp]at hap HL1;clear HAp hp;go_wp2_with fail
 refine hap.mono ?_;rintro e w3 ⟨rfl,B3,hd3,hg3⟩;have bX3:=hg3.blk bX nX;have cX3:=bX3.cells;have lX3:=bX3.lt;have gF:=(Grow.of_below B2 B).trans hg3;by_cases hE:p.1=0
 ·have HL:Hid (x.apply F Z=((R.length:Int),p)):=zhs (by rw[HL1.out,if_neg (by rw[hE];simp)])
  have hE':(p.1 != 0)=false:=by simpa using hE
  have HE:=zhs hE;clear hE HL1;go_wp2_with fail
  go_ret2
  exact⟨by rw[HL.out,HE.out];rfl,B3,by rw[HL.out];exact hd3,gF⟩
 ·have HL:Hid (x.apply F Z=(0,p)):=zhs (by rw[HL1.out,if_pos hE])
  have hE':(p.1 != 0)=true:=by simpa using hE
  clear hE HL1;go_wp2_with fail
  go_ret2
  exact⟨by rw[HL.out];rfl,B3,by rw[HL.out];exact hd3,gF⟩
theorem zgM (D PD PJ PQ:Nat)(F Z q:Int)(hq:0≤q∧q<4294967296)(B:List Nat)(x:DevS)(w:World)(h:DevAt w D B x)(bP:Blk w PD 27 #[.pointer (some ⟨D,0,none⟩)])(bJ:Blk w PJ 109 #[.int .i64 F,.int .i64 Z])(bQ:Blk w PQ 188 #[.int .u32 q]):
  Calls prog 192 #[.pointer (some ⟨PD,0,none⟩),.pointer (some ⟨PJ,0,none⟩),.pointer (some ⟨PQ,0,none⟩)] w (z1j w D B (x.put F 1 (next q) ⟨#[]⟩)):=by
 have cP:=bP.cells;have lP:=bP.lt;have cJ:=bJ.cells;have lJ:=bJ.lt;have cQ:=bQ.cells;have lQ:=bQ.lt;have hp:=z7K D B x F 1 ((q+1) % 4294967296) ⟨#[]⟩ (by decide) (by omega) w h
 unfold z1j next;go_enter func192,ntmps192
 go_wp2_with fail
 refine hp.mono ?_;rintro e w1 ⟨rfl,hd⟩;go_wp2_with fail
 go_ret
 exact⟨rfl,hd⟩
theorem z6U (D:Nat)(F Z:Int)(B:List Nat)(x:DevS)(w:World)(h:DevAt w D B x):
  Calls prog 127 #[.pointer (some ⟨D,0,none⟩),.agg #[.int .i64 F,.int .i64 Z]] w (z1j w D B (x.clear F Z)):=by
 have hmf:∀(fn:Fn) (first cap:Array Value) (w:World),(Instr.makeFunc fn first cap).run prog w=.ok (.func fn first cap) w:=fun _ _ _ _=>rfl
 obtain⟨wA,hA⟩:∃wA,wA=(w.alloc (.cells #[.pointer (some ⟨D,0,none⟩)] 27)).alloc (.cells #[.int .i64 F,.int .i64 Z] 109):=⟨_,rfl⟩;have bP:Blk wA w.heap.size 27 #[.pointer (some ⟨D,0,none⟩)]:=by rw[hA];exact(by (repeat' (first|(with_reducible assumption)|exact Blk.new' (by simp)|refine Blk.alloc ?_ _)))
 have bJ:Blk wA (w.heap.size+1) 109 #[.int .i64 F,.int .i64 Z]:=by rw[hA];exact(by (repeat' (first|(with_reducible assumption)|exact Blk.new' (by simp)|refine Blk.alloc ?_ _)))
 have BA:Below w.heap.size w wA:=by rw[hA];(repeat' (first|with_reducible (first|exact zho _ _|assumption|refine zhp ?_ ?_ _|refine zhq ?_|refine z00 ?_ _|refine zhr ?_ ?_ _|exact zhT _)|omega|(simp;done)|(simp;omega)))
 have hhead:=z85 D F Z B x wA (h.below BA);have hq:=z3E x F Z;have HC:=show x.clear F Z=if (x.head F Z).1≠0 then ((x.head F Z).1,x)else DevS.done (x.put F 1 (next (x.head F Z).2) ⟨#[]⟩)from rfl
 generalize (x.head F Z).1=E at *;generalize (x.head F Z).2=q at *;have HC0:=zhs HC;have cP:=bP.cells;have cJ:=bJ.cells;have lP:=bP.lt;have lJ:=bJ.lt;clear HC;unfold z1j;go_enter func127,ntmps127
 go_wp2_with fail
 rw[←hA];clear hA;go_wp2_with fail
 refine hhead.mono ?_;rintro e w1 ⟨rfl,hb1⟩;have bP1:=bP.belowAll hb1;have bJ1:=bJ.belowAll hb1;have B1:=BA.trans (hb1.mono BA.size);clear hhead hb1 cP cJ lP lJ bP bJ BA;by_cases hE:E=0
 rotate_left
 ·have HL:Hid (x.clear F Z=(E,x)):=zhs (by rw[HC0.out,if_pos hE])
  have hE':(E != 0)=true:=by simpa using hE
  clear hE HC0;go_wp2_with fail
  go_ret
  exact⟨by rw[HL.out];rfl,B,by rw[HL.out];exact(h.below B1).alloc _,Grow.of_below (B1.alloc B1.size _) B⟩
 have HL:Hid (x.clear F Z=DevS.done (x.put F 1 (next q) ⟨#[]⟩)):=zhs (by rw[HC0.out,if_neg (by simpa using hE)])
 subst hE;clear HC0;obtain⟨PQ,hPQ⟩:∃PQ,PQ=w1.heap.size:=⟨_,rfl⟩;obtain⟨wT,hT⟩:∃wT,wT=(w1.alloc (.cells #[.int .u32 q] 188)).alloc (.cells #[.func (.func 192) #[] #[.pointer (some ⟨w.heap.size,0,none⟩),.pointer (some ⟨w.heap.size+1,0,none⟩),.pointer (some ⟨PQ,0,none⟩)],.func (.func 121) #[.pointer (some ⟨D,0,none⟩)] #[]] 58):=⟨_,rfl⟩;have bPT:Blk wT w.heap.size 27 #[.pointer (some ⟨D,0,none⟩)]:=by rw[hT];exact(bP1.alloc _).alloc _
 have bJT:Blk wT (w.heap.size+1) 109 #[.int .i64 F,.int .i64 Z]:=by rw[hT];exact(bJ1.alloc _).alloc _
 have bQT:Blk wT PQ 188 #[.int .u32 q]:=by rw[hT,hPQ];exact(Blk.new _ _ _).alloc _
 have bST:Blk wT (PQ+1) 58 #[.func (.func 192) #[] #[.pointer (some ⟨w.heap.size,0,none⟩),.pointer (some ⟨w.heap.size+1,0,none⟩),.pointer (some ⟨PQ,0,none⟩)],.func (.func 121) #[.pointer (some ⟨D,0,none⟩)] #[]]:=by rw[hT];exact Blk.new' (by simp[hPQ])
 have BT:Below w.heap.size w wT:=by rw[hT];exact(B1.alloc B1.size _).alloc (by have:=B1.size;simp;omega) _
 have hdT:=h.below BT;have nS:PQ+1∉B:=h.far (by have:=B1.size;omega)
 obtain⟨p,hp⟩:∃p,x.put F 1 (next q) ⟨#[]⟩=p:=⟨_,rfl⟩;rw[hp]at HL;have hthen:=zh0 192 121 #[] #[.pointer (some ⟨w.heap.size,0,none⟩),.pointer (some ⟨w.heap.size+1,0,none⟩),.pointer (some ⟨PQ,0,none⟩)] #[.pointer (some ⟨D,0,none⟩)] #[] (PQ+1) wT
  (fun W=>p.1=0∧∃B2,DevAt W D B2 p.2∧Grow wT B W B2) (fun E W=>E=(DevS.done p).1∧∃B2,DevAt W D B2 (DevS.done p).2∧Grow wT B W B2)
  (fun _ _=>by kernel_rfl) (fun _ _=>by kernel_rfl) bST (fun W hJ=>by
   obtain⟨-,B2,-,g2⟩:=hJ;exact g2.blk bST nS)
  (by
   refine z1Z (zgM D w.heap.size (w.heap.size+1) PQ F Z q hq B x wT hdT bPT bJT bQT) rfl ?_;rintro e W' ⟨rfl,B2,hd2,hg2⟩;rw[hp]at hd2 ⊢;refine⟨_,rfl,fun hE=>⟨hE,B2,hd2,hg2⟩,fun hE=>?_⟩
   rw[z3f hE];exact⟨rfl,B2,hd2,hg2⟩)
  (by
   rintro W ⟨hE,B2,hd2,hg2⟩;refine z1Z (z4g D B2 p.2 W hd2) rfl ?_;rintro e W' ⟨rfl,hd3,hg3⟩;refine⟨_,rfl,?_⟩
   rw[z2w hE];exact⟨rfl,B2,hd3,hg2.trans hg3⟩)
 have cP1:=bP1.cells;have lP1:=bP1.lt;clear bPT bJT bQT bST hdT nS hp;rw[hPQ]at hT hthen;clear hPQ;go_wp2_with fail
 rw[←hT];refine hthen.mono ?_;rintro e w' ⟨E,rfl,rfl,B2,hd2,hg2⟩;clear hT hthen;go_wp2_with fail
 go_ret
 rw[HL.out];exact⟨rfl,B2,hd2,(Grow.of_below BT B).trans hg2⟩
theorem com1 (D PD PJ PR:Nat)(F Z:Int)(B:List Nat)(x:DevS)(A:Option Addr)(c:Nat)(l:List Rec)(hok:z37 l)(w:World)(h:DevAt w D B x)(hr:RunAt w A l)(hAB:∀ad,A=some ad→ad.block∉B)(bP:Blk w PD 27 #[.pointer (some ⟨D,0,none⟩)])(bJ:Blk w PJ 109 #[.int .i64 F,.int .i64 Z])(bR:Blk w PR 48 #[.slice A l.length c]):
  Calls prog 122 #[.pointer (some ⟨PD,0,none⟩),.pointer (some ⟨PJ,0,none⟩),.pointer (some ⟨PR,0,none⟩)] w (z1j w D B (x.log F Z l)):=by
 have cP:=bP.cells;have lP:=bP.lt;have cJ:=bJ.cells;have lJ:=bJ.lt;have cR:=bR.cells;have lR:=bR.lt;have hl:=zgf D F Z B x A c l hok w h hr hAB;unfold z1j at hl ⊢;go_enter func122,ntmps122
 go_wp2_with fail
 refine hl.mono ?_;rintro e w1 ⟨rfl,hd⟩;go_wp2_with fail
 go_ret
 exact⟨rfl,hd⟩
theorem com2 (D PD PJ:Nat)(F Z:Int)(B:List Nat)(x:DevS)(w:World)(h:DevAt w D B x)(bP:Blk w PD 27 #[.pointer (some ⟨D,0,none⟩)])(bJ:Blk w PJ 109 #[.int .i64 F,.int .i64 Z]):
  Calls prog 124 #[.pointer (some ⟨PD,0,none⟩),.pointer (some ⟨PJ,0,none⟩)] w (z1j w D B (x.apply F Z).2):=by
 have cP:=bP.cells;have lP:=bP.lt;have cJ:=bJ.cells;have lJ:=bJ.lt;have hl:=zdn D F Z B x w h;unfold z1j;generalize x.apply F Z=p at *;go_enter func124,ntmps124
 go_wp2_with fail
 refine hl.mono ?_;rintro e w1 ⟨rfl,hd⟩;go_wp2_with fail
 go_ret
 exact⟨rfl,hd⟩
theorem com3 (D PD PJ:Nat)(F Z:Int)(B:List Nat)(x:DevS)(w:World)(h:DevAt w D B x)(bP:Blk w PD 27 #[.pointer (some ⟨D,0,none⟩)])(bJ:Blk w PJ 109 #[.int .i64 F,.int .i64 Z]):
  Calls prog 126 #[.pointer (some ⟨PD,0,none⟩),.pointer (some ⟨PJ,0,none⟩)] w (z1j w D B (x.clear F Z)):=by
 have cP:=bP.cells;have lP:=bP.lt;have cJ:=bJ.cells;have lJ:=bJ.lt;have hl:=z6U D F Z B x w h;unfold z1j at hl ⊢;go_enter func126,ntmps126
 go_wp2_with fail
 refine hl.mono ?_;rintro e w1 ⟨rfl,hd⟩;go_wp2_with fail
 go_ret
 exact⟨rfl,hd⟩
theorem z7v (D:Nat)(F Z:Int)(B:List Nat)(x:DevS)(A:Option Addr)(c:Nat)(l:List Rec)(hok:z37 l)(w:World)(h:DevAt w D B x)(hr:RunAt w A l)(hAB:∀ad,A=some ad→ad.block∉B):
  Calls prog 52 #[.pointer (some ⟨D,0,none⟩),.agg #[.int .i64 F,.int .i64 Z],.slice A l.length c] w (z1j w D B (x.commit F Z l)):=by
 have hmf:∀(fn:Fn) (first cap:Array Value) (w:World),(Instr.makeFunc fn first cap).run prog w=.ok (.func fn first cap) w:=fun _ _ _ _=>rfl
 have HC:=show x.commit F Z l=if (x.log F Z l).1≠0 then x.log F Z l else if ((x.log F Z l).2.apply F Z).2.1≠0 then ((x.log F Z l).2.apply F Z).2 else ((x.log F Z l).2.apply F Z).2.2.clear F Z from rfl
 obtain⟨wT,hT⟩:∃wT,wT=(((w.alloc (.cells #[.pointer (some ⟨D,0,none⟩)] 27)).alloc (.cells #[.int .i64 F,.int .i64 Z] 109)).alloc (.cells #[.slice A l.length c] 48)).alloc (.cells #[.func (.func 122) #[] #[.pointer (some ⟨w.heap.size,0,none⟩),.pointer (some ⟨w.heap.size+1,0,none⟩),.pointer (some ⟨w.heap.size+1+1,0,none⟩)],.func (.func 124) #[] #[.pointer (some ⟨w.heap.size,0,none⟩),.pointer (some ⟨w.heap.size+1,0,none⟩)],.func (.func 126) #[] #[.pointer (some ⟨w.heap.size,0,none⟩),.pointer (some ⟨w.heap.size+1,0,none⟩)]] 58):=⟨_,rfl⟩;have bP:Blk wT w.heap.size 27 #[.pointer (some ⟨D,0,none⟩)]:=by rw[hT];exact(by (repeat' (first|(with_reducible assumption)|exact Blk.new' (by simp)|refine Blk.alloc ?_ _)))
 have bJ:Blk wT (w.heap.size+1) 109 #[.int .i64 F,.int .i64 Z]:=by rw[hT];exact(by (repeat' (first|(with_reducible assumption)|exact Blk.new' (by simp)|refine Blk.alloc ?_ _)))
 have bR:Blk wT (w.heap.size+1+1) 48 #[.slice A l.length c]:=by rw[hT];exact(Blk.new' (by simp)).alloc _
 have bS:Blk wT (w.heap.size+1+1+1) 58 #[.func (.func 122) #[] #[.pointer (some ⟨w.heap.size,0,none⟩),.pointer (some ⟨w.heap.size+1,0,none⟩),.pointer (some ⟨w.heap.size+1+1,0,none⟩)],.func (.func 124) #[] #[.pointer (some ⟨w.heap.size,0,none⟩),.pointer (some ⟨w.heap.size+1,0,none⟩)],.func (.func 126) #[] #[.pointer (some ⟨w.heap.size,0,none⟩),.pointer (some ⟨w.heap.size+1,0,none⟩)]]:=by rw[hT];exact Blk.new' (by simp)
 have BT:Below w.heap.size w wT:=by rw[hT];(repeat' (first|with_reducible (first|exact zho _ _|assumption|refine zhp ?_ ?_ _|refine zhq ?_|refine z00 ?_ _|refine zhr ?_ ?_ _|exact zhT _)|omega|(simp;done)|(simp;omega)))
 have nP:w.heap.size∉B:=h.far (zhT _);have nJ:w.heap.size+1∉B:=h.far (by omega)
 have nS:w.heap.size+1+1+1∉B:=h.far (by omega)
 obtain⟨p,hp⟩:∃p,x.log F Z l=p:=⟨_,rfl⟩;obtain⟨a,ha⟩:∃a,(p.2.apply F Z).2=a:=⟨_,rfl⟩;rw[hp,ha]at HC;have hthen:=zhf 122 124 126 #[] #[.pointer (some ⟨w.heap.size,0,none⟩),.pointer (some ⟨w.heap.size+1,0,none⟩),.pointer (some ⟨w.heap.size+1+1,0,none⟩)] #[] #[.pointer (some ⟨w.heap.size,0,none⟩),.pointer (some ⟨w.heap.size+1,0,none⟩)] #[] #[.pointer (some ⟨w.heap.size,0,none⟩),.pointer (some ⟨w.heap.size+1,0,none⟩)] (w.heap.size+1+1+1) wT
  (fun W=>p.1=0∧∃B2,DevAt W D B2 p.2∧Grow wT B W B2) (fun W=>p.1=0∧a.1=0∧∃B2,DevAt W D B2 a.2∧Grow wT B W B2) (fun E W=>E=(x.commit F Z l).1∧∃B2,DevAt W D B2 (x.commit F Z l).2∧Grow wT B W B2)
  (fun _ _=>by kernel_rfl) (fun _ _=>by kernel_rfl) (fun _ _=>by kernel_rfl) bS (fun W hJ=>by
   rcases hJ with ⟨-,B2,-,g2⟩|⟨-,-,B2,-,g2⟩
   ·exact g2.blk bS nS
   ·exact g2.blk bS nS)
  (by
   refine z1Z (com1 D w.heap.size (w.heap.size+1) (w.heap.size+1+1) F Z B x A c l hok wT (h.below BT) (Reads.below hr BT) hAB bP bJ bR) rfl ?_;rintro e W' ⟨rfl,B2,hd2,hg2⟩;rw[hp]at hd2 ⊢;refine⟨_,rfl,fun hE=>⟨hE,B2,hd2,hg2⟩,fun hE=>?_⟩
   rw[HC,if_pos hE];exact⟨rfl,B2,hd2,hg2⟩)
  (by
   rintro W ⟨hE,B2,hd2,hg2⟩;refine z1Z (com2 D w.heap.size (w.heap.size+1) F Z B2 p.2 W hd2 (hg2.blk bP nP) (hg2.blk bJ nJ)) rfl ?_;rintro e W' ⟨rfl,B3,hd3,hg3⟩;rw[ha]at hd3 ⊢;refine⟨_,rfl,fun hE2=>⟨hE,hE2,B3,hd3,hg2.trans hg3⟩,fun hE2=>?_⟩
   rw[HC,if_neg (by rw[hE];simp),if_pos hE2]
   exact⟨rfl,B3,hd3,hg2.trans hg3⟩)
  (by
   rintro W ⟨hE,hE2,B2,hd2,hg2⟩;refine z1Z (com3 D w.heap.size (w.heap.size+1) F Z B2 a.2 W hd2 (hg2.blk bP nP) (hg2.blk bJ nJ)) rfl ?_;rintro e W' ⟨rfl,B3,hd3,hg3⟩;refine⟨_,rfl,?_⟩
   rw[HC,if_neg (by rw[hE];simp),if_neg (by rw[hE2];simp)]
   exact⟨rfl,B3,hd3,hg2.trans hg3⟩)
 unfold z1j;clear bP bJ bR bS nP nJ nS hp ha HC;go_enter func52,ntmps52
 go_wp2_with fail
 rw[←hT];refine hthen.mono ?_;rintro e w' ⟨E,rfl,rfl,B2,hd2,hg2⟩;clear hT hthen;go_wp2_with fail
 go_ret
 exact⟨rfl,B2,hd2,(Grow.of_below BT B).trans hg2⟩
def zfI (dv:Option Addr)(s j i J M T D B:Int):List Value:=[.pointer dv,.int .i64 s,.int .i64 j,.int .i64 i,.int .i64 J,.int .i64 M,.int .i64 T,.int .i64 D,.int .i64 B]
def noPlace:List Value:=zfI none 0 0 0 0 0 0 0 0
def ze9 (D:Nat)(s j i:Int):List Value:=zfI (some ⟨D,0,none⟩) s j i (rgJ s j i) (rgM s j i) (rgT s j i) (rgD s j i) (rgB s j i)
def z0R (n s j i:Int):Int:=if rgE s j i≠0 then rgE s j i else if n=0 then 1 else if n≠s then 6 else 0
def z5s (D:Nat)(n s j i:Int):Array Value:=if z0R n s j i=0 then (ze9 D s j i).toArray else noPlace.toArray
theorem z1L {W:World}{g:Nat}{t ty:TypeId}{cur:Array Value}{vs:Array Value}(b:Blk W g t cur)(hl:cur.size=vs.size)(h1:vs.all (·.oneCell')=true)(hsz:(sizeOf ty).run prog W=.ok vs.size W):
  (Instr.storeAt ty (.pointer (some ⟨g,0,none⟩)) (.agg vs)).run prog W=.ok () (W.setRow g vs):=by
 have h:=z0W (P:=prog) (w:=W) (ty:=ty) (t:=t) (g:=g) (o:=0) (cur:=cur) (vs:=vs.toList) b (by simp;omega) (fun v hv=>by
  have:=Array.all_eq_true'.1 h1 v (by simpa using hv)
  exact this) (by simpa using hsz)
 have e:(cur.toList.take 0++vs.toList++cur.toList.drop (0+vs.toList.length)).toArray=vs:=by
  rw[zi2,zi3,List.drop_of_length_le (by simp;omega),zi5]
 rw[e]at h;simpa using h
abbrev PV (dv:Option Addr)(s j i J M T D B:Int):Array Value:=#[.pointer dv,.int .i64 s,.int .i64 j,.int .i64 i,.int .i64 J,.int .i64 M,.int .i64 T,.int .i64 D,.int .i64 B]
theorem zaS (D:Nat)(s j i:Int)(B:List Nat)(x:DevS)(w:World)(h:DevAt w D B x):
  Calls prog 48 #[.pointer (some ⟨D,0,none⟩),.agg #[.int .i64 s,.int .i64 j,.int .i64 i]] w fun e w'=>e=.returned (.tuple #[.agg (z5s D x.stable.length s j i),.int .i64 (z0R x.stable.length s j i)])∧Below w.heap.size w w':=by
 have hlo:=h.ok.lo;have hhi:=h.ok.hi;obtain⟨wA,hA⟩:∃wA,wA=(w.alloc (.cells #[.int .i64 s,.int .i64 j,.int .i64 i] 23)).alloc (.cells noPlace.toArray 120):=⟨_,rfl⟩;have bL:Blk wA w.heap.size 23 #[.int .i64 s,.int .i64 j,.int .i64 i]:=by rw[hA];exact(by (repeat' (first|(with_reducible assumption)|exact Blk.new' (by simp)|refine Blk.alloc ?_ _)))
 have bP:Blk wA (w.heap.size+1) 120 noPlace.toArray:=by rw[hA];exact(by (repeat' (first|(with_reducible assumption)|exact Blk.new' (by simp)|refine Blk.alloc ?_ _)))
 have BA:Below w.heap.size w wA:=by rw[hA];(repeat' (first|with_reducible (first|exact zho _ _|assumption|refine zhp ?_ ?_ _|refine zhq ?_|refine z00 ?_ _|refine zhr ?_ ?_ _|exact zhT _)|omega|(simp;done)|(simp;omega)))
 have hrg:=z2E s j i wA;have hz:noPlace.toArray=#[.pointer none,.int .i64 0,.int .i64 0,.int .i64 0,.int .i64 0,.int .i64 0,.int .i64 0,.int .i64 0,.int .i64 0]:=rfl;unfold ze5 rgV at hrg;rw[hz]at hA bP;clear hz;have cL:=bL.cells;have lL:=bL.lt;go_enter func48,ntmps48
 go_wp2_with fail
 rw[←hA];clear hA;go_wp2_with fail
 refine hrg.mono ?_;rintro e w1 ⟨rfl,hb1⟩;have B1:=BA.trans (hb1.mono BA.size);have bL1:=bL.belowAll hb1;have bP1:=bP.belowAll hb1;have bR1:Blk (w1.alloc (.cells #[.int .i64 (rgJ s j i),.int .i64 (rgM s j i),.int .i64 (rgT s j i),.int .i64 (rgD s j i),.int .i64 (rgB s j i)] 44)) w1.heap.size 44 #[.int .i64 (rgJ s j i),.int .i64 (rgM s j i),.int .i64 (rgT s j i),.int .i64 (rgD s j i),.int .i64 (rgB s j i)]:=Blk.new _ _ _;clear hb1 hrg cL lL bL bP BA;by_cases hE:rgE s j i=0
 rotate_left
 ·have HE:Hid (z0R x.stable.length s j i=rgE s j i):=zhs (by unfold z0R;rw[if_pos hE])
  have HN:=zhs hE;obtain⟨E,hEE⟩:∃E,rgE s j i=E:=⟨_,rfl⟩;rw[hEE]at hE HE HN ⊢;have hE':(E != 0)=true:=by simpa using hE
  clear hE hEE;have bP2:=bP1.alloc (.cells #[.int .i64 (rgJ s j i),.int .i64 (rgM s j i),.int .i64 (rgT s j i),.int .i64 (rgD s j i),.int .i64 (rgB s j i)] 44);have hst:=z1L (ty:=120) (vs:=PV none 0 0 0 0 0 0 0 0) bP2 rfl (by simp[Value.oneCell']) (by kernel_rfl)
  have bP3:=bP2.setRow (cs':=PV none 0 0 0 0 0 0 0 0);have BF:Below w.heap.size w _:=Below.setRow (B1.alloc B1.size (.cells #[.int .i64 (rgJ s j i),.int .i64 (rgM s j i),.int .i64 (rgT s j i),.int .i64 (rgD s j i),.int .i64 (rgB s j i)] 44)) (g:=w.heap.size+1) (by omega) (PV none 0 0 0 0 0 0 0 0)
  have cP2:=bP2.cells;have lP2:=bP2.lt;go_wp2_with (refine z01 rfl _ _ _ rfl _ _ rfl rfl hst ?_)
  have cP3:=bP3.cells;refine bodyPost_ret (v:=.tuple #[.agg (PV none 0 0 0 0 0 0 0 0),.int .i64 E]) (by simp[results,results48,go_sem,cP3]) rfl ?_
  exact⟨by unfold z5s;rw[HE.out,if_neg HN.out];rfl,BF⟩
 have hRb:=z10 hE;rw[hE];have hd1:=(h.below B1).alloc (.cells #[.int .i64 (rgJ s j i),.int .i64 (rgM s j i),.int .i64 (rgT s j i),.int .i64 (rgD s j i),.int .i64 (rgB s j i)] 44);have bP2:=bP1.alloc (.cells #[.int .i64 (rgJ s j i),.int .i64 (rgM s j i),.int .i64 (rgT s j i),.int .i64 (rgD s j i),.int .i64 (rgB s j i)] 44);have bL2:=bL1.alloc (.cells #[.int .i64 (rgJ s j i),.int .i64 (rgM s j i),.int .i64 (rgT s j i),.int .i64 (rgD s j i),.int .i64 (rgB s j i)] 44);have B2:=B1.alloc B1.size (.cells #[.int .i64 (rgJ s j i),.int .i64 (rgM s j i),.int .i64 (rgT s j i),.int .i64 (rgD s j i),.int .i64 (rgB s j i)] 44);have hs0:((x.stable.length:Int)==0)=false:=by rw[beq_eq_false_iff_ne];omega
 have HB0:=zhs hE;clear hE bP1 bL1;have cL2:=bL2.cells;have lL2:=bL2.lt;obtain⟨w2,hw2⟩:∃w2,w2=w1.alloc (.cells #[.int .i64 (rgJ s j i),.int .i64 (rgM s j i),.int .i64 (rgT s j i),.int .i64 (rgD s j i),.int .i64 (rgB s j i)] 44):=⟨_,rfl⟩;go_wp2_with fail
 rw[←hw2]at hd1 bP2 bL2 B2 bR1 cL2 lL2 ⊢;refine(z2z D B x w2 hd1).mono ?_;rintro e w' ⟨rfl,rfl⟩;clear hw2;go_wp2_with fail
 go_quiet ((go_at_call 113;exact Calls.quiet_of_same (z2z D B x _ (hd1.drewN _))))
 have bP4:Blk (w'.drewN nq) (w.heap.size+1) 120 (PV none 0 0 0 0 0 0 0 0):=bP2;have bL4:Blk (w'.drewN nq) w.heap.size 23 #[.int .i64 s,.int .i64 j,.int .i64 i]:=bL2;have bR4:Blk (w'.drewN nq) w1.heap.size 44 #[.int .i64 (rgJ s j i),.int .i64 (rgM s j i),.int .i64 (rgT s j i),.int .i64 (rgD s j i),.int .i64 (rgB s j i)]:=bR1;have B4:=z00 B2 nq;generalize w'.drewN nq=w4 at *;clear hd1 bP2 bL2 B2 bR1 cL2 lL2;have cL4:=bL4.cells;have lL4:=bL4.lt;have cP4:=bP4.cells;have lP4:=bP4.lt;have cR4:=bR4.cells;have lR4:=bR4.lt;by_cases hn:(x.stable.length:Int)=s
 rotate_left
 ·have HE:Hid (z0R x.stable.length s j i=6):=zhs (by unfold z0R;rw[if_neg (by rw[HB0.out];simp),if_neg (by omega),if_pos hn])
  have hn':((x.stable.length:Int) != s)=true:=by simpa using hn
  clear hn;have hst:=z1L (ty:=120) (vs:=PV none 0 0 0 0 0 0 0 0) bP4 rfl (by simp[Value.oneCell']) (by kernel_rfl)
  have bP5:=bP4.setRow (cs':=PV none 0 0 0 0 0 0 0 0);have BF:Below w.heap.size w _:=Below.setRow B4 (g:=w.heap.size+1) (by omega) (PV none 0 0 0 0 0 0 0 0)
  go_wp2_with (refine z01 rfl _ _ _ rfl _ _ rfl rfl hst ?_)
  have cP5:=bP5.cells;refine bodyPost_ret (v:=.tuple #[.agg (PV none 0 0 0 0 0 0 0 0),.int .i64 6]) (by simp[results,results48,go_sem,cP5]) rfl ?_
  exact⟨by unfold z5s;rw[HE.out];rfl,BF⟩
 ·have HE:Hid (z0R x.stable.length s j i=0):=zhs (by unfold z0R;rw[if_neg (by rw[HB0.out];simp),if_neg (by omega),if_neg (by simpa using hn)])
  have hn':((x.stable.length:Int) != s)=false:=by simpa using hn
  clear hn;have hst:=z1L (ty:=120) (vs:=PV (some ⟨D,0,none⟩) s j i (rgJ s j i) (rgM s j i) (rgT s j i) (rgD s j i) (rgB s j i)) bP4 rfl (by simp[Value.oneCell']) (by kernel_rfl)
  have bP5:=bP4.setRow (cs':=PV (some ⟨D,0,none⟩) s j i (rgJ s j i) (rgM s j i) (rgT s j i) (rgD s j i) (rgB s j i));have BF:Below w.heap.size w _:=Below.setRow B4 (g:=w.heap.size+1) (by omega) (PV (some ⟨D,0,none⟩) s j i (rgJ s j i) (rgM s j i) (rgT s j i) (rgD s j i) (rgB s j i))
  go_wp2_with (refine z01 rfl _ _ _ rfl _ _ rfl rfl hst ?_)
  have cP5:=bP5.cells;refine bodyPost_ret (v:=.tuple #[.agg (PV (some ⟨D,0,none⟩) s j i (rgJ s j i) (rgM s j i) (rgT s j i) (rgD s j i) (rgB s j i)),.int .i64 0]) (by simp[results,results48,go_sem,cP5]) rfl ?_
  exact⟨by unfold z5s;rw[HE.out];rfl,BF⟩
theorem z3v (G:Nat)(t:TypeId)(cs:Array Value)(j J:Int)(w:World)(b:Blk w G t cs)(h2:cs[2]?=some (.int .i64 j))(h4:cs[4]?=some (.int .i64 J)):
  Calls prog 50 #[.pointer (some ⟨G,0,none⟩)] w fun e w'=>e=.returned (.agg #[.int .i64 J,.int .i64 j])∧Below w.heap.size w w':=by
 obtain⟨W,hW⟩:∃W,W=w.alloc (.cells #[.int .i64 0,.int .i64 0] 109):=⟨_,rfl⟩;have bG:Blk W G t cs:=by rw[hW];exact b.alloc _
 have bR:Blk W w.heap.size 109 #[.int .i64 0,.int .i64 0]:=by rw[hW];exact Blk.new _ _ _
 have BW:Below w.heap.size w W:=by rw[hW];(repeat' (first|with_reducible (first|exact zho _ _|assumption|refine zhp ?_ ?_ _|refine zhq ?_|refine z00 ?_ _|refine zhr ?_ ?_ _|exact zhT _)|omega|(simp;done)|(simp;omega)))
 have c2:W.cell? ⟨G,2,none⟩=some (.int .i64 j):=(bG.cells 2).trans h2;have c4:W.cell? ⟨G,4,none⟩=some (.int .i64 J):=(bG.cells 4).trans h4;have lG:=bG.lt;have cR:=bR.cells;have fR:=bR.free;have lR:=bR.lt;go_enter func50,ntmps50
 go_wp2_with fail
 rw[←hW];clear hW;refine wp_region_still_tail 11 (by kernel_rfl) (by kernel_rfl) ?_
 simp only[List.take_succ_cons,zi2,List.drop_succ_cons,List.drop_zero];change wpStill _ _ W.drew _ _ _
 repeat still_step
 refine wpStill_nil ?_;change wpList _ _ _ _ _ W.drew
 go_wp2_with fail
 have bR2:=((bR.set_ 0 (.int .i64 J)).set_ 1 (.int .i64 j)).drew;have cR2:=bR2.cells;clear cR fR lR;refine bodyPost_ret (v:=.agg #[.int .i64 J,.int .i64 j]) (by simp[results,results50,go_sem,cR2]) rfl ?_
 exact⟨rfl,((BW.setCell (p:=⟨w.heap.size,0,none⟩) (by simp) _).setCell (p:=⟨w.heap.size,1,none⟩) (by simp) _).drew⟩
def mapS (us:List Bool):ByteArray:=strOfNums (encL us us.length)
theorem z20 (us:List Bool):(mapS us).size=96:=by unfold mapS;rw[strOfNums_size,z1p]
theorem z51 (G:Nat)(t:TypeId)(cs:Array Value)(M:Int)(s j i:Int)(A:Option Addr)(c:Nat)(us:List Bool)(hus:us.length≤1000)(hC:CkE s j i us.length=0)(w:World)(b:Blk w G t cs)(h5:cs[5]?=some (.int .i64 M))(hR:Reads w A (us.map .bool)):
  Calls prog 53 #[.pointer (some ⟨G,0,none⟩),.agg #[.int .i64 s,.int .i64 j,.int .i64 i,.slice A us.length c]] w fun e w'=>e=.returned (.agg #[.int .i64 M,.int .i64 5,.string (mapS us)])∧Below w.heap.size w w':=by
 obtain⟨W,hW⟩:∃W,W=(w.alloc (.cells #[.int .i64 s,.int .i64 j,.int .i64 i,.slice A us.length c] 47)).alloc (.cells #[.int .i64 0,.int .i64 0,.string ⟨#[]⟩] 118):=⟨_,rfl⟩;have bG:Blk W G t cs:=by rw[hW];exact(b.alloc _).alloc _
 have bS:Blk W w.heap.size 47 #[.int .i64 s,.int .i64 j,.int .i64 i,.slice A us.length c]:=by rw[hW];exact(by (repeat' (first|(with_reducible assumption)|exact Blk.new' (by simp)|refine Blk.alloc ?_ _)))
 have bR:Blk W (w.heap.size+1) 118 #[.int .i64 0,.int .i64 0,.string ⟨#[]⟩]:=by rw[hW];exact(by (repeat' (first|(with_reducible assumption)|exact Blk.new' (by simp)|refine Blk.alloc ?_ _)))
 have BW:Below w.heap.size w W:=by rw[hW];(repeat' (first|with_reducible (first|exact zho _ _|assumption|refine zhp ?_ ?_ _|refine zhq ?_|refine z00 ?_ _|refine zhr ?_ ?_ _|exact zhT _)|omega|(simp;done)|(simp;omega)))
 have hen:=zba s j i A c us hus W (hR.below BW);have cS:=bS.cells;have lS:=bS.lt;go_enter func53,ntmps53
 go_wp2_with fail
 rw[←hW];clear hW;go_wp2_with fail
 refine hen.mono ?_;rintro e w1 ⟨hb1,he⟩;obtain⟨-,g,rfl,hg,hRg⟩:=he.resolve_left (fun h=>h.1 hC)
 have bG1:=bG.belowAll hb1;have bR1:=bR.belowAll hb1;have B1:=BW.trans (hb1.mono BW.size);have hcv:=z1T (some ⟨g,0,none⟩) 96 96 (encL us us.length) (z1p _ _) w1.drew (hRg.below (zho _ _).drew);have HM:Hid (strOfNums (encL us us.length)=mapS us):=zhs rfl;generalize strOfNums (encL us us.length)=ms at *;clear hb1 hen cS lS bG bR bS BW hRg;have c5:w1.cell? ⟨G,5,none⟩=some (.int .i64 M):=(bG1.cells 5).trans h5;have lG:=bG1.lt;go_wp2_with fail
 refine wp_region_still_tail 8 (by kernel_rfl) (by kernel_rfl) ?_
 simp only[List.take_succ_cons,zi2,List.drop_succ_cons,List.drop_zero];change wpStill _ _ w1.drew _ _ _
 repeat still_step
 refine wpStill_nil ?_;change wpList _ _ _ _ _ w1.drew
 have cR:=bR1.cells;have fR:=bR1.free;have lR:=bR1.lt;go_wp2_with fail
 have bR2:=(((bR1.set_ 0 (.int .i64 M)).set_ 1 (.int .i64 5)).set_ 2 (.string ms)).drew;have cR2:=bR2.cells;clear cR fR lR;refine bodyPost_ret (v:=.agg #[.int .i64 M,.int .i64 5,.string ms]) (by simp[results,results53,go_sem,cR2]) rfl ?_
 exact⟨by rw[HM.out],(((B1.setCell (p:=⟨w.heap.size+1,0,none⟩) (by simp) _).setCell (p:=⟨w.heap.size+1,1,none⟩) (by simp) _).setCell (p:=⟨w.heap.size+1,2,none⟩) (by simp) _).drew⟩
def Asc (l:List Rec):Prop:=l.Pairwise (fun a b=>a.at_<b.at_)
def z0s:List Rec→Rec→List Rec
 | [],r=>[r]
 | x::t,r=>if r.at_<x.at_ then r::x::t else if r.at_=x.at_ then r::t else x::z0s t r
def z0Y (l:List Rec)(a:Int):Option Rec:=l.find? (fun r=>r.at_==a)
theorem z6K (l:List Rec)(r:Rec)(a:Int):z0Y (z0s l r) a=if r.at_=a then some r else z0Y l a:=by
 unfold z0Y;induction l with
 | nil=>unfold z0s;by_cases h:r.at_=a<;>simp[h]
 | cons x t ih=>
  unfold z0s;by_cases h1:r.at_<x.at_
  ·rw[if_pos h1];by_cases h:r.at_=a<;>simp[List.find?_cons,h]
  ·rw[if_neg h1];by_cases h2:r.at_=x.at_
   ·rw[if_pos h2];by_cases h:r.at_=a
    ·simp[List.find?_cons,h]
    ·have:¬x.at_=a:=by omega
     simp[List.find?_cons,h,this]
   ·rw[if_neg h2,List.find?_cons,ih];by_cases h:r.at_=a
    ·have e:(x.at_==a)=false:=by simp;omega
     rw[e,if_pos h,if_pos h]
    ·rw[if_neg h,if_neg h,List.find?_cons]
theorem z3A {l:List Rec}{r y:Rec}(h:y∈z0s l r):y=r∨y∈l:=by
 induction l with
 | nil=>unfold z0s at h;simp at h;exact .inl h
 | cons x t ih=>
  unfold z0s at h;split at h
  ·rcases List.mem_cons.1 h with h|h
   ·exact .inl h
   ·exact .inr h
  ·split at h
   ·rcases List.mem_cons.1 h with h|h
    ·exact .inl h
    ·exact .inr (zhJ _ h)
   ·rcases List.mem_cons.1 h with h|h
    ·exact .inr (by simp[h])
    ·rcases ih h with h|h
     ·exact .inl h
     ·exact .inr (zhJ _ h)
theorem z4R {l:List Rec}(h:Asc l)(r:Rec):Asc (z0s l r):=by
 induction l with
 | nil=>exact List.pairwise_singleton _ _
 | cons x t ih=>
  obtain⟨h1,h2⟩:=List.pairwise_cons.1 h;unfold z0s;split
  ·rename_i hlt
   exact List.pairwise_cons.2 ⟨fun y hy=>by
    rcases List.mem_cons.1 hy with rfl|hy
    ·exact hlt
    ·exact Int.lt_trans hlt (h1 y hy),h⟩
  ·split
   ·rename_i heq
    exact List.pairwise_cons.2 ⟨fun y hy=>by rw[heq];exact h1 y hy,h2⟩
   ·rename_i n1 n2
    exact List.pairwise_cons.2 ⟨fun y hy=>by
     rcases z3A hy with rfl|hy
     ·omega
     ·exact h1 y hy,ih h2⟩
theorem z8X {l:List Rec}{a:Int}{r:Rec}(h:z0Y l a=some r):r∈l∧r.at_=a:=by
 have h1:=List.mem_of_find?_eq_some h;have h2:=List.find?_some h;exact⟨h1,by simpa using h2⟩
theorem zbg {l:List Rec}{a:Int}(h:z0Y l a=none):∀r∈l,r.at_≠a:=by
 intro r hr e;have:=List.find?_eq_none.1 h r hr
 simp[e]at this
theorem z2r {l:List Rec}(h:Asc l)(r:Rec):(z0s l r).length=if (z0Y l r.at_).isSome then l.length else l.length+1:=by
 induction l with
 | nil=>rfl
 | cons x t ih=>
  obtain⟨h1,h2⟩:=List.pairwise_cons.1 h;have ih:=ih h2;unfold z0s;unfold z0Y at ih ⊢;rw[List.find?_cons];by_cases n1:r.at_<x.at_
  ·rw[if_pos n1];have e1:(x.at_==r.at_)=false:=by simp;omega
   have e2:t.find? (fun y=>y.at_==r.at_)=none:=List.find?_eq_none.2 (fun y hy=>by have:=h1 y hy;simp;omega)
   rw[e1];simp only[e2];rfl
  ·rw[if_neg n1];by_cases n2:r.at_=x.at_
   ·rw[if_pos n2];have e1:(x.at_==r.at_)=true:=by simp[n2]
    rw[e1];rfl
   ·rw[if_neg n2];have e1:(x.at_==r.at_)=false:=by simp;omega
    rw[e1,zhO,ih];simp only[zhO];split<;>rfl
def recD (r:Rec):DataW Unit:=.agg [.lit (.int .i64 r.at_),.lit (.int .i64 r.kind),.lit (.string r.data.data.toList)]
def recR:Value→Option (DataW Unit × List MemPlace)
 | .agg ⟨[.int .i64 a,.int .i64 k,.string s]⟩=>some (recD ⟨a,k,s⟩,[])
 | _=>none
theorem z62 (r:Rec):recR (.agg (recC r))=some (recD r,[]):=rfl
theorem zaK {r s:Rec}(h:recD r=recD s):r=s:=by
 unfold recD at h;simp only[DataW.agg.injEq,List.cons.injEq,DataW.lit.injEq,Lit.int.injEq,true_and,and_true,Lit.string.injEq]at h;obtain⟨h1,h2,h3⟩:=h;obtain⟨a,k,d⟩:=r;obtain⟨a',k',d'⟩:=s;simp only at h1 h2 h3
 subst h1 h2;have:d=d':=by apply ByteArray.ext;exact Array.toList_inj.1 h3
 subst this;rfl
theorem zaP {v:Value}{r:Rec}{ps:List MemPlace}(h:recR v=some (recD r,ps)):v=.agg (recC r):=by
 unfold recR at h;split at h
 ·rename_i a k s
  simp only[Option.some.injEq,Prod.mk.injEq]at h;have:=zaK h.1
  subst this;rfl
 ·cases h
structure RecMap (D:DataW Unit)(l:List Rec):Prop where
 tidy:Tidy D
 at_:∀a z,D.atKey (.int .i64 a) z=match z0Y l a with|some r=>recD r|none=>z
 has_:∀a,has D (.int .i64 a)=(z0Y l a).isSome
 size_:size D=l.length
 asc:Asc l
theorem RecMap.empty:RecMap (.map []) []:=⟨tidy_empty,fun _ _=>rfl,fun _=>rfl,rfl,List.Pairwise.nil⟩
theorem RecMap.put {D:DataW Unit}{l:List Rec}(h:RecMap D l)(r:Rec):RecMap (D.put (.int .i64 r.at_) (recD r)) (z0s l r):=by
 refine⟨h.tidy.put (show WideAt.IsKeyLit (.int .i64 r.at_)from trivial) _,fun a z=>?_,fun a=>?_,?_,z4R h.asc r⟩
 ·rw[z6K];by_cases e:r.at_=a
  ·subst e;rw[if_pos rfl];exact atKey_put_same h.tidy.isMap (show WideAt.IsKeyLit (.int .i64 r.at_)from trivial) _ _
  ·rw[if_neg e,atKey_put_other (by intro x;cases x;exact e rfl),h.at_]
 ·rw[z6K];by_cases e:r.at_=a
  ·subst e;rw[if_pos rfl];exact has_put_same h.tidy.isMap (show WideAt.IsKeyLit (.int .i64 r.at_)from trivial) _
  ·rw[if_neg e,has_put_other (by intro x;cases x;exact e rfl),h.has_]
 ·rw[size_put h.tidy,h.has_,h.size_,z2r h.asc]
end Go.Proofs.YtejmknghkbobnaaGreatDoor
