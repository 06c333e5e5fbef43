import Derived.Test.YtejmknghkbobnaaGreatDoorPart19
import Derived.Test.YtejmknghkbobnaaGreatDoorRows
import Derived.Test.YtejmknghkbobnaaGreatDoorCards
import Derived.Test.YtejmknghkbobnaaGreatDoorTie
import Derived.Lib.LaidTab
import Derived.Lib.SmallJoins
import Derived.LaidMore
import Derived.OpenShut
import Derived.Stop.Joined
import Derived.SevenTiedAt
set_option linter.all false
set_option maxRecDepth 100000
set_option maxHeartbeats 0
namespace Go.Proofs.YtejmknghkbobnaaGreatDoor
open Go.Proofs.Tryz
open Go.RowKit Go.Maps
theorem Tryz.qJ:(prog.info? 5).map (fun i=>(i.zero,i.size,i.bytes))=some (some (.int .u8 0),1,1):=by kernel_rfl
theorem ku (n:Nat)(K:n<=100000)(w:World):(Instr.makeSlice 113 (.int .i64 n) (.int .i64 n)).run prog w=.ok (.slice (some ⟨w.heap.size,0,none⟩) n n) (w.alloc (.cells (fill (.int .u8 0) n) 5)):=by
 obtain⟨J,I,c,A,D⟩:=info_parts Tryz.qJ;have:=run_make (P:=prog) w 113 5 J (.int .u8 0) underlying113 I c .i64 .i64 n n (by omega) (Int.le_refl _) (by rw[D];omega) (by omega)
 rw[this,A];simp[fill,Value.cells]
def iz (n:Nat):ByteArray:=strOfNums (List.replicate n 0)
theorem z1S {A:Option Addr}(n:Nat)(w:World)(D:Reads w A ((List.replicate n (0:Int)).map (.int .u8)))(c:Nat):(convert 113 9 (.slice A n c)).run prog w=.ok (.string (iz n)) w:=
 dR A n c (List.replicate n 0) (by simp) w D
theorem z29 (w:World)(n:Nat):Reads (w.alloc (.cells (fill (.int .u8 0) n) 5)) (some ⟨w.heap.size,0,none⟩) ((List.replicate n (0:Int)).map (.int .u8)):=by
 rw[<-fZ];exact el (Blk.new w 5 (ag (List.replicate n 0)))
theorem z1E (n:Nat):(iz n).size=n:=by unfold iz;rw[strOfNums_size,m4]
def f8 (to_:Int):Bool:=decide (to_<0)||decide (768<to_)
def eL (o:ByteArray)(to_ size:Int):ByteArray:=(o++iz (max (to_ - size) 0).toNat).extract 0 to_.toNat
def TxS.ni (y:TxS)(x:DevS)(kd:Int)(l:List Int)(size to_:Int):Int × TxS × List Int:=
 if aQ y l size (f8 to_) false≠0 then (aQ y l size (f8 to_) false,y,[])
 else if (y.text x kd l size 0 size).2≠0 then ((y.text x kd l size 0 size).2,y,[])
 else y.store x kd l (bh (eL (y.text x kd l size 0 size).1 to_ size))
def z3r (w:World)(T:Nat)(F:List Nat)(D:Nat)(B:List Nat)(x:DevS)(r:Int × TxS × List Int)(e:Ending)(w':World):Prop:=
 ∃v,e=.returned (.tuple #[v,.int .i64 r.1])/\z3t w T F D B x r.2.1 r.2.2 v w'
theorem z4M (T:Nat)(F:List Nat)(D:Nat)(y:TxS)(B:List Nat)(x:DevS)(kd:Int)(A:Option Addr)(c:Nat)(l:List Int)(hl:l.length<=1000)(size to_:Int)(bN:-9223372036854775808<=size/\size<=9223372036854775807)(w:World)(h:TD w T F D y B x)(hA:SlI w A c l):
  Calls prog 78 #[.pointer (some ⟨T,0,none⟩),.int .i64 kd,.slice A l.length c,.int .i64 size,.int .i64 to_] w (z3r w T F D B x (y.ni x kd l size to_)):=by
 have hq:(decide (to_<0)=true/\f8 to_=true)\/(decide (to_<0)=false/\decide (768<to_)=true/\f8 to_=true)\/(decide (to_<0)=false/\decide (768<to_)=false/\f8 to_=false):=by
  unfold f8;cases h1:decide (to_<0)
  ·cases h2:decide (768<to_)
   ·exact .inr (.inr ⟨rfl,rfl,rfl⟩)
   ·exact .inr (.inl ⟨rfl,rfl,rfl⟩)
  ·exact .inl ⟨rfl,rfl⟩
 have S:Hid (y.ni x kd l size to_=(if aQ y l size (f8 to_) false≠0 then (aQ y l size (f8 to_) false,y,[])
 else if (y.text x kd l size 0 size).2≠0 then ((y.text x kd l size 0 size).2,y,[])
 else y.store x kd l (bh (eL (y.text x kd l size 0 size).1 to_ size)):Int × TxS × List Int)):=kD rfl
 have bA:=kD (z3f T F D y kd A c l hl size (f8 to_) false bN w h.tx hA);have HB:Hid (f8 to_=false->0<=to_/\to_<=768):=kD fun e=>by
  have:=(Bool.or_eq_false_iff.1 e)
  have h1:=of_decide_eq_false this.1;have h2:=of_decide_eq_false this.2;omega
 generalize f8 to_=bad at *;have HH:=kD h;clear h;go_enter func78,ntmps78
 rcases hq with ⟨h1,rfl⟩|⟨h1,h2,rfl⟩|⟨h1,h2,rfl⟩
 all_goals
  go_wp2_with fail
  refine bA.out.mono ?_;rintro e w1 ⟨J,aL⟩;rcases aL with ⟨ao,cs,bF,rfl⟩|⟨hz,v,rfl,Y⟩
 rotate_left
 ·exact absurd (df hz).2.2.2.1 (by decide)
 rotate_left
 ·exact absurd (df hz).2.2.2.1 (by decide)
 rotate_left;focus
  obtain⟨a3,c3,rfl⟩:=aw Y;obtain⟨b1,bw,bR,-,-,bS⟩:=df hz;obtain⟨bZ,b0⟩:=HB.out (by trivial)
  have bJ:l.length<=8:=by omega
  obtain⟨w2,O⟩:=zex (w1.alloc (.cells (lsC T y.s y.j y.i kd (.slice a3 l.length c3)) 234));have an:Blk w2 w1.heap.size 234 (lsC T y.s y.j y.i kd (.slice a3 l.length c3)):=by rw[O];exact zbn
  have B2:Zr w w2:=by rw[O];exact J.alloc J.size _
  have K:w2.ownsRow w.heap.size 3 1 (.slice a3 l.length c3) l.length (l.map (.int .i64)):=by rw[O];exact aq (W:=w1) Y ((kF _ _).alloc (kE _) _)
  have bL:∀a,a3=some a->a.block≠w1.heap.size:=fun a e=>by subst e;have:=(ce Y a.block rfl).2;omega
  have M:=HH.out.below B2;have z1:w.heap.size<=w1.heap.size:=J.size;have bC:=kD O;rw[if_neg (by simpa using hz)]at S
  have HZ:=kD hz;have bu:=z5z w1.heap.size T F D y B x kd a3 c3 l bJ size 0 size ⟨bw,bR⟩ ⟨by omega,by omega,by omega⟩ w2 M.tx M.dev an (Reads.ng K)
  clear hz O Y J;go_wp2_with fail
  rw[<-bC.out];refine bu.mono ?_;rintro e w3 ⟨rfl,V⟩;have B3:Zr w w3:=B2.trans (V.mono B2.size);have a7:=an.mD V;have bn:=aq K V;have a6:=kD (jO (y:=y) (x:=x) (kd:=kd) (l:=l) bw bS);clear bu an K M V B2;generalize y.text x kd l size 0 size=R at *;obtain⟨o,E⟩:=R;simp only at S a6 |-
  by_cases hE:E=0
  rotate_left
  ·have HX:Hid (y.ni x kd l size to_=(E,y,[])):=kD (by rw[S.out,if_pos hE])
   have bD:(E != 0)=true:=by simpa using hE
   clear hE S;go_wp2_with fail
   go_ret2
   exact⟨_,by rw[HX.out];rfl,by rw[HX.out];exact⟨World.ownsRow_nil _ _ _ _,F,HH.out.below B3,Grow.of_below B3 F,fun q hq=>by cases hq⟩⟩
  subst hE;have bM:(o.size:Int)=size:=a6.out rfl;obtain⟨tn,bP⟩:∃tn:Nat,to_=tn:=⟨to_.toNat,by omega⟩
  subst bP;subst bM;obtain⟨I,bk⟩:∃I:Nat,max ((tn:Int) - o.size) 0=I:=⟨_,(Int.toNat_of_nonneg (by omega)).symm⟩
  have bO:tn<=768:=by omega
  have bX:tn<=o.size+I:=by omega
  have bU:I<=768:=by omega
  have bW:o.size<=768:=by omega
  have HT:Hid (eL o tn o.size=(o++iz I).extract 0 tn):=kD (by unfold eL;rw[bk];rfl)
  have bK:=ku I (by omega) w3
  have bG:=z1S I (w3.alloc (.cells (fill (.int .u8 0) I) 5)) (z29 w3 I) I;have bT:=z1E I;have bb:¬9223372036854775807<o.size+I:=by omega
  go_wp2_with fail
  rw[<-HT.out];have a2:Hid ((eL o tn o.size).size<=2000):=kD (by rw[HT.out];simp only[ByteArray.size_extract];omega)
  generalize eL o tn o.size=t at *;have a8:=a7.alloc (.cells (fill (.int .u8 0) I) 5);have B4:Zr w (w3.alloc (.cells (fill (.int .u8 0) I) 5)):=B3.alloc B3.size _;have bp:=aq (W:=w3) bn ((kF _ _).alloc (kE _) (.cells (fill (.int .u8 0) I) 5));generalize w3.alloc (.cells (fill (.int .u8 0) I) 5)=w4 at *;rw[if_neg (by simp)]at S
  clear a7 B3 bn bK bG bT bb HT bk;go_wp2_with fail
  refine(z5Q t w4).mono ?_;rintro e w5 ⟨rfl,a1⟩;have b5:Blk w5 w4.heap.size 9 #[.string t]:=by rw[a1];exact zbn
  have U:Zr w4 w5:=by rw[a1];exact(kF _ _).alloc (kE _) _
  clear a1;go_wp2_with fail
  refine(z0d w4.heap.size t (by have:=a2.out;omega) w5 b5).mono ?_
  rintro e w6 ⟨v6,rfl,av,-,bc⟩;obtain⟨P,pc,rfl⟩:=aw av;have ac:Zr w4 w6:=U.trans (bc.nK U.size (by simp))
  obtain⟨hS,ba⟩:=StoreAt.mk0 (pc:=pc) (ps:=bh t) HH.out B4 a8 z1 bp bL ac (aI av U.size);have B6:Zr w w6:=B4.trans (ac.mono B4.size);have bQ:0<w.heap.size:=HH.out.dev.half.1;have br:=z3g w1.heap.size T w.heap.size F D y B x kd a3 c3 l P pc (bh t) hl (by rw[dL];unfold eO;have:=a2.out;omega) (fun p hp=>by have:=gX t p hp;omega) bQ (fun b hb=>(HH.out.tx.lt b hb).2) (fun b hb=>(HH.out.dev.lt b hb).2) w6 hS ba
  clear bc av b5 U ac hS ba bp a8 B4;go_wp2_with fail
  refine br.mono ?_;rintro e w7 ⟨v7,rfl,bq,F7,bt,g7,f7⟩;have ab:=StoreDid.done B6 bq bt g7 f7;clear br bq bt g7 f7;generalize y.store x kd l (bh t)=R at *;obtain⟨E,z,L⟩:=R;simp only at S ab |-
  go_wp2_with fail
  go_ret2
  exact⟨_,by rw[S.out];rfl,by rw[S.out];exact ab⟩
 all_goals
  have bB:=HH.out;generalize aQ y l size _ false=E at *;have HX:Hid (y.ni x kd l size to_=(E,y,[])):=kD (by rw[S.out,if_pos ao])
  have bD:(E != 0)=true:=by simpa using ao
  clear ao S;rcases bF with rfl|⟨A',c',rfl⟩
  all_goals
   go_wp2_with fail
   go_ret2
   have B3:=J.alloc J.size;exact⟨_,by rw[HX.out];rfl,by rw[HX.out];exact⟨World.ownsRow_nil _ _ _ _,F,bB.below (B3 _),Grow.of_below (B3 _) F,fun q hq=>by cases hq⟩⟩
def Agree (x x':DevS)(s j:Int):Prop:=∀a,(a=0\/2+j<=a)->a<s->x.ge a=x'.ge a/\x.fr a=x'.fr a
theorem z7X (s j i b:Int):dn s j i b=0\/2+j<=dn s j i b:=by
 unfold dn;split
 ·rename_i h
  unfold jR at h;split at h
  ·rename_i c
   split at h
   ·cases h
   ·have A:=(ir c).2.2.2.1;have D:=de c;have I:=(ir c).2.2.2.2;right;omega
  ·rename_i c;exact absurd h c
 ·exact .inl rfl
theorem z27 {x c:DevS}{y:TxS}(h:Agree x c y.s y.j)(kd b:Int):y.part x kd b=y.part c kd b:=by
 have e:y.read x (dn y.s y.j y.i b)=y.read c (dn y.s y.j y.i b):=by
  unfold TxS.read;split
  ·rfl
  ·split
   ·rfl
   ·rename_i D I
    have A:=h (dn y.s y.j y.i b) (z7X _ _ _ _) (by omega)
    unfold TxS.ou;rw[A.1,A.2]
 unfold TxS.part;rw[e]
theorem z07 {x c:DevS}{y:TxS}(h:Agree x c y.s y.j)(kd:Int)(l:List Int)(size a b:Int):y.text x kd l size a b=y.text c kd l size a b:=by
 have e:∀k,cO y x kd size a b l k=cO y c kd size a b l k:=by
  intro k;induction k with
  | zero=>rfl
  | succ k ih=>unfold cO;rw[ih,z27 h]
 exact e _
theorem Agree.same {x A:DevS}{y z:TxS}(h:Agree x A y.s y.j)(c:z.Same y):Agree x A z.s z.j:=by rw[c.1,c.2.1];exact h
theorem z7g {x c:DevS}{y:TxS}(h:Agree x c y.s y.j)(kd:Int)(l:List Int)(ps:List ByteArray)(k:Nat):y.puts x kd l ps k=y.puts c kd l ps k:=by
 induction k with
 | zero=>rfl
 | succ k ih=>unfold TxS.puts;rw[ih,z27 (h.same (TxS.oV _ _ _ _ _ _))]
theorem TxS.pF (y:TxS)(l:List Int)(n:Nat):(y.fit l n).2.1.Same y:=by
 unfold TxS.fit;split
 ·exact TxS.pU _ _
 ·split
  ·exact TxS.take_same _ _ _
  ·exact⟨rfl,rfl,rfl⟩
theorem z1A {x c:DevS}{y:TxS}(h:Agree x c y.s y.j)(kd:Int)(l:List Int)(ps:List ByteArray):y.store x kd l ps=y.store c kd l ps:=by
 unfold TxS.store;rw[z7g (h.same (TxS.pF _ _ _))]
theorem z0W {x c:DevS}{y:TxS}(h:Agree x c y.s y.j)(kd:Int)(l:List Int)(size a b:Int):y.mZ x kd l size a b=y.mZ c kd l size a b:=by
 unfold TxS.mZ;rw[z07 h]
theorem z0f {x c:DevS}{y:TxS}(h:Agree x c y.s y.j)(kd:Int)(l:List Int)(size a:Int)(s:ByteArray):y.mJ x kd l size a s=y.mJ c kd l size a s:=by
 unfold TxS.mJ;rw[z07 h,z1A h]
theorem z1U {x c:DevS}{y:TxS}(h:Agree x c y.s y.j)(kd:Int)(l:List Int)(size a:Int):y.ni x kd l size a=y.ni c kd l size a:=by
 unfold TxS.ni;rw[z07 h,z1A h]
theorem TxS.pq (y:TxS)(x:DevS)(kd:Int)(l:List Int)(ps:List ByteArray):(y.store x kd l ps).2.1.Same y:=by
 unfold TxS.store;split
 ·exact TxS.pF _ _ _
 ·split<;>exact(TxS.oV _ _ _ _ _ _).trans (TxS.pF _ _ _)
theorem TxS.oZ (y:TxS)(x:DevS)(kd:Int)(l:List Int)(size a:Int)(s:ByteArray):(y.mJ x kd l size a s).2.1.Same y:=by
 unfold TxS.mJ;split
 ·exact⟨rfl,rfl,rfl⟩
 ·split
  ·exact⟨rfl,rfl,rfl⟩
  ·split<;>exact TxS.pq _ _ _ _ _
theorem TxS.pJ (y:TxS)(x:DevS)(kd:Int)(l:List Int)(size a:Int):(y.ni x kd l size a).2.1.Same y:=by
 unfold TxS.ni;split
 ·exact⟨rfl,rfl,rfl⟩
 ·split
  ·exact⟨rfl,rfl,rfl⟩
  ·exact TxS.pq _ _ _ _ _
def fz (c:Int)(n:Nat):ByteArray:=strOfNums (List.replicate n c)
def aw1 (x:DevS):Int × TxS × List Int × Int:=yA.mJ x 8 [] 0 0 (fz 97 100)
def aw2 (x:DevS):ByteArray × Int:=(aw1 x).2.1.mZ x 8 [0,1] 100 94 9
def aw3 (x:DevS):Int × TxS × List Int × Int:=(aw1 x).2.1.mJ x 8 [0,1] 100 96 ⟨#[98,98]⟩
def aw4 (x:DevS):Int × TxS × List Int:=(aw3 x).2.1.ni x 8 [0,1] 100 3
def aw5 (x:DevS):Int × TxS × List Int:=(aw4 x).2.1.ni x 8 [0] 3 5
def aw6 (x:DevS):ByteArray × Int:=(aw5 x).2.1.mZ x 8 [0] 5 0 768
theorem z8d:(aw1 (aV 64)).1=0/\(aw1 (aV 64)).2.2.1=[0,1]/\(aw1 (aV 64)).2.2.2=100/\aw2 (aV 64)=(⟨#[97,97,97,97,97,97]⟩,0)/\(aw3 (aV 64)).1=0/\(aw3 (aV 64)).2.2.1=[0,1]/\(aw3 (aV 64)).2.2.2=100 /\
 (aw4 (aV 64)).1=0/\(aw4 (aV 64)).2.2=[0]/\(aw5 (aV 64)).1=0/\(aw5 (aV 64)).2.2=[0]/\aw6 (aV 64)=(⟨#[97,97,97,0,0]⟩,0):=by decide +kernel
theorem z4F {x:DevS}(hx:∀a,(a=0\/10<=a)->a<64->x.ge a=70):(aw1 x).1=0/\(aw1 x).2.2.1=[0,1]/\(aw1 x).2.2.2=100/\aw2 x=(⟨#[97,97,97,97,97,97]⟩,0)/\(aw3 x).1=0/\(aw3 x).2.2.1=[0,1]/\(aw3 x).2.2.2=100 /\
  (aw4 x).1=0/\(aw4 x).2.2=[0]/\(aw5 x).1=0/\(aw5 x).2.2=[0]/\aw6 x=(⟨#[97,97,97,0,0]⟩,0):=by
 have S:Agree x (aV 64) yA.s yA.j:=fun a c O=>by
  have A:x.ge a=70:=hx a c O;have D:(aV 64).ge a=70:=z41 (by omega) (by
   have V:a=0\/10<=a:=c;have Y:a<64:=O;omega)
  exact⟨A.trans D.symm,(z5U A).trans (z5U D).symm⟩
 have I:aw1 x=aw1 (aV 64):=z0f S _ _ _ _ _;have c:=S.same (TxS.oZ yA (aV 64) 8 [] 0 0 (fz 97 100));have T:aw2 x=aw2 (aV 64):=by unfold aw2;rw[I];exact z0W c _ _ _ _ _
 have J:aw3 x=aw3 (aV 64):=by unfold aw3;rw[I];exact z0f c _ _ _ _ _
 have A:=c.same (TxS.oZ (aw1 (aV 64)).2.1 (aV 64) 8 [0,1] 100 96 ⟨#[98,98]⟩);have K:aw4 x=aw4 (aV 64):=by unfold aw4;rw[J];exact z1U A _ _ _ _
 have D:=A.same (TxS.pJ (aw3 (aV 64)).2.1 (aV 64) 8 [0,1] 100 3);have M:aw5 x=aw5 (aV 64):=by unfold aw5;rw[K];exact z1U D _ _ _ _
 have h5:=D.same (TxS.pJ (aw4 (aV 64)).2.1 (aV 64) 8 [0] 3 5);have U:aw6 x=aw6 (aV 64):=by unfold aw6;rw[M];exact z0W h5 _ _ _ _ _
 rw[I,T,J,K,M,U];exact z8d
theorem fG (A Bl:Option Addr)(c d:Nat)(D lb:List Int)(a7:D.length<=100000)(a8:lb.length<=100000)(w:World)(hA:Reads w A (D.map (.int .i64)))(hB:Reads w Bl (lb.map (.int .i64))):
  Calls prog 39 #[.slice A D.length c,.slice Bl lb.length d] w (Zq (.bool (decide (D=lb))) w):=by
 by_cases U:D.length=lb.length
 rotate_left
 ·have hd:decide (D=lb)=false:=decide_eq_false fun e=>U (by rw[e])
  have V:=kD hd;have hq:((D.length:Int) != (lb.length:Int))=true:=by simp;omega
  clear hd U;go_enter func39,ntmps39
  go_wp2_with fail
  go_ret
  exact⟨by rw[V.out];rfl,kF _ _⟩
 ·have hq:((D.length:Int) != (lb.length:Int))=false:=by simp;omega
  have HL:=kD U;clear U;go_enter func39,ntmps39
  go_wp2_with fail
  go_loopw [5] (fun q wr=>∃k:Nat,k<=D.length/\q=.int .i64 k/\D.take k=lb.take k/\Zr w wr) (fun q _=>D.length - (intOf q).toNat)
  case atStart=>exact⟨0,kP _,rfl,by simp,kF _ _⟩
  case round=>
   obtain⟨k,hk,rfl,M,J⟩:=hrel;by_cases K:k<D.length
   ·have I:k<lb.length:=by have:=HL.out;omega
    obtain⟨b1,o1,rfl,a2,an⟩:=(hA.below J).at_ (k:=k) (by simpa using K)
    obtain⟨b2,o2,rfl,a6,ao⟩:=(hB.below J).at_ (k:=k) (by simpa using I)
    rw[lf]at an ao;have O:D.take (k+1)=D.take k++[D[k]]:=by rw[kZ K]
    have S:lb.take (k+1)=lb.take k++[lb[k]]:=by rw[kZ I]
    have Y:Hid (D[k]≠lb[k]->decide (D=lb)=false):=kD fun av=>decide_eq_false fun e=>av (by subst e;rfl)
    have HT:=kD M;have aL:=kD hA;have a1:=kD hB;have ab:=kD O;have ac:=kD S;generalize D[k]=x at *;generalize lb[k]=z at *;clear O S M hA hB;by_cases T:x=z
    ·subst T;go_wp2_with fail
     go_quiet (fail)
     go_wp2_with fail
     go_roundw
     case rel=>exact⟨k+1,by omega,by go_num,by rw[ab.out,ac.out,HT.out],aa J _⟩
     case measure=>simp[intOf];omega
    ·have hn:(x != z)=true:=by simpa using T
     have HF:=kD (Y.out T);clear T;go_wp2_with fail
     go_quiet (fail)
     go_wp2_with fail
     go_ret
     exact⟨by rw[HF.out];rfl,aa J _⟩
   ·obtain rfl:k=D.length:=by omega
    have V:Hid (decide (D=lb)=true):=kD (decide_eq_true (by rw[lj,HL.out,lj]at M;exact M))
    clear M;go_wp2_with fail
    go_ret
    exact⟨by rw[V.out];rfl,J⟩
def letK (c:Int)(n k:Nat):List Int:=List.replicate k c++List.replicate (n - k) 0
theorem zai (c:Int)(n k:Nat)(J:k<n):(letK c n k).set k c=letK c n (k+1):=by
 unfold letK;apply List.ext_getElem?
 intro i;by_cases D:i=k
 ·subst D;rw[List.getElem?_set_self (by simp;omega),mc (by simp),List.getElem?_replicate,if_pos (by omega)]
 ·rw[List.getElem?_set_ne (fun e=>D e.symm)]
  by_cases A:i<k
  ·rw[mc (by simpa using A),mc (by simp;omega),List.getElem?_replicate,List.getElem?_replicate,if_pos A,if_pos (by omega)]
  ·rw[ml (by simp;omega),ml (by simp;omega),List.getElem?_replicate,List.getElem?_replicate]
   simp only[m4];by_cases I:i<n
   ·rw[if_pos (by omega),if_pos (by omega)]
   ·rw[if_neg (by omega),if_neg (by omega)]
theorem z4Z (c:Int)(n:Nat)(hn:n<=1000)(w:World):
  Calls prog 76 #[.int .u8 c,.int .i64 n] w fun e V=>e=.returned (.string (fz c n))/\Zr w V:=by
 have K:=ku n (by omega) w
 have O:Hid (ag (letK c n 0)=fill (.int .u8 0) n):=kD (by unfold letK;rw[<-fZ];simp)
 have T:Hid (fz c n=strOfNums (letK c n n)):=kD (by unfold fz letK;simp)
 go_enter func76,ntmps76
 go_wp2_with fail
 clear K;go_loopw [6] (fun q wr=>∃k:Nat,k<=n/\q=.int .i64 k/\Blk wr w.heap.size 5 (ag (letK c n k))/\Zr w wr) (fun q _=>n - (intOf q).toNat)
 case atStart=>exact⟨0,kP _,rfl,by rw[O.out];exact zbn,(kF _ _).alloc (kE _) _⟩
 case round=>
  obtain⟨k,hk,rfl,b,M⟩:=hrel;have A:(letK c n k).length=n:=by unfold letK;simp;omega
  by_cases J:k<n
  ·have I:wr.cell? ⟨w.heap.size,k,none⟩=some (.int .u8 ((letK c n k).getD k 0)):=(b.cells k).trans (bv (by omega))
   have S:=kD (zai c n k J);have lB:=b.lt;have Y:=b.free k;have D:=kD b;generalize (letK c n k).getD k 0=z at I;clear b A;go_wp2_with fail
   go_roundw
   case rel=>exact⟨k+1,by omega,by go_num,by rw[<-S.out,<-dl];exact D.out.mG k _,M.setCell (p:=⟨w.heap.size,k,none⟩) (kE _) _⟩
   case measure=>simp[intOf];omega
  ·obtain rfl:k=n:=by omega
   have U:=dR (some ⟨w.heap.size,0,none⟩) k k (letK c k k) A wr (el b);clear b A;go_wp2_with fail
   go_ret
   exact⟨by rw[T.out];rfl,M⟩
def z7P (y:DevS)(w:World)(s j i:Int)(e:Ending)(w':World):Prop:=
 ∃D T F B,e=.returned (.tuple #[.pointer (some ⟨D,0,none⟩),.pointer (some ⟨T,0,none⟩)])/\Fresh y s j i 1000000/\TD w' T F D (ff s j i) B y/\Zr w w'/\(∀b∈F,w.heap.size<=b)/\∀b∈B,w.heap.size<=b
def z3q (w:World)(s j i:Int)(e:Ending)(w':World):Prop:=
 ∃D T F B y,e=.returned (.tuple #[.pointer (some ⟨D,0,none⟩),.pointer (some ⟨T,0,none⟩)])/\Fresh y s j i 1000000/\TD w' T F D (ff s j i) B y/\Zr w w'/\(∀b∈F,w.heap.size<=b)/\∀b∈B,w.heap.size<=b
theorem z0a (c:Nat)(j i:Int)(h:rgE c j i=0){y:DevS}(hy:(aV c).oC c j i=(0,y))(hF:Fresh y c j i 1000000)(w:World)(hH:HalfAt w):
  Calls prog 23 #[.agg #[.int .i64 c,.int .i64 j,.int .i64 i]] w (z7P y w c j i):=by
 obtain⟨wA,hA⟩:=zex (w.alloc (.cells #[.int .i64 c,.int .i64 j,.int .i64 i] 23));have bL:Blk wA w.heap.size 23 #[.int .i64 c,.int .i64 j,.int .i64 i]:=by rw[hA];exact zbn
 have BA:Zr w wA:=by rw[hA];exact zgr
 have ab:HalfAt wA:=hH.below BA hH.1;have ba:=de h;obtain⟨ac,an,a6⟩:=z0N h hF;have J:=zbB c (by omega) wA ab
 obtain⟨V,lL⟩:=bL.zc;have bb:=hH.1;have lA:=bL.lt;unfold z7P;go_enter func23,ntmps23
 go_wp2_with fail
 rw[<-hA];go_wp2_with fail
 refine J.mono ?_;rintro e w1 ⟨D,B0,rfl,ao,S,A⟩;have B1:=BA.trans (S.mono BA.size);have K:=bL.mD S;clear J V lL bL hA ab;obtain⟨V,lL⟩:=K.zc;go_wp2_with fail
 refine(z5A D c j i B0 (aV c) w1 ao).mono ?_;rintro e w2 ⟨rfl,B,I,g2⟩;rw[hy]at I |-;have av:w.heap.size∉B0:=fun hm=>by have:=A _ hm;omega
 have U:=g2.blk K av;have B2:Zr w w2:=B1.trans (g2.below B1.size fun b M=>by have:=A b M;omega)
 have a2:∀b∈B,w.heap.size<=b:=fun b M=>by
  rcases g2.new b M with h3|h3
  ·have:=A b h3;omega
  ·have:=B1.size;omega
 clear V lL K ao S g2 av A;obtain⟨V,lL⟩:=U.zc;have aL:=kD ac;have a1:=kD an;have HF:=kD hF;have Hh:=kD h;clear hy ac an hF h;go_wp2_with fail
 refine(z8g D c j i B y w2 I a6).mono ?_;rintro e w3 ⟨O,E,hE,⟨h5,-⟩|⟨-,T,F,rfl,ht,Y⟩⟩
 ·exact absurd ((aL.out E).1 hE) h5
 rw[a1.out]at ht;have B3:=B2.trans (O.mono B2.size);have a7:=I.below O;have a8:=I.lt;clear V lL U O hE;go_wp2_with fail
 go_ret2
 exact⟨D,T,F,B,rfl,HF.out,⟨ht,a7,fun b M hm=>by have:=Y b M;have:=(a8 b hm).2;omega⟩,B3,fun b M=>by have:=Y b M;have:=B2.size;omega,a2⟩
theorem z4G (c:Nat)(j i:Int)(h:rgE c j i=0)(w:World)(J:HalfAt w):
  Calls prog 23 #[.agg #[.int .i64 c,.int .i64 j,.int .i64 i]] w (z3q w c j i):=by
 obtain⟨y,A,I⟩:=z0h h 1000000 (by omega)
 rw[lO]at A;refine(z0a c j i h A I w J).mono ?_;rintro e K ⟨D,T,F,B,h⟩;exact⟨D,T,F,B,y,h⟩
structure Keeps (w:World)(F:List Nat)(A:Option Addr)(c:Nat)(l:List Int):Prop where
 sl:SlI w A c l
 out:∀a,A=some a->a.block∉F/\a.block<w.heap.size
theorem Keeps.grow {w w':World}{F F':List Nat}{A:Option Addr}{c:Nat}{l:List Int}(h:Keeps w F A c l)(g:Grow w F w' F'):Keeps w' F' A c l:=
 ⟨⟨h.sl.reads.qj g fun a e=>(h.out a e).1,h.sl.nil,h.sl.cap⟩,fun a e=>⟨g.og (h.out a e).1 (h.out a e).2,lh (h.out a e).2 g.keep.size⟩⟩
theorem Keeps.below {w w':World}{F:List Nat}{A:Option Addr}{c:Nat}{l:List Int}(h:Keeps w F A c l)(D:Zr w w'):Keeps w' F A c l:=
 ⟨h.sl.below D,fun a e=>⟨(h.out a e).1,lh (h.out a e).2 D.size⟩⟩
theorem Keeps.oL {w':World}{base:Nat}{F':List Nat}{v:Value}{l:List Int}(D:w'.ownsRow base 3 1 v l.length (l.map (.int .i64)))(I:∀q,v.ownBlock=some q->q∉F'):∃A c,v=.slice A l.length c/\Keeps w' F' A c l:=by
 obtain⟨A,c,rfl,J⟩:=SlI.ng D;exact⟨A,c,rfl,J,fun a e=>by subst e;exact⟨I a.block rfl,(ce D a.block rfl).2⟩⟩
theorem Grow.lo {w w':World}{F F':List Nat}{n:Nat}(g:Grow w F w' F')(D:n<=w.heap.size)(c:∀b∈F,n<=b):∀b∈F',n<=b:=fun b A=>by
 rcases g.new b A with h|h
 ·exact c b h
 ·omega
theorem z9A (w:World):SlI w none 0 []:=⟨.inl rfl,by simp,by simp⟩
theorem z2K (c:Int)(n:Nat):(fz c n).size=n:=by unfold fz;rw[strOfNums_size];simp
def z3p (w:World)(e:Ending)(w':World):Prop:=e=.returned (.bool true)/\Zr w w'
theorem z3C (w:World)(hH:HalfAt w):Calls prog 22 #[] w (z3p w):=by
 have bL:Calls prog 23 #[.agg #[.int .i64 64,.int .i64 8,.int .i64 40]] w (z3q w 64 8 40):=z4G 64 8 40 (by decide) w hH
 unfold z3p;go_enter func22,ntmps22
 go_wp2_with fail
 refine bL.mono ?_;rintro e w1 ⟨D,T,F1,B,y,rfl,hF,h1,B1,bc,bQ⟩;rw[show ff 64 8 40=yA from by unfold ff yA;rw[show (rgB 64 8 40).toNat=14 from by decide]]at h1
 obtain⟨a1,a2,a3,a4,a5,a6,a7,a8,a9,bA,bB,bC⟩:=z4F (x:=y) (fun a h1 h2=>hF.blank a (by rcases h1 with h|h;exact .inl h;exact .inr (by omega)) h2)
 have bM:=z4Z 97 100 (by omega) w1
 clear bL hF;go_wp2_with fail
 refine bM.mono ?_;rintro e w2 ⟨rfl,bp⟩;have h2:=h1.below bp;have B2:=B1.trans (bp.mono B1.size);have c1:Calls prog 75 #[.pointer (some ⟨T,0,none⟩),.int .i64 8,.slice none 0 0,.int .i64 0,.int .i64 0,.string (fz 97 100)] w2 (z7Q w2 T F1 D B y (aw1 y)):=
  z0Y T F1 D yA B y 8 none 0 [] (by simp) 0 0 (fz 97 100) (by rw[z2K];omega) (by omega) (by omega) w2 h2 (z9A w2)
 clear bM bp h1 B1;go_wp2_with fail
 refine c1.mono ?_;rintro e w3 ⟨v3,U,bq,F3,h3,g3,f3⟩;rw[a1,a3]at U;rw[a2]at bq;subst U;obtain⟨A3,c3,rfl,k3⟩:=Keeps.oL bq f3;have B3:=B2.trans (g3.below B2.size bc);have bk:=g3.lo B2.size bc;clear c1 h2 B2 bq f3 g3 a1 a2 a3;have c2:Calls prog 77 #[.pointer (some ⟨T,0,none⟩),.int .i64 8,.slice A3 2 c3,.int .i64 100,.int .i64 94,.int .i64 9] w3 fun e V=>e=.returned (.tuple #[.string (aw2 y).1,.int .i64 (aw2 y).2])/\Zr w3 V:=
  z2A T F3 D (aw1 y).2.1 B y 8 A3 c3 [0,1] (by simp) 100 94 9 (by omega) w3 h3.tx h3.dev k3.sl
 rw[a4]at c2;go_wp2_with fail
 refine c2.mono ?_;rintro e w4 ⟨rfl,Y⟩;have h4:=h3.below Y;have k4:=k3.below Y;have B4:=B3.trans (Y.mono B3.size);clear c2 h3 k3 B3 Y;have bD:Calls prog 75 #[.pointer (some ⟨T,0,none⟩),.int .i64 8,.slice A3 2 c3,.int .i64 100,.int .i64 96,.string ⟨#[98,98]⟩] w4 (z7Q w4 T F3 D B y (aw3 y)):=
  z0Y T F3 D (aw1 y).2.1 B y 8 A3 c3 [0,1] (by simp) 100 96 ⟨#[98,98]⟩ (by decide) (by omega) (by omega) w4 h4 k4.sl
 go_wp2_with fail
 refine bD.mono ?_;rintro e w5 ⟨v5,U,br,F5,h5,g5,f5⟩;rw[a5,a7]at U;rw[a6]at br;subst U;obtain⟨A5,c5,rfl,m5⟩:=Keeps.oL br f5;have k5:=k4.grow g5;have B5:=B4.trans (g5.below B4.size bk);have bn:=g5.lo B4.size bk;clear bD h4 k4 B4 br f5 g5 a4 a5 a6 a7;have c4:Calls prog 78 #[.pointer (some ⟨T,0,none⟩),.int .i64 8,.slice A5 2 c5,.int .i64 100,.int .i64 3] w5 (z3r w5 T F5 D B y (aw4 y)):=
  z4M T F5 D (aw3 y).2.1 B y 8 A5 c5 [0,1] (by simp) 100 3 (by omega) w5 h5 m5.sl
 go_wp2_with fail
 refine c4.mono ?_;rintro e w6 ⟨v6,U,bt,F6,h6,g6,f6⟩;rw[a8]at U;rw[a9]at bt;subst U;obtain⟨A6,c6,rfl,n6⟩:=Keeps.oL bt f6;have k6:=k5.grow g6;have m6:=m5.grow g6;have B6:=B5.trans (g6.below B5.size bn);have bK:=g6.lo B5.size bn;clear c4 h5 k5 m5 B5 bt f6 g6 a8 a9;have bF:Calls prog 78 #[.pointer (some ⟨T,0,none⟩),.int .i64 8,.slice A6 1 c6,.int .i64 3,.int .i64 5] w6 (z3r w6 T F6 D B y (aw5 y)):=
  z4M T F6 D (aw4 y).2.1 B y 8 A6 c6 [0] (by simp) 3 5 (by omega) w6 h6 n6.sl
 go_wp2_with fail
 refine bF.mono ?_;rintro e w7 ⟨v7,U,bu,F7,h7,g7,f7⟩;rw[bA]at U;rw[bB]at bu;subst U;obtain⟨A7,c7,rfl,p7⟩:=Keeps.oL bu f7;have k7:=(k6.grow g7).sl;have m7:=(m6.grow g7).sl;have n7:=(n6.grow g7).sl;have B7:=B6.trans (g7.below B6.size bK);have d7:=p7.sl;clear bF h6 k6 m6 n6 B6 bu f7 g7 bA bB;have bb:Calls prog 77 #[.pointer (some ⟨T,0,none⟩),.int .i64 8,.slice A7 1 c7,.int .i64 5,.int .i64 0,.int .i64 768] w7 fun e V=>e=.returned (.tuple #[.string (aw6 y).1,.int .i64 (aw6 y).2])/\Zr w7 V:=
  z2A T F7 D (aw5 y).2.1 B y 8 A7 c7 [0] (by simp) 5 0 768 (by omega) w7 h7.tx h7.dev d7
 rw[bC]at bb;go_wp2_with fail
 refine bb.mono ?_;rintro e w8 ⟨rfl,O⟩;have k8:=k7.below O;have m8:=m7.below O;have n8:=n7.below O;have d8:=d7.below O;have B8:=B7.trans (O.mono B7.size);clear bb k7 m7 n7 d7 h7 p7 B7 O bC bc bk bn bK bQ;obtain⟨w9,ab⟩:=zex (w8.alloc (.cells #[.int .i64 0,.int .i64 1] 3));have b9:Zr w8 w9:=by rw[ab];exact zgr
 have r9:Reads w9 (some ⟨w8.heap.size,0,none⟩) ([0,1].map (.int .i64)):=by
  have:=Blk.new w8 3 #[.int .i64 0,.int .i64 1]
  rw[<-ab]at this;exact .inr ⟨_,0,rfl,this.lt,fun k u hu=>by rw[ld];exact(this.cells k).trans (by simpa using hu)⟩
 have HW:=kD ab;clear ab;go_wp2_with fail
 rw[<-HW.out];have s1:Calls prog 39 #[.slice A3 2 c3,.slice (some ⟨w8.heap.size,0,none⟩) 2 2] w9 fun e V=>e=.returned (.bool true)/\Zr w9 V:=by
  simpa using fG A3 (some ⟨w8.heap.size,0,none⟩) c3 2 [0,1] [0,1] (by simp) (by simp) w9 (k8.below b9).reads r9
 refine s1.mono ?_;rintro e ac ⟨rfl,c⟩;have av:=B8.trans ((b9.trans (c.mono b9.size)).mono B8.size);have s2:Calls prog 39 #[.slice A5 2 c5,.slice A3 2 c3] ac fun e V=>e=.returned (.bool true)/\Zr ac V:=by
  simpa using fG A5 A3 c5 c3 [0,1] [0,1] (by simp) (by simp) ac (((m8.below b9).below c).reads) (((k8.below b9).below c).reads)
 have bN:=(n8.below b9).below c;have bG:=(d8.below b9).below c;clear s1 HW r9 c k8 m8 n8 d8 b9 B8;go_wp2_with fail
 refine s2.mono ?_;rintro e A ⟨rfl,I⟩;have aL:=av.trans (I.mono av.size);have bw:=bN.below I;have bJ:=bG.below I;obtain⟨S,K⟩:=zex (A.alloc (.cells #[.int .i64 0] 3));have M:Zr A S:=by rw[K];exact zgr
 have bO:Reads S (some ⟨A.heap.size,0,none⟩) ([0].map (.int .i64)):=by
  have:=Blk.new A 3 #[.int .i64 0]
  rw[<-K]at this;exact .inr ⟨_,0,rfl,this.lt,fun k u hu=>by rw[ld];exact(this.cells k).trans (by simpa using hu)⟩
 have HW:=kD K;clear s2 K bN bG av I;go_wp2_with fail
 rw[<-HW.out];have s3:Calls prog 39 #[.slice A6 1 c6,.slice (some ⟨A.heap.size,0,none⟩) 1 1] S fun e V=>e=.returned (.bool true)/\Zr S V:=by
  simpa using fG A6 (some ⟨A.heap.size,0,none⟩) c6 1 [0] [0] (by simp) (by simp) S (bw.below M).reads bO
 refine s3.mono ?_;rintro e an ⟨rfl,J⟩;have ba:=aL.trans ((M.trans (J.mono M.size)).mono aL.size);have s4:Calls prog 39 #[.slice A7 1 c7,.slice A6 1 c6] an fun e V=>e=.returned (.bool true)/\Zr an V:=by
  simpa using fG A7 A6 c7 c6 [0] [0] (by simp) (by simp) an (((bJ.below M).below J).reads) (((bw.below M).below J).reads)
 clear s3 HW bO J bw bJ M aL;go_wp2_with fail
 refine s4.mono ?_;rintro e bR ⟨rfl,ao⟩;have bP:=ba.trans (ao.mono ba.size);clear s4 ao ba;go_wp2_with fail
 go_ret
 exact⟨rfl,bP⟩
open Go.ChangeShapes Go.WideShapes Go.ChangeAt Go.Joins Go.Deep
theorem Tryz.own:ownKnob prog.godebug=none:=by kernel_rfl
theorem Tryz.laidOut:laidOutB prog=true:=by kernel_rfl
theorem gHalf : prog.globalNamed "limewash/sums.half" = some 0 := by kernel_rfl
def half1 : List (String × DataW Unit) := [("limewash/sums.half", Rows.laid_limewash_sums_half)]
theorem za3 (os:Os)(args:Array Value):laidMetH prog half1 ((World.doorLaid prog 400 os).forCall (fun _ _=>0) ⟨#[],args,[]⟩).memory:=
 laidMetH_of_parts3 (fuel:=8) (laidMet_of_run' 8 (by kernel_rfl) (by kernel_rfl)) (by kernel_rfl) (by kernel_rfl)
theorem gHalfType:(prog.globals[0]?).map (·.type)=some 332:=by kernel_rfl
theorem z3V {W:World}(h:laidMetH prog half1 W):HalfAt W:=by
 rw[MakeChecks.laidMetH_plain _ _ _ (by kernel_rfl)]at h
 have hT : Lib.TabIs prog W "limewash/sums.half" .u32 halfL := Lib.tabIs_of_head (n := 16) (e := 188) gHalf gHalfType (by kernel_rfl) (by kernel_rfl) (by kernel_rfl) (by kernel_rfl) h
 have c:∀j,j<16->W.cell? ⟨0,j,none⟩=some (.int .u32 (halfL.getD j 0)):=fun j A=>hT.cell gHalf j A
 exact⟨block_lt_of_cell (c 0 (by omega)),c⟩
theorem Tryz.qg:prog.cellsOf 65=2:=by kernel_rfl
section
variable {H:Type}{enc:TypeId × Value->H}{W:World}
theorem z7d {r:Reach}{V:Nat}{v:Value}{d:DataW H}{p:List MemPlace}(hv:Value.okWide prog W r V 65 v)(h:DataW.Trod enc prog W 0 (fun _=>true) true 65 v d p):
  ∃j i:Int,v=.agg #[.int .u8 j,.int .u8 i]/\(0<=j/\j<=255)/\(0<=i/\i<=255):=by
 obtain⟨Y,rfl,A⟩:=okWide_struct underlying65 hv;rw[Tryz.qg]at A;obtain⟨T⟩:=Y;obtain⟨fuel,hf⟩:=h;have D:DataW.trod enc prog W 0 (fun _=>true) true fuel 65 T=some (d,p):=by simpa[Value.cells]using hf
 match T,A with
 | [c0,c1],_=>
  obtain⟨J,n,_,_,_,c,I⟩:=DataW.trod_struct underlying65 D;have O:DataW.trod enc prog W 0 (fun _=>true) true n 5 [c0]=J[0]?:=by have:=I 0 _ rfl;simpa[Tryz.o6,Value.cells]using this
  have S:DataW.trod enc prog W 0 (fun _=>true) true n 5 [c1]=J[1]?:=by have:=I 1 _ rfl;simpa[Tryz.o6,Value.cells]using this
  clear I;match J,c with
  | [y0,y1],_=>
   simp only[mw,mr]at O S;obtain⟨a0,K,_,w0⟩:=DataW.trod_int underlying5 O;obtain⟨U,M,_,w1⟩:=DataW.trod_int underlying5 S;simp at K M
   subst K M;exact⟨a0,U,rfl,jQ w0,jQ w1⟩
theorem z91 {r:Reach}{I:Nat}{v:Value}{d:DataW H}{p:List MemPlace}(U:Value.okWide prog W r I 66 v)(h:DataW.Trod enc prog W 0 (fun _=>true) true 66 v d p):
  ∃(A:Option Addr) (c:Nat) (D:List ActV),v=.slice A D.length c/\Reads W A (D.flatMap actL)/\(∀a∈D,ActOk W a)/\D.length<=maxLen:=by
 obtain⟨a0,V,J,rfl⟩:=okWide_slice underlying66 U;obtain⟨fuel,T⟩:=h;obtain⟨A,n,c,D,K,M,O,S,Y,h6,-⟩:=z90 (v:=.slice a0 V J) (by simpa[Value.cells]using T)
 subst M;exact⟨A,c,D,K,O,S,by omega⟩
end
def iO (r:Nat):Nat:=if r % 2=1 then (r / 2) ^^^ 3988292384 else r / 2
def jU (r:Nat):Nat->Nat
 | 0=>r
 | k+1=>iO (jU r k)
theorem z0w (a b:Nat):iO (a ^^^ b)=iO a ^^^ iO b:=by
 have I:(a ^^^ b) / 2=a / 2 ^^^ b / 2:=Nat.xor_div_two;have D:(a ^^^ b) % 2=1↔¬(a % 2=1↔b % 2=1):=Nat.xor_mod_two_eq_one;unfold iO;rw[I];by_cases A:a % 2=1
 ·by_cases c:b % 2=1
  ·rw[if_neg (by rw[D];simp[A,c]),if_pos A,if_pos c,Nat.xor_assoc,Nat.xor_comm (b / 2) 3988292384,<-Nat.xor_assoc 3988292384,Nat.xor_self,Nat.zero_xor]
  ·rw[if_pos (by rw[D];simp[A,c]),if_pos A,if_neg c,Nat.xor_assoc,Nat.xor_comm (b / 2),<-Nat.xor_assoc]
 ·by_cases c:b % 2=1
  ·rw[if_pos (by rw[D];simp[A,c]),if_neg A,if_pos c,Nat.xor_assoc]
  ·rw[if_neg (by rw[D];simp[A,c]),if_neg A,if_neg c]
theorem jy (a:Nat):iO (2*a)=a:=by
 unfold iO;rw[if_neg (by omega)]
 omega
theorem z9L (q n:Nat)(O:n<16):(16*q) ^^^ n=16*q+n:=by
 have st:∀m k,(2*m) ^^^ k=2*(m ^^^ k / 2)+k % 2:=fun m k=>by
  have M:((2*m) ^^^ k) / 2=(2*m) / 2 ^^^ k / 2:=Nat.xor_div_two;have I:((2*m) ^^^ k) % 2=1↔¬((2*m) % 2=1↔k % 2=1):=Nat.xor_mod_two_eq_one;rw[show (2*m) / 2=m by omega]at M
  have A:((2*m) ^^^ k) % 2=k % 2:=by
   by_cases c:k % 2=1
   ·rw[I.2 (fun h=>by have:=h.2 c;omega),c]
   ·have:¬((2*m) ^^^ k) % 2=1:=fun h=>(I.1 h) ⟨fun h=>by omega,fun h=>absurd h c⟩
    omega
  omega
 have J:=st (8*q) n;have A:=st (4*q) (n / 2);have K:=st (2*q) (n / 2 / 2);have D:=st q (n / 2 / 2 / 2);rw[show n / 2 / 2 / 2 / 2=0 by omega,Nat.xor_zero]at D
 rw[show 16*q=2*(8*q) by omega,J,show 8*q=2*(4*q) by omega,A,show 4*q=2*(2*q) by omega,K,D]
 omega
def halfN:List Nat:=[0x00000000,0x1db71064,0x3b6e20c8,0x26d930ac,0x76dc4190,0x6b6b51f4,0x4db26158,0x5005713c,0xedb88320,0xf00f9344,0xd6d6a3e8,0xcb61b38c,0x9b64c2b0,0x86d3d2d4,0xa00ae278,0xbdbdf21c]
theorem zd4 (r:Nat):iO (iO (iO (iO r)))=halfN.getD (r % 16) 0 ^^^ (r / 16):=by
 obtain⟨q,n,c,rfl⟩:∃q n,n<16/\r=16*q+n:=⟨r / 16,r % 16,by omega,by omega⟩
 rw[show (16*q+n) % 16=n by omega,show (16*q+n) / 16=q by omega,<-z9L q n c]
 rw[z0w,z0w,z0w,z0w,show 16*q=2*(8*q) by omega,jy,show 8*q=2*(4*q) by omega,jy,show 4*q=2*(2*q) by omega,jy,jy,Nat.xor_comm]
 congr 1
 have h:n=0\/n=1\/n=2\/n=3\/n=4\/n=5\/n=6\/n=7\/n=8\/n=9\/n=10\/n=11\/n=12\/n=13\/n=14\/n=15:=by omega
 rcases h with rfl|rfl|rfl|rfl|rfl|rfl|rfl|rfl|rfl|rfl|rfl|rfl|rfl|rfl|rfl|rfl
 all_goals decide
theorem z7M (x y:Nat)(A:x<4294967296)(D:y<4294967296):bits .xor .u32 (x:Int) (y:Int)=((x ^^^ y:Nat):Int):=by
 have h:bits .xor .u32 (x:Int) (y:Int)=IntKind.u32.wrap ((BitVec.ofInt 32 (x:Int) ^^^ BitVec.ofInt 32 (y:Int)).toNat:Int):=rfl;have c:x ^^^ y<2 ^ 32:=Nat.xor_lt_two_pow (by omega) (by omega)
 rw[h,BitVec.toNat_xor,BitVec.ofInt_natCast,BitVec.ofInt_natCast,BitVec.toNat_ofNat,BitVec.toNat_ofNat,lY (by omega),lY (by omega),IntKind.wrap_u32']
 omega
theorem zd3 (x:Nat)(c:x<4294967296):bits .and .u32 (x:Int) 15=((x % 16:Nat):Int):=by
 have h:bits .and .u32 (x:Int) 15=IntKind.u32.wrap ((BitVec.ofInt 32 (x:Int) &&& BitVec.ofInt 32 ((15:Nat):Int)).toNat:Int):=rfl;rw[h,BitVec.toNat_and,BitVec.ofInt_natCast,BitVec.ofInt_natCast,BitVec.toNat_ofNat,BitVec.toNat_ofNat,lY (by omega),lY (by omega),show (15:Nat)=2 ^ 4 - 1 from rfl,Nat.and_two_pow_sub_one_eq_mod,IntKind.wrap_u32']
 omega
theorem zaa (n:Nat)(c:n<16):halfN.getD n 0<4294967296/\halfL.getD n 0=(halfN.getD n 0:Nat):=by
 have h:n=0\/n=1\/n=2\/n=3\/n=4\/n=5\/n=6\/n=7\/n=8\/n=9\/n=10\/n=11\/n=12\/n=13\/n=14\/n=15:=by omega
 rcases h with rfl|rfl|rfl|rfl|rfl|rfl|rfl|rfl|rfl|rfl|rfl|rfl|rfl|rfl|rfl|rfl
 all_goals decide
theorem z0Q {r:Nat}(h:r<4294967296):iO r<4294967296:=by
 unfold iO;split
 ·exact Nat.xor_lt_two_pow (n:=32) (by show _<4294967296;omega) (by decide)
 ·omega
theorem zb5 (x:Nat)(A:x<4294967296):nib (x:Int)=((iO (iO (iO (iO x))):Nat):Int):=by
 have c:=zaa (x % 16) (by omega)
 unfold nib;rw[zd3 x A,lO,c.2,show ((x:Int) / 16)=((x / 16:Nat):Int) by omega,z7M _ _ c.1 (by omega),zd4]
theorem z8m (x c:Nat)(I:x<4294967296)(J:c<256):crcB (x:Int) (c:Int)=((jU (x ^^^ c) 8:Nat):Int):=by
 have A:x ^^^ c<4294967296:=Nat.xor_lt_two_pow (n:=32) (by show _<4294967296;omega) (by show _<4294967296;omega)
 have D:=z0Q (z0Q (z0Q (z0Q A)));unfold crcB;rw[z7M x c I (by omega),zb5 _ A,zb5 _ D]
 rfl
theorem z2w {r:Nat}(h:r<4294967296)(k:Nat):jU r k<4294967296:=by
 induction k with
 | zero=>exact h
 | succ k ih=>exact z0Q ih
theorem z9o (x c:Int)(hx:0<=x/\x<4294967296)(hc:0<=c/\c<256)(w:World):
  Calls prog 253 #[.int .u32 x,.int .u8 c] w fun e w'=>e=.returned (.int .u32 (crcB x c))/\w'=w:=by
 obtain⟨x,rfl⟩:∃n:Nat,x=n:=⟨x.toNat,by omega⟩
 obtain⟨c,rfl⟩:∃n:Nat,c=n:=⟨c.toNat,by omega⟩
 rw[z8m x c (by omega) (by omega)]
 have Y:=z7M x c (by omega) (by omega)
 have S:x ^^^ c<4294967296:=Nat.xor_lt_two_pow (n:=32) (by show _<4294967296;omega) (by show _<4294967296;omega)
 have T:(c:Int) % 4294967296=c:=by omega
 have K:∀k,((jU (x ^^^ c) (k+1):Nat):Int)=if jU (x ^^^ c) k % 2=1 then bits .xor .u32 ((jU (x ^^^ c) k:Nat) / 2:Int) 3988292384 else ((jU (x ^^^ c) k:Nat) / 2:Int):=fun k=>by
  have hk:=z2w S k;show ((iO (jU (x ^^^ c) k):Nat):Int)=_
  unfold iO;split
  ·rename_i h
   rw[<-z7M _ 3988292384 (by omega) (by decide)]
   rfl
  ·omega
 have D:∀k,jU (x ^^^ c) k<4294967296:=z2w S;generalize I:jU (x ^^^ c)=f at *;have U:((f 0:Nat):Int)=((x ^^^ c:Nat):Int):=by rw[<-I];rfl
 clear I S;have O:=kD K;have M:=kD D;clear K D;go_enter func253,ntmps253
 go_wp2_with fail
 go_loopw [0,5] (fun r q wr=>∃k:Nat,k<=8/\q=.int .i64 k/\r=.int .u32 ((f k:Nat):Int)/\wr=w) (fun _ q _=>8 - (intOf q).toNat)
 case atStart=>exact⟨0,by omega,rfl,by rw[U,<-Y];try rw[T],rfl⟩
 case round=>
  obtain⟨k,hk,rfl,rfl,hw⟩:=hrel;subst hw;by_cases D:k<8
  ·have J:=O.out k;have hb:=M.out k;generalize f k=r at J hb;by_cases A:r % 2=1
   ·rw[if_pos A]at J;have V:(r:Int) % 2=1:=by omega
    go_wp2_with fail
    go_roundw
    case rel=>exact⟨k+1,by omega,by go_num,by rw[J],by first|trivial|rfl⟩
    case measure=>simp[intOf];omega
   ·rw[if_neg A]at J;have V:¬(r:Int) % 2=1:=by omega
    go_wp2_with fail
    go_roundw
    case rel=>exact⟨k+1,by omega,by go_num,by rw[J],by first|trivial|rfl⟩
    case measure=>simp[intOf];omega
  ·obtain rfl:k=8:=by omega
   go_wp2_with fail
   go_ret
   exact⟨rfl,rfl⟩
theorem zbZ (A:Option Addr)(c:Nat)(xs:List Int)(hl:xs.length<=100000)(K:bj xs)(w:World)(hX:Reads w A (xs.map (.int .u8))):
  Calls prog 245 #[.int .u32 0,.slice A xs.length c] w fun e Y=>e=.returned (.int .u32 (crc xs))/\Y=w:=by
 have M:∀k,k<=xs.length->0<=crcL 4294967295 (xs.take k)/\crcL 4294967295 (xs.take k)<4294967296:=fun k=>by
  induction k with
  | zero=>intro _;exact(by decide:(0:Int)<=4294967295/\(4294967295:Int)<4294967296)
  | succ k ih=>
   intro S;rw[z0R _ _ k S];have h:=ih (by omega)
   have hy:=K _ (li S);generalize crcL 4294967295 (xs.take k)=q at h;generalize xs[k]=y at hy;obtain⟨q,rfl⟩:∃n:Nat,q=n:=⟨q.toNat,by omega⟩
   obtain⟨y,rfl⟩:∃n:Nat,y=n:=⟨y.toNat,by omega⟩
   have hq:q ^^^ y<4294967296:=Nat.xor_lt_two_pow (n:=32) (by show _<4294967296;omega) (by show _<4294967296;omega)
   rw[z8m q y (by omega) (by omega)]
   have:=z2w hq 8
   omega
 have ab:bits BinOp.xor IntKind.u32 0 4294967295=4294967295:=by decide
 have O:∀x:Int,0<=x/\x<4294967296->bits BinOp.xor IntKind.u32 x 4294967295=bits .xor .u32 IntKind.u32.max x:=fun x hx=>by
  obtain⟨x,rfl⟩:∃n:Nat,x=n:=⟨x.toNat,by omega⟩
  have hm:IntKind.u32.max=((4294967295:Nat):Int):=by decide
  rw[hm,z7M _ _ (by decide) (by omega),Nat.xor_comm,<-z7M _ _ (by omega) (by decide)]
  rfl
 have J:=kD M;clear M;go_enter func245,ntmps245
 go_wp2_with fail
 go_loopw [5,6] (fun x q wr=>∃k:Nat,k<=xs.length/\q=.int .i64 k/\x=.int .u32 (crcL 4294967295 (xs.take k))/\wr=w) (fun _ q _=>xs.length - (intOf q).toNat)
 case atStart=>exact⟨0,kP _,rfl,rfl,rfl⟩
 case round=>
  obtain⟨k,S,rfl,rfl,hw⟩:=hrel;subst hw;by_cases I:k<xs.length
  ·obtain⟨b,off,rfl,hb,V⟩:=hX.at_ (k:=k) (by simpa using I)
   rw[lf]at V;have U:=kD (z0R 4294967295 xs k I);have D:=J.out k S;generalize crcL 4294967295 (xs.take k)=x at U D;have T:=K _ (li I);generalize xs[k]=y at V U T;go_wp2_with fail
   refine(z9o x y D T _).mono ?_;rintro e Y ⟨rfl,rfl⟩;go_wp2_with fail
   go_roundw
   case rel=>exact⟨k+1,by omega,by go_num,by rw[U.out],by first|trivial|rfl⟩
   case measure=>simp[intOf];omega
  ·obtain rfl:k=xs.length:=by omega
   have D:=J.out _ S;rw[lj]at D;rw[lj];have he:=O _ D;go_wp2_with fail
   go_ret
   exact⟨by unfold crc;rfl,rfl⟩
theorem zaB (A:Option Addr)(c:Nat)(xs:List Int)(K:xs.length<=100000)(D:bj xs)(w:World)(J:Reads w A (xs.map (.int .u8))):
  Calls prog 223 #[.slice A xs.length c] w fun e I=>e=.returned (.int .u32 (crc xs))/\I=w:=by
 go_enter func223,ntmps223
 go_wp2_with fail
 refine(zbZ A c xs K D _ J).mono ?_;rintro e I ⟨rfl,rfl⟩;go_wp2_with fail
 go_ret
 exact⟨rfl,rfl⟩
end Go.Proofs.YtejmknghkbobnaaGreatDoor
