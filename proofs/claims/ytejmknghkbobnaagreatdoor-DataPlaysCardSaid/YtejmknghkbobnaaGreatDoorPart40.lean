import Derived.Test.YtejmknghkbobnaaGreatDoorPart39
set_option linter.all false
set_option maxRecDepth 100000
set_option maxHeartbeats 0
namespace Go.Proofs.YtejmknghkbobnaaGreatDoor
open Go.Proofs.Tryz
open Go.RowKit Go.Maps
theorem zae (O:Nat->Value)(I:Nat->Int)(a0 a1 V J:Option Addr)(n0 k0 n1 k1 n2 k2 M K:Nat)(wh f kd off n size:Int)(xl:Value)(s:ByteArray)(cw ck cz co cn:Int)(cl:Value)(cp pv:Value)(t:ByteArray)(z:Int)(hf:0<=f/\f<=255)(ab:0<=wh/\wh<=255)(Y:wh % 8≠7)(f2:Nat)(ac:f % 2=f2)
  (e0:O 0=.slice a0 n0 k0) (e1:O 1=.slice a1 n1 k1) (e2:O 2=.slice V n2 k2) (ao:cw=0\/cw=2\/cw=3\/cw=5\/cw=6) (w:World):
  Calls prog 31 #[.agg (aK (.slice a0 n0 k0) (.slice a1 n1 k1) (.slice V n2 k2) (I 0) (I 1)),.agg (eZ wh f kd off n size xl s),.agg (az cw ck cz co cn cl s cp),.agg (bH (.slice J M K) pv t z 0)] w fun e w'=>
   ∃S U,e=.returned (.agg (aK (S 0) (S 1) (S 2) (U 0) (U 1)))/\Zr w w'/\((cw=0/\S=upd O f2 (.slice J M K)/\U=upd I f2 z)\/(cw=2/\S=upd O f2 (.slice J M K)/\U=upd I f2 cn)\/(cw=5/\S=upd O 2 (.slice J M K)/\U=I)\/((cw=3\/cw=6)/\S=O/\U=I)):=by
 have an:f2=0\/f2=1:=by omega
 rcases ao with rfl|rfl|rfl|rfl|rfl
 ·refine(z6T a0 a1 V J n0 k0 n1 k1 n2 k2 M K (I 0) (I 1) wh f kd off n size xl s ck cz co cn cl s cp pv t z hf ab Y f2 ac w).mono fun e w' ⟨he,hb⟩=>?_
  refine⟨_,_,?_,hb,.inl ⟨rfl,rfl,rfl⟩⟩
  rw[he];rcases an with rfl|rfl
  ·show Ending.returned (.agg (aK (.slice J M K) (.slice a1 n1 k1) (.slice V n2 k2) z (I 1)))=.returned (.agg (aK (.slice J M K) (O 1) (O 2) z (I 1)))
   rw[e1,e2]
  ·show Ending.returned (.agg (aK (.slice a0 n0 k0) (.slice J M K) (.slice V n2 k2) (I 0) z))=.returned (.agg (aK (O 0) (.slice J M K) (O 2) (I 0) z))
   rw[e0,e2]
 ·refine(zag a0 a1 V J n0 k0 n1 k1 n2 k2 M K (I 0) (I 1) wh f kd off n size xl s ck cz co cn cl s cp pv t z hf ab Y f2 ac w).mono fun e w' ⟨he,hb⟩=>?_
  refine⟨_,_,?_,hb,.inr (.inl ⟨rfl,rfl,rfl⟩)⟩
  rw[he];rcases an with rfl|rfl
  ·show Ending.returned (.agg (aK (.slice J M K) (.slice a1 n1 k1) (.slice V n2 k2) cn (I 1)))=.returned (.agg (aK (.slice J M K) (O 1) (O 2) cn (I 1)))
   rw[e1,e2]
  ·show Ending.returned (.agg (aK (.slice a0 n0 k0) (.slice J M K) (.slice V n2 k2) (I 0) cn))=.returned (.agg (aK (O 0) (.slice J M K) (O 2) (I 0) cn))
   rw[e0,e2]
 ·refine(z3X a0 a1 V J n0 k0 n1 k1 n2 k2 M K (I 0) (I 1) wh f kd off n size xl s 3 ck cz co cn cl s cp pv t z 0 hf ab Y (.inl rfl) w).mono fun e w' ⟨he,hb⟩=>?_
  exact⟨O,I,by rw[he,e0,e1,e2],hb,.inr (.inr (.inr ⟨.inl rfl,rfl,rfl⟩))⟩
 ·refine(z6S a0 a1 V J n0 k0 n1 k1 n2 k2 M K (I 0) (I 1) wh f kd off n size xl s 5 ck cz co cn cl s cp pv t z 0 hf ab Y w).mono fun e w' ⟨he,hb⟩=>?_
  refine⟨_,_,?_,hb,.inr (.inr (.inl ⟨rfl,rfl,rfl⟩))⟩
  rw[he];show Ending.returned (.agg (aK (.slice a0 n0 k0) (.slice a1 n1 k1) (.slice J M K) (I 0) (I 1)))=.returned (.agg (aK (O 0) (O 1) (.slice J M K) (I 0) (I 1)))
  rw[e0,e1]
 ·refine(z3X a0 a1 V J n0 k0 n1 k1 n2 k2 M K (I 0) (I 1) wh f kd off n size xl s 6 ck cz co cn cl s cp pv t z 0 hf ab Y (.inr rfl) w).mono fun e w' ⟨he,hb⟩=>?_
  exact⟨O,I,by rw[he,e0,e1,e2],hb,.inr (.inr (.inr ⟨.inr rfl,rfl,rfl⟩))⟩
def bigA (a:ActV):Bool:=decide (900<a.s.size)||decide (20<a.m)
def farB (xs:List ActV):Bool:=decide (20<xs.length)||xs.any bigA
theorem zbt (A:Option Addr)(c:Nat)(xs:List ActV)(hl:xs.length<=maxLen)(w:World)(hR:Reads w A (xs.flatMap actL)):
  Calls prog 21 #[.slice A xs.length c,.int .i64 20] w (Zq (.bool (farB xs)) w):=by
 unfold maxLen at hl;by_cases I:20<xs.length
 ·have d0:decide ((20:Int)<(xs.length:Int))=true:=decide_eq_true (by omega)
  have M:Hid (farB xs=true):=kD (by unfold farB;simp[I])
  clear I;go_enter func21,ntmps21
  go_wp2_with fail
  go_ret
  exact⟨by rw[M.out];rfl,kF _ _⟩
 have d0:decide ((20:Int)<(xs.length:Int))=false:=decide_eq_false (by omega)
 have K:Hid (farB xs=xs.any bigA):=kD (by unfold farB;simp[I])
 clear I;go_enter func21,ntmps21
 go_wp2_with fail
 go_loopw [5] (fun q wr=>∃k:Nat,k<=xs.length/\q=.int .i64 k/\(∀a∈xs.take k,bigA a=false)/\Zr w wr) (fun q _=>xs.length - (RowKit.intOf q).toNat)
 case atStart=>exact⟨0,kP _,rfl,fun _ h=>by simp at h,kF _ _⟩
 case round=>
  obtain⟨k,hk,rfl,V,U⟩:=hrel;by_cases O:k<xs.length
  ·obtain⟨b,off,rfl,ab,-,-,-,-,-,-,c6,c7⟩:=z4z (hR.below U) O;have hm:=li O;have HT:Hid (xs.take (k+1)=xs.take k++[xs[k]]):=kD (kZ O);generalize xs[k]=a at *;obtain⟨wh,f,kd,of,n,size,A,m,ca,s⟩:=a;simp only at c6 c7
   have HM:=kD hm;have HN:=kD V;have HR:=kD hR;clear hm V hR;by_cases S:900<s.size
   ·have d1:decide ((900:Int)<(s.size:Int))=true:=decide_eq_true (by omega)
    have M:Hid (farB xs=true):=kD (by rw[K.out];exact List.any_eq_true.2 ⟨_,HM.out,by unfold bigA;simp[S]⟩)
    clear S;go_wp2_with fail
    go_ret
    exact⟨by rw[M.out];rfl,U⟩
   ·have d1:decide ((900:Int)<(s.size:Int))=false:=decide_eq_false (by omega)
    by_cases Y:20<m
    ·have d2:decide ((20:Int)<(m:Int))=true:=decide_eq_true (by omega)
     have M:Hid (farB xs=true):=kD (by rw[K.out];exact List.any_eq_true.2 ⟨_,HM.out,by unfold bigA;simp[Y]⟩)
     clear S Y;go_wp2_with fail
     go_ret
     exact⟨by rw[M.out];rfl,U⟩
    ·have d2:decide ((20:Int)<(m:Int))=false:=decide_eq_false (by omega)
     have HB:Hid (bigA ⟨wh,f,kd,of,n,size,A,m,ca,s⟩=false):=kD (by unfold bigA;simp[S,Y])
     clear S Y;go_wp2_with fail
     go_roundw
     case rel=>exact⟨k+1,by omega,by go_num,fun a J=>by
      rw[HT.out]at J;rcases lE.1 J with J|J
      ·exact HN.out a J
      ·simp only[mg]at J;rw[J];exact HB.out,U⟩
     case measure=>simp[RowKit.intOf];omega
  ·obtain rfl:k=xs.length:=by omega
   have M:Hid (farB xs=false):=kD (by
    rw[K.out,List.any_eq_false];rw[lj]at V;intro a J;rw[V a J];simp)
   clear V;go_wp2_with fail
   go_ret
   exact⟨by rw[M.out];rfl,U⟩
structure Run (w0 w:World)(T:Nat)(F:List Nat)(D:Nat)(y:TxS)(B:List Nat)(x:DevS):Prop where
 td:TD w T F D y B x
 bl:Zr w0 w
 fl:∀b∈F,w0.heap.size<=b
section
variable {w0 w w':World}{T:Nat}{F F':List Nat}{D:Nat}{y y':TxS}{B:List Nat}{x:DevS}
theorem Run.below (h:Run w0 w T F D y B x)(I:Zr w w'):Run w0 w' T F D y B x:=⟨h.td.below I,h.bl.trans (I.mono h.bl.size),h.fl⟩
theorem Run.did (h:Run w0 w T F D y B x)(I:TD w' T F' D y' B x)(g:Grow w F w' F'):Run w0 w' T F' D y' B x:=⟨I,h.bl.trans (g.below h.bl.size h.fl),g.lo h.bl.size h.fl⟩
theorem Run.row (h:Run w0 w T F D y B x){g:Nat}(M:g∉F)(O:g∉B)(K:0<w0.heap.size)(J:w0.heap.size<=g)(cs:Array Value):Run w0 (w.setRow g cs) T F D y B x:=
 ⟨h.td.keep (fun b I=>ak w g b cs (fun e=>by
  subst e;rcases I with I|I|I
  ·exact M I
  ·exact O I
  ·omega)) (by simp),Below.setRow h.bl J _,h.fl⟩
theorem Run.flt (h:Run w0 w T F D y B x):∀b∈F,b<w.heap.size:=fun b I=>(h.td.tx.lt b I).2
theorem Run.blt (h:Run w0 w T F D y B x):∀b∈B,b<w.heap.size:=fun b I=>(h.td.dev.lt b I).2
end
theorem Keeps.row {w:World}{F:List Nat}{A:Option Addr}{c:Nat}{l:List Int}(h:Keeps w F A c l){g:Nat}(M:∀a,A=some a->a.block≠g)(cs:Array Value):Keeps (w.setRow g cs) F A c l:=
 ⟨⟨by
   rcases h.sl.reads with I|⟨b,off,e,K,J⟩
   ·exact .inl I
   ·exact .inr ⟨b,off,e,by simpa using K,fun j v O=>(World.cell?_of_block (w:=w) (a:=⟨b,off+j,none⟩) (ak _ _ _ _ (show b≠g from M _ e))).trans (J j v O)⟩,h.sl.nil,h.sl.cap⟩,
  fun a e=>⟨(h.out a e).1,by simpa using (h.out a e).2⟩⟩
def dD (As:Nat->Option Addr)(cs:Nat->Nat)(ls:Nat->List Int)(k:Nat):Value:=.slice (As k) (ls k).length (cs k)
def zsOf (tx:Nat->ByteArray)(k:Nat):Int:=(tx k).size
theorem z6k {w:World}{b off:Nat}{xs:List ActV}(K:Reads w (some ⟨b,off,none⟩) (xs.flatMap actL)){k:Nat}(O:k<xs.length):
  ∀W,Zr w W->W.cell? ⟨b,off+k*8,none⟩=some (.int .u8 xs[k].wh)/\W.cell? ⟨b,off+k*8+1,none⟩=some (.int .u8 xs[k].f)/\W.cell? ⟨b,off+k*8+2,none⟩=some (.int .i64 xs[k].kd) /\
   W.cell? ⟨b,off+k*8+3,none⟩=some (.int .i64 xs[k].off)/\W.cell? ⟨b,off+k*8+4,none⟩=some (.int .i64 xs[k].n)/\W.cell? ⟨b,off+k*8+5,none⟩=some (.int .i64 xs[k].size)/\W.cell? ⟨b,off+k*8+6,none⟩=some (.slice xs[k].A xs[k].m xs[k].c)/\W.cell? ⟨b,off+k*8+7,none⟩=some (.string xs[k].s):=by
 intro W M;obtain⟨S,I,e,U,J⟩:=z4z (K.below M) O;cases e;exact J
theorem z8I (j i:Int):rgE 64 (8+j % 21) (1+i % 26)=0:=by
 have I:0<=j % 21/\j % 21<=20:=by omega
 have J:0<=i % 26/\i % 26<=25:=by omega
 exact zbW (by omega) (by omega)
structure Knows (w:World)(F:List Nat)(n0:Nat)(A:Option Addr)(c:Nat)(l:List Int):Prop where
 sl:SlI w A c l
 out:l≠[]->∀a,A=some a->a.block∉F/\a.block<n0
theorem Reads.pV {w:World}{A:Option Addr}:Reads w A (([]:List Int).map (.int .i64)):=.inl rfl
section
variable {n0:Nat}{w w':World}{F F':List Nat}{A:Option Addr}{c:Nat}{l:List Int}
theorem Knows.oM (h:Keeps w F A c l)(I:∀a,A=some a->a.block<n0):Knows w F n0 A c l:=⟨h.sl,fun _ a e=>⟨(h.out a e).1,I a e⟩⟩
theorem Knows.below (h:Knows w F n0 A c l)(I:Zr w w'):Knows w' F n0 A c l:=⟨h.sl.below I,h.out⟩
theorem Knows.grow (h:Knows w F n0 A c l)(J:n0<=w.heap.size)(g:Grow w F w' F'):Knows w' F' n0 A c l:=by
 by_cases I:l=[]
 ·subst I;exact⟨⟨Reads.pV,h.sl.nil,h.sl.cap⟩,fun h=>absurd rfl h⟩
 ·exact⟨⟨h.sl.reads.qj g fun a e=>(h.out I a e).1,h.sl.nil,h.sl.cap⟩,fun _ a e=>⟨g.og (h.out I a e).1 (by have:=(h.out I a e).2;omega),(h.out I a e).2⟩⟩
theorem Knows.row (h:Knows w F n0 A c l){g:Nat}(S:n0<=g)(cs:Array Value):Knows (w.setRow g cs) F n0 A c l:=by
 by_cases J:l=[]
 ·subst J;exact⟨⟨Reads.pV,h.sl.nil,h.sl.cap⟩,fun h=>absurd rfl h⟩
 ·refine⟨⟨?_,h.sl.nil,h.sl.cap⟩,h.out⟩
  rcases h.sl.reads with K|⟨b,off,e,I,M⟩
  ·exact .inl K
  ·exact .inr ⟨b,off,e,by simpa using I,fun j v O=>(World.cell?_of_block (w:=w) (a:=⟨b,off+j,none⟩) (ak _ _ _ _ (by have:=(h.out J _ e).2;show b≠g;simp only at this;omega))).trans (M j v O)⟩
end
structure OfAny (n0 m0:Nat)(W:World)(F:List Nat)(cw cz co cn:Int)(A:Option Addr)(c:Nat)(L:List Int)(P:Option Addr)(pn:Nat):Prop where
 hcw:cw=0\/cw=2\/cw=3\/cw=5\/cw=6
 hcz:-9223372036854775808<=cz/\cz<=9223372036854775807
 hco:-9223372036854775808<=co/\co<=9223372036854775807
 hcn:-9223372036854775808<=cn/\cn<=9223372036854775807
 kp:Knows W F n0 A c L
 len:L.length<=1000
 ps:cw=5->∃ps:List ByteArray,ps.length=pn/\pn<=901/\(∀p∈ps,p.size<=1000)/\Reads W P (ps.map .string)/\∀a,P=some a->m0<=a.block/\a.block<W.heap.size
section
variable {n0 m0:Nat}{W W':World}{F:List Nat}{cw cz co cn:Int}{A:Option Addr}{c:Nat}{L:List Int}{P:Option Addr}{pn:Nat}
theorem OfAny.row (h:OfAny n0 m0 W F cw cz co cn A c L P pn){g:Nat}(M:n0<=g)(O:∀b,m0<=b->b<W.heap.size->b≠g)(cs:Array Value):OfAny n0 m0 (W.setRow g cs) F cw cz co cn A c L P pn:=
 ⟨h.hcw,h.hcz,h.hco,h.hcn,h.kp.row M cs,h.len,fun e=>by
  obtain⟨ps,Y,p2,p3,p4,I⟩:=h.ps e;refine⟨ps,Y,p2,p3,?_,fun a e=>⟨(I a e).1,by simpa using (I a e).2⟩⟩
  rcases p4 with K|⟨b,off,e,U,S⟩
  ·exact .inl K
  ·have J:=I _ e;exact .inr ⟨b,off,e,by simpa using U,fun j v V=>(World.cell?_of_block (w:=W) (a:=⟨b,off+j,none⟩) (ak _ _ _ _ (O b J.1 J.2))).trans (S j v V)⟩⟩
theorem OfAny.made {M:World}(h:OfAny n0 m0 W F cw cz co cn A c L P pn)(S:n0<=W.heap.size)(I:Zr W M)(cs:Array Value):OfAny n0 m0 (M.setRow W.heap.size cs) F cw cz co cn A c L P pn:=
 ⟨h.hcw,h.hcz,h.hco,h.hcn,(h.kp.below I).row S cs,h.len,fun e=>by
  obtain⟨ps,p1,p2,p3,p4,K⟩:=h.ps e;refine⟨ps,p1,p2,p3,?_,fun a e=>⟨(K a e).1,by have:=(K a e).2;have:=I.size;simp;omega⟩⟩
  rcases p4.below I with O|⟨b,off,e,V,U⟩
  ·exact .inl O
  ·have J:=K _ e;exact .inr ⟨b,off,e,by simpa using V,fun j v Y=>(World.cell?_of_block (w:=M) (a:=⟨b,off+j,none⟩) (ak _ _ _ _ (by have:=J.2;show b≠_;simp only at this;omega))).trans (U j v Y)⟩⟩
end
def z3u (n0:Nat)(w:World)(F:List Nat)(s:ByteArray)(e:Ending)(w':World):Prop:=
 Zr w w'/\∃cw ck cz co cn A c L P pn pc,e=.returned (.agg (az cw ck cz co cn (.slice A (L:List Int).length c) s (.slice P pn pc)))/\OfAny n0 w.heap.size w' F cw cz co cn A c L P pn
theorem z81 {w0 w:World}{F:List Nat}{n0:Nat}{a:ActV}(ok:ActOk w0 a)(hn:w0.heap.size<=n0)(S:Zr w0 w)(O:∀b∈F,w0.heap.size<=b):∃l:List Int,l.length=a.m/\Knows w F n0 a.A a.c l:=by
 obtain⟨l,M,I,h3,K⟩:=ok.list;refine⟨l,M,⟨I.below S,fun e=>⟨List.length_eq_zero_iff.1 (by have:=(K e).1;omega),(K e).2⟩,by omega⟩,fun U a e=>?_⟩
 rcases I with I|⟨b,off,J,V,-⟩
 ·exact absurd (List.map_eq_nil_iff.1 I) U
 ·rw[e]at J;obtain rfl:=Option.some.inj J;exact⟨fun Y=>by have:=O _ Y;simp only at this;omega,by simp only;omega⟩
theorem zcD {w0 w:World}{F:List Nat}{a:ActV}(ok:ActOk w0 a)(hb:Zr w0 w)(hF:∀b∈F,w0.heap.size<=b)(O:bigA a=false)(M:Nat->List Int)(Y:Nat->Int)(K:Nat->Option Addr)(cs:Nat->Nat)(hz:∀k,k<2->0<=Y k/\Y k<=10000)(hk:∀k,k<3->Keeps w F (K k) (cs k) (M k))(hl:∀k,k<3->(M k).length<=1000)(V:World)(h1:Zr w V):
  Calls prog 26 #[.agg (eZ a.wh a.f a.kd a.off a.n a.size (.slice a.A a.m a.c) a.s),.agg (aK (dD K cs M 0) (dD K cs M 1) (dD K cs M 2) (Y 0) (Y 1))] V (z3u w.heap.size V F a.s):=by
 have ab:a.s.size<=900:=by unfold bigA at O;simp at O;omega
 have hm:a.m<=20:=by unfold bigA at O;simp at O;omega
 have S:∀k,k<3->∀W,Zr V W->Keeps W F (K k) (cs k) (M k):=fun k h W hW=>(hk k h).below (h1.trans (hW.mono h1.size))
 have U:∀k,k<3->∀p,K k=some p->p.block<w.heap.size:=fun k h p e=>((hk k h).out p e).2
 by_cases h7:a.wh % 8=7
 ·obtain⟨l,e1,e2⟩:=z81 (n0:=w.heap.size) ok hb.size hb hF;rw[<-e1];refine(zbD (K 0) (K 1) (K 2) (M 0).length (cs 0) (M 1).length (cs 1) (M 2).length (cs 2) (Y 0) (Y 1) a.wh a.f a.kd a.off a.n a.size a.A l.length a.c a.s ab ok.f ok.wh h7 ok.size V).mono ?_;rintro e w' ⟨J,ci,pv,ac,rfl,ps,ho,hp1,av⟩;obtain⟨P,pc,rfl⟩:=aw ho;exact⟨J,ci,_,_,_,_,a.A,a.c,l,P,_,pc,rfl,ac,ok.size,ok.off,ok.n,e2.below (h1.trans (J.mono h1.size)),by omega,fun _=>⟨ps,rfl,hp1,av,Reads.ng ho,fun q e=>by subst e;exact ce ho q.block rfl⟩⟩
 ·obtain⟨I,an⟩:∃I:Nat,a.f % 2=I:=⟨(a.f % 2).toNat,by omega⟩
  have ao:I<2:=by omega
  refine(zcC (K 0) (K 1) (K 2) (M 0).length (cs 0) (M 1).length (cs 1) (M 2).length (cs 2) Y a.wh a.f a.kd a.off a.n a.size _ a.s ab hz ok.off ok.n ok.size ok.f ok.wh h7 I an (dD K cs M) rfl rfl rfl V).mono ?_;rintro e w' ⟨J,cw,ck,cz,co,cn,cl,P,pn,pc,rfl,aL⟩;have a1:=hz I ao;rcases aL with ⟨rfl,rfl,rfl,q1,q2,rfl,rfl⟩|⟨rfl,rfl,rfl,rfl,q1,q2,rfl⟩|⟨rfl,rfl,rfl,q1,q2,q3,q4,rfl⟩|⟨q,rfl,rfl,rfl,rfl,rfl,ps,rfl,q1,q2,q3,q4⟩
  ·exact⟨J,0,_,_,_,_,K I,cs I,M I,P,pn,pc,rfl,by simp,by omega,by omega,by omega,Knows.oM (S I (by omega) _ J) (U I (by omega)),hl I (by omega),fun h=>by cases h⟩
  ·exact⟨J,2,_,_,_,_,K I,cs I,M I,P,pn,pc,rfl,by simp,by omega,by omega,by omega,Knows.oM (S I (by omega) _ J) (U I (by omega)),hl I (by omega),fun h=>by cases h⟩
  ·exact⟨J,3,_,_,_,_,K I,cs I,M I,P,pn,pc,rfl,by simp,by omega,by omega,by omega,Knows.oM (S I (by omega) _ J) (U I (by omega)),hl I (by omega),fun h=>by cases h⟩
  ·exact⟨J,cw,_,_,_,_,K 2,cs 2,M 2,P,_,pc,rfl,by rcases q with rfl|rfl<;>simp,by omega,by omega,by omega,Knows.oM (S 2 (by omega) _ J) (U 2 (by omega)),hl 2 (by omega),fun _=>⟨ps,rfl,q1,q2,q3,q4⟩⟩
def zcW (w:World)(T:Nat)(F:List Nat)(D:Nat)(B:List Nat)(x:DevS)(y:TxS)(L:List Int)(cw cn:Int)(e:Ending)(w':World):Prop:=
 ∃RA lk PA pn pk t z E y' F' R,e=.returned (.agg (bH (.slice RA (R:List Int).length lk) (.slice PA pn pk) t z E))/\TD w' T F' D y' B x/\Grow w F w' F'/\Apart y L y'/\y'.Clean/\R.length<=1000/\Keeps w' F' RA lk R/\(∀a,RA=some a->w.heap.size<=a.block)/\(0<=z/\z<=10000)/\(cw=2->E=0->0<=cn/\cn<=10000)
theorem Keeps.nil (w:World)(F:List Nat):Keeps w F none 0 []:=⟨⟨Reads.pV,fun _=>⟨rfl,rfl⟩,kE _⟩,fun _ h=>by cases h⟩
theorem z6R (a0 S U la:Option Addr)(n0 V n1 Y n2 k2 ln lk:Nat)(z0 z1:Int)(O f kd off n size:Int)(xl:Value)(s:ByteArray)(cw ck cz co cn:Int)(cl:Value)(cs:ByteArray)(cp pv:Value)(t:ByteArray)(z:Int)(hf:0<=f/\f<=255)(M:0<=O/\O<=255)(K:O % 8=7)(w:World):
  Calls prog 31 #[.agg (aK (.slice a0 n0 V) (.slice S n1 Y) (.slice U n2 k2) z0 z1),.agg (eZ O f kd off n size xl s),.agg (az cw ck cz co cn cl cs cp),.agg (bH (.slice la ln lk) pv t z 0)] w fun e w'=>
   e=.returned (.agg ((aK (.slice a0 n0 V) (.slice S n1 Y) (.slice U n2 k2) z0 z1)))/\Zr w w':=by
 obtain⟨I,J⟩:∃I:Nat,f % 2=I:=⟨(f % 2).toNat,by omega⟩
 have h1:f.tmod 2=I:=by rw[<-J];exact lI hf.1
 have h3:IntKind.u8.wrap (I:Int)=I:=by rw[IntKind.wrap_u8];omega
 have h5:IntKind.i64.wrap (I:Int)=I:=by rw[kW];omega
 have g1:O.tmod 8=7:=by rw[<-K];exact lI M.1
 clear hf M K J;go_enter func31,ntmps31
 go_wp2_with fail
 refine bodyPost_ret (v:=.agg ((aK (.slice a0 n0 V) (.slice S n1 Y) (.slice U n2 k2) z0 z1))) (by simp[results,results31,go_sem]) rfl ?_
 exact⟨rfl,zgr⟩
theorem zaf {F':List Nat}{w:World}{a:ActV}(hf:0<=a.f/\a.f<=255)(aL:0<=a.wh/\a.wh<=255)(J:Nat->List Int)(O:Nat->Int)(I:Nat->Option Addr)(cs:Nat->Nat)(hz:∀k,k<2->0<=O k/\O k<=10000)(hk:∀k,k<3->Keeps w F' (I k) (cs k) (J k))(hl:∀k,k<3->(J k).length<=1000)
  (cw ck cz co cn:Int) (a6:cw=0\/cw=2\/cw=3\/cw=5\/cw=6) (cl cp pv:Value) (s t:ByteArray) (z E:Int) (M:Option Addr) (U:Nat) (R:List Int) (hR:R.length<=1000) (a8:Keeps w F' M U R) (ba:0<=z/\z<=10000) (a2:cw=2->E=0->0<=cn/\cn<=10000):
  Calls prog 31 #[.agg (aK (dD I cs J 0) (dD I cs J 1) (dD I cs J 2) (O 0) (O 1)),.agg (eZ a.wh a.f a.kd a.off a.n a.size (.slice a.A a.m a.c) a.s),.agg (az cw ck cz co cn cl a.s cp),.agg (bH (.slice M R.length U) pv t z E)] w fun e w'=>
   Zr w w'/\∃(V:Nat->List Int) (Y:Nat->Int) (S:Nat->Option Addr) (ab:Nat->Nat),e=.returned (.agg (aK (dD S ab V 0) (dD S ab V 1) (dD S ab V 2) (Y 0) (Y 1)))/\(∀k,k<2->0<=Y k/\Y k<=10000)/\(∀k,k<3->Keeps w F' (S k) (ab k) (V k))/\(∀k,k<3->(V k).length<=1000)/\∀k,k<3->S k=I k\/S k=M:=by
 by_cases hE:E=0
 ·subst hE;by_cases h7:a.wh % 8=7
  ·refine(z6R (I 0) (I 1) (I 2) M (J 0).length (cs 0) (J 1).length (cs 1) (J 2).length (cs 2) R.length U (O 0) (O 1) a.wh a.f a.kd a.off a.n a.size _ a.s cw ck cz co cn cl a.s cp pv t z hf aL h7 w).mono ?_;rintro e w' ⟨rfl,hb⟩;exact⟨hb,J,O,I,cs,rfl,hz,hk,hl,fun _ _=>.inl rfl⟩
  ·obtain⟨K,a7⟩:∃K:Nat,a.f % 2=K:=⟨(a.f % 2).toNat,by omega⟩
   have bb:K<2:=by omega
   refine(zae (dD I cs J) O (I 0) (I 1) (I 2) M (J 0).length (cs 0) (J 1).length (cs 1) (J 2).length (cs 2) R.length U a.wh a.f a.kd a.off a.n a.size _ a.s cw ck cz co cn cl cp pv t z hf aL h7 K a7 rfl rfl rfl a6 w).mono ?_;rintro e w' ⟨bc,Y,rfl,hb,hc⟩;have av:∀g,dD (upd I g M) (upd cs g U) (upd J g R)=upd (dD I cs J) g (.slice M R.length U):=fun g=>by
    funext k
    unfold dD upd;split<;>rfl
   have a1:∀v,0<=v/\v<=10000->∀k,k<2->0<=upd O K v k/\upd O K v k<=10000:=fun v hv k hk=>by
    unfold upd;split
    ·exact hv
    ·exact hz k hk
   have an:∀g k,k<3->Keeps w F' (upd I g M k) (upd cs g U k) (upd J g R k):=fun g k h=>by
    unfold upd;split
    ·exact a8
    ·exact hk k h
   have ao:∀g k,k<3->(upd J g R k).length<=1000:=fun g k h=>by
    unfold upd;split
    ·exact hR
    ·exact hl k h
   have ac:∀g k,k<3->upd I g M k=I k\/upd I g M k=M:=fun g k h=>by
    unfold upd;split
    ·exact .inr rfl
    ·exact .inl rfl
   rcases hc with ⟨-,rfl,rfl⟩|⟨h2,rfl,rfl⟩|⟨-,rfl,rfl⟩|⟨-,rfl,rfl⟩
   ·exact⟨hb,upd J K R,upd O K z,upd I K M,upd cs K U,by rw[av],a1 z ba,an K,ao K,ac K⟩
   ·exact⟨hb,upd J K R,upd O K cn,upd I K M,upd cs K U,by rw[av],a1 cn (a2 h2 rfl),an K,ao K,ac K⟩
   ·exact⟨hb,upd J 2 R,_,upd I 2 M,upd cs 2 U,by rw[av],hz,an 2,ao 2,ac 2⟩
   ·exact⟨hb,J,_,I,cs,rfl,hz,hk,hl,fun _ _=>.inl rfl⟩
 ·refine(zah (I 0) (I 1) (I 2) M (J 0).length (cs 0) (J 1).length (cs 1) (J 2).length (cs 2) R.length U (O 0) (O 1) a.wh a.f a.kd a.off a.n a.size _ a.s cw ck cz co cn cl a.s cp pv t z E hf aL hE w).mono ?_;rintro e w' ⟨rfl,hb⟩;exact⟨hb,J,O,I,cs,rfl,hz,hk,hl,fun _ _=>.inl rfl⟩
def After (z:DevS)(p:Int)(N:Nat)(Fin:DevS->Prop):Prop:=
 ∀k1,z7R z k1->((((z.nN k1).limit p).nZ 1 8).2.1=0\/(((z.nN k1).limit p).nZ 1 8).2.1=13)/\∀k2,z7R (((z.nN k1).limit p).nZ 1 8).2.2 k2 ->
  (((((z.nN k1).limit p).nZ 1 8).2.2.nN k2).nZ 1 8).2.1=0/\(((((z.nN k1).limit p).nZ 1 8).2.2.nN k2).nZ 1 8).2.2.nO N/\(((((z.nN k1).limit p).nZ 1 8).2.2.nN k2).nZ 1 8).2.2.stable.length=64/\Fin (((((z.nN k1).limit p).nZ 1 8).2.2.nN k2).nZ 1 8).2.2
structure LiveR (x:DevS)(us:List Bool)(q:Int)(N:Nat):Prop where
 live:Live x 64 8 40 us N
 rest:Rest x 1 8 q
def Fin64 (x:DevS)(q:Int)(l:List Rec)(E:Int)(u:DevS):Prop:=(∃r,HeadAt u 1 r)/\((E≠0/\Out0 x u 1 8)\/Full x u 1 8 q l)
section
variable {x:DevS}{y:TxS}{us:List Bool}{q:Int}{N:Nat}
def Alike (y:TxS)(x:DevS)(z:TxS)(u:DevS):Prop:=y.now=z.now/\∀i:Nat,i<64->(i=0\/8<i)->(y.read x i).1=(z.read u i).1/\(y.read x i).2.1=(z.read u i).2.1
end
def eh (n:Nat)(z:DevS):Prop:=z.Ok/\z.stable.length=n
theorem jI {x:DevS}{n:Nat}(h:eh n x){p:Int × Fr}(I:FitP n p):eh n (x.put p.1 p.2.kind p.2.seq p.2.data).2/\((x.put p.1 p.2.kind p.2.seq p.2.data).1=0\/(x.put p.1 p.2.kind p.2.seq p.2.data).2.off=true):=by
 obtain⟨ok,rfl⟩:=h;refine⟨⟨zcG ok I,?_⟩,?_⟩
 all_goals
  have J:bY p.1 p.2.kind p.2.data.size=0:=z0E (by have:=ok.hi;have:=I.at_;omega) I.kind I.data
  unfold DevS.put;rw[if_pos J];unfold DevS.write
 ·split
  ·rfl
  ·split
   ·rfl
   ·exact ok.room.2.2.1
 ·cases ho:x.off
  ·rw[if_neg (by rw[kc ho I.at_];simp)]
   split
   ·exact .inr rfl
   ·exact .inl rfl
  ·have:x.atE p.1=13:=by unfold DevS.atE atE;rw[ho];rfl
   rw[if_pos (by rw[this];decide)]
   exact .inr ho
theorem kz {x:DevS}{n:Nat}(h:eh n x){L:List (Int × Fr)}(J:∀p∈L,FitP n p):∀m,m<=L.length->eh n (x.puts L m).2/\((x.puts L m).1=0\/(x.puts L m).2.off=true)
 | 0,_=>⟨h,.inl rfl⟩
 | m+1,hm=>by
  obtain⟨I,K⟩:=kz h J m (by omega)
  unfold DevS.puts;split
  ·exact⟨I,K⟩
  ·rw[kN,kQ (by omega)]
   exact jI I (J _ (li _))
theorem z13 {x:DevS}{n:Nat}(h:eh n x):eh n x.flush.2/\x.flush.2.Calm:=by
 unfold DevS.flush;cases ho:x.off
 ·exact⟨⟨h.1.mX,(aW _ _).trans h.2⟩,.inl rfl⟩
 ·exact⟨h,.inr ho⟩
theorem km {p:Int × DevS}{n:Nat}(h:eh n p.2)(J:p.1=0\/p.2.off=true):eh n (DevS.done p).2/\(DevS.done p).2.Calm:=by
 unfold DevS.done;split
 ·rename_i I
  exact⟨h,.inr (J.resolve_left I)⟩
 ·exact z13 h
theorem z8P {x:DevS}{n:Nat}{F Z:Int}{l:List Rec}(h:eh n x)(O:x.Calm)(hk:aO F Z=0)(Y:F+Z<=n):eh n (x.log F Z l).2/\(x.log F Z l).2.Calm:=by
 unfold DevS.log;split
 ·exact⟨h,O⟩
 ·split
  ·exact⟨h,O⟩
  ·rename_i S
   have hv:ValidL n F Z l:=by rw[<-h.2];exact zba (by simpa using S)
   have I:∀p∈z8M F (x.head F Z).2 l,FitP n p:=fun p J=>(z6W hk Y hv p J).1
   obtain⟨K,U⟩:=kz (L:=ef F (aD (x.head F Z).2) l) h (fun p J=>I p (mt _ J)) l.length (by rw[z8N];exact kE _)
   split
   ·rename_i V
    exact⟨K,.inr (U.resolve_left V)⟩
   ·have M:=jI K (I (F+1+l.length,⟨3,aD (x.head F Z).2,aH l.length⟩) (mu _ (mg.2 rfl)));exact km M.1 M.2
theorem z9h {n F Z:Int}{f:Fr}(h:dp n F Z f=true):0<=(aB f).at_/\(aB f).at_<n/\1<=(aB f).kind/\(aB f).kind<=255/\(aB f).data.size<=112:=by
 have I:f.kind=2:=by
  by_cases I:f.kind=2
  ·exact I
  ·rw[jk I]at h;cases h
 unfold dp at h;split at h
 ·cases h
 ·rename_i M
  simp only[lq,decide_eq_true_eq]at h;obtain⟨⟨J,-⟩,K⟩:=h;rw[z1m I]at *;unfold ee at *;rw[if_neg (by omega)]at *
  have y0:=aZ (d9 f.data) 0;have y1:=aZ (d9 f.data) 1;have y2:=aZ (d9 f.data) 2;simp only at J K |-
  refine⟨by omega,J,by omega,by omega,?_⟩
  rw[ByteArray.size_extract];omega
theorem iT {x:DevS}{F Z q:Int}:∀k,∀r∈(x.mM F Z q k).run,0<=r.at_/\r.at_<x.stable.length/\1<=r.kind/\r.kind<=255/\r.data.size<=112
 | 0,r,I=>by simp[DevS.mM]at I
 | k+1,r,I=>by
  unfold DevS.mM at I;split at I
  ·exact iT k r I
  ·split at I
   ·simp at I
   ·split at I
    ·exact iT k r I
    ·rename_i J
     simp only[lE,mg]at I;rcases I with I|rfl
     ·exact iT k r I
     ·simp only[Bool.or_eq_true,not_or,Bool.not_eq_true,Bool.not_eq_false']at J;exact z9h J.1.1.2
theorem zao {x:DevS}{F Z:Int}{n:Nat}(O:x.stable.length=n):∀p∈ik (aD (x.look F Z).2.1) (x.look F Z).2.2.1,FitP n p:=fun p M=>by
 have K:=iE (x.look F Z).2.1;unfold ik at M;obtain⟨r,I,rfl⟩:=List.mem_map.1 M;have J:0<=r.at_/\r.at_<x.stable.length/\1<=r.kind/\r.kind<=255/\r.data.size<=112:=by
  unfold DevS.look at I;split at I
  ·cases I
  ·split at I
   ·cases I
   ·exact iT _ r I
 exact⟨⟨J.1,by rw[<-O];exact J.2.1⟩,⟨J.2.2.1,J.2.2.2.1⟩,J.2.2.2.2,K⟩
theorem z2o {x:DevS}{n:Nat}{F Z:Int}(h:eh n x):eh n (x.applies (x.look F Z).2.1 (x.look F Z).2.2.1).2/\(x.applies (x.look F Z).2.1 (x.look F Z).2.2.1).2.Calm:=by
 have I:=kz h (zao (F:=F) (Z:=Z) h.2) (x.look F Z).2.2.1.length (by unfold ik;rw[lZ];exact kE _)
 exact km I.1 I.2
theorem z4E {x:DevS}{n:Nat}{F Z:Int}(h:eh n x)(I:x.Calm):eh n (x.apply F Z).2.2/\(x.apply F Z).2.2.Calm:=by
 unfold DevS.apply;split
 ·exact⟨h,I⟩
 ·split
  ·exact⟨h,I⟩
  ·split<;>exact z2o h
theorem z4K {x:DevS}{n:Nat}{F Z:Int}(h:eh n x)(J:x.Calm)(K:aO F Z=0)(M:F+Z<=n):eh n (x.clear F Z).2/\(x.clear F Z).2.Calm:=by
 have O:=dK K;unfold DevS.clear;split
 ·exact⟨h,J⟩
 ·have I:=jI (p:=(F,⟨1,aD (x.head F Z).2,⟨#[]⟩⟩)) h ⟨⟨by show 0<=F;omega,by show F<_;omega⟩,⟨by show (1:Int)<=1;omega,by show (1:Int)<=255;omega⟩,by show (ByteArray.mk #[]).size<=112;decide,iE _⟩
  exact km I.1 I.2
theorem z3M {x:DevS}{n:Nat}{F Z:Int}{l:List Rec}(h:eh n x)(U:x.Calm)(S:aO F Z=0)(O:F+Z<=n):eh n (x.ny F Z l).2/\(x.ny F Z l).2.Calm:=by
 obtain⟨K,I⟩:=z8P (l:=l) h U S O;obtain⟨M,J⟩:=z4E (F:=F) (Z:=Z) K I;unfold DevS.ny;split
 ·exact⟨K,I⟩
 ·split
  ·exact⟨M,J⟩
  ·exact z4K M J S O
theorem z5D {x:DevS}{n:Nat}(h:eh n x){a:Int}{s:List Int}(I:0<=a/\a<n)(J:s.length=128/\bj s):eh n (x.write a s).2/\((x.write a s).1=0\/(x.write a s).2.off=true):=by
 obtain⟨ok,rfl⟩:=h;refine⟨⟨ok.write a J,?_⟩,?_⟩
 all_goals unfold DevS.write
 ·split
  ·rfl
  ·split
   ·rfl
   ·exact ok.room.2.2.1
 ·cases ho:x.off
  ·rw[if_neg (by rw[kc ho I];simp)]
   split
   ·exact .inr rfl
   ·exact .inl rfl
  ·have:x.atE a=13:=by unfold DevS.atE atE;rw[ho];rfl
   rw[if_pos (by rw[this];decide)]
   exact .inr ho
theorem z0b {x:DevS}{n:Nat}(h:eh n x){a:Int}(J:0<=a):∀k:Nat,a+k<=n->eh n (x.blanks a k).2/\((x.blanks a k).1=0\/(x.blanks a k).2.off=true)
 | 0,_=>⟨h,.inl rfl⟩
 | k+1,hk=>by
  obtain⟨I,K⟩:=z0b h J k (by omega)
  unfold DevS.blanks;split
  ·exact⟨I,K⟩
  ·exact z5D I (by omega) ⟨by unfold zsec;simp,fi⟩
theorem z21 {x:DevS}{n:Nat}{F Z:Int}(h:eh n x)(V:x.Calm)(hF:F+Z<=n):eh n (x.nH F Z).2/\(x.nH F Z).2.Calm:=by
 unfold DevS.nH;split
 ·exact⟨h,V⟩
 ·rename_i M
  have Y:aO F Z=0:=by simpa using M
  have hz:=dK Y;obtain⟨I,J⟩:=jI (p:=(F,⟨1,0,⟨#[]⟩⟩)) h ⟨⟨by show 0<=F;omega,by show F<_;omega⟩,⟨by show (1:Int)<=1;omega,by show (1:Int)<=255;omega⟩,by show (ByteArray.mk #[]).size<=112;decide,by show (0:Int)<=0;omega,by show (0:Int)<4294967296;omega⟩
  simp only at I J
  split
  ·rename_i O;exact⟨I,.inr (J.resolve_left O)⟩
  ·obtain⟨K,S⟩:=z0b I (a:=F+1) (by omega) (Z - 1).toNat (by omega)
   split
   ·rename_i U;exact⟨K,.inr (S.resolve_left U)⟩
   ·exact z13 K
theorem za6 {n:Nat}(h:n≠0)(s j i:Int):fitE n s j i=bi n s j i:=by
 have K:¬(n:Int)=0:=by omega
 unfold fitE bi;by_cases I:rgE s j i=0
 ·by_cases J:(n:Int)=s
  ·simp[I,J,K]
   try omega
  ·simp[I,J,K]
   try omega
 ·simp[I]
theorem zcJ {w:World}{P:Nat->Prop}{x:DevS}{sv:Array Value}(I:RSv w P x sv)(s j i:Int):
  Calls prog 42 #[.agg sv,.agg #[.int .i64 s,.int .i64 j,.int .i64 i]] w fun e w'=>Zr w w'/\e=.returned (.tuple #[rgV s j i,.int .i64 (bi x.stable.length s j i)]):=by
 obtain⟨A,c,C,d,rfl,I⟩:=I;have hlo:=I.ok.lo;have K:x.stable≠[]:=fun e=>by rw[e]at hlo;simp at hlo
 have J:0<(x.stable.flatMap bd).length:=by
  cases h:x.stable with
  | nil=>exact absurd h K
  | cons s0 t=>
   have S:=(I.ok.sec s0 (by rw[h];exact me ..)).1
   rw[m9,kY];unfold bd;rw[lZ];omega
 obtain⟨b,off,O,-,-⟩:=I.sta.at_ (k:=0) J;have M:=(I.la _ O).2;simp only[Addr.mk.injEq,true_and,and_true]at M;subst M;subst O;rw[<-za6 (by omega)]
 exact z4a (.slice C x.cache.length d) b x.stable.length c x.taken x.power s j i x.off w
end Go.Proofs.YtejmknghkbobnaaGreatDoor
