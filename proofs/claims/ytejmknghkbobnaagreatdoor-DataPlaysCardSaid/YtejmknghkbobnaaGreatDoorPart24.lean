import Derived.Test.YtejmknghkbobnaaGreatDoorPart23
set_option linter.all false
set_option maxRecDepth 100000
set_option maxHeartbeats 0
namespace Go.Proofs.YtejmknghkbobnaaGreatDoor
open Go.Proofs.Tryz
open Go.RowKit Go.Maps
theorem jw {base n:Nat}{v:Value}{xs:List Value}{w:World}(D:w.ownsRow base 130 129 v n xs)(K:base<=w.heap.size)(A:Option Addr)(m c:Nat)(O:List Value)(hy:O.length=m*129)(hn:n+m<=1000)(hR:Reads w A O)(h1:∀u∈O,u.oneCell'=true):
  ∃v' w',(Builtin.append_ #[32,32] 32 #[v,.slice A m c]).run prog w=.ok v' w'/\w'.ownsRow base 130 129 v' (n+m) (xs++O)/\Below base w w'/\∀b,b<w.heap.size->v.ownBlock≠some b->w'.heap[b]?=w.heap[b]?:=by
 obtain⟨i,z,U,Y,an,ab,ao⟩:∃i z,prog.info? 130=some i/\i.zero=some z/\i.size=129/\i.bytes=136/\z.cells.size=129:=by
  have I:((prog.info? 130).bind fun i=>i.zero.map fun z=>(i.size,i.bytes,z.cells.size))=some (129,136,129):=by kernel_rfl
  cases U:prog.info? 130 with
  | none=>rw[U]at I;cases I
  | some i=>
   rw[U]at I;cases Y:i.zero with
   | none=>rw[Option.bind_some,Y]at I;cases I
   | some z=>
    rw[Option.bind_some,Y]at I;simp only[Option.map_some,lx,Prod.mk.injEq]at I;exact⟨i,z,rfl,Y,I.1,I.2.1,I.2.2⟩
 rcases A with _|ad
 ·rcases hR with h|⟨b,off,K,-⟩
  ·subst h;have ac:m=0:=by simp at hy;omega
   subst ac;exact⟨_,_,dh w base _ _ _ i 129 underlying32 U _ _ _ D c,by simpa using D,kF _ _,fun _ _ _=>rfl⟩
  ·cases K
 ·have J:∀j u,O[j]?=some u->w.cell? (ad.add j)=some u:=fun j u hu=>by
   rcases hR with h|⟨b,off,K,aL,hc⟩
   ·subst h;simp at hu
   ·cases K;rw[ep];exact hc j u hu
  obtain⟨v1,w1,V,M,T,-,av⟩:=run_append_own_at (P:=prog) w base 32 32 130 i z 129 136 underlying32 U Y an ab ao (by omega) _ _ _ D ad m c O hy J h1 (by simp only[maxLen];omega) (by omega) K
  exact⟨v1,w1,V,M,(kF base w).grown T K (fun k hk=>(ce D k hk).1),fun b K hn=>T.block b K (fun e=>hn e.symm)⟩
theorem z8a {base n:Nat}{v:Value}{xs:List Value}{w:World}(D:w.ownsRow base 118 3 v n xs)(K:base<=w.heap.size)(A:Option Addr)(m c:Nat)(O:List Value)(hy:O.length=m*3)(hn:n+m<=1000)(hR:Reads w A O)(h1:∀u∈O,u.oneCell'=true):
  ∃v' w',(Builtin.append_ #[48,48] 48 #[v,.slice A m c]).run prog w=.ok v' w'/\w'.ownsRow base 118 3 v' (n+m) (xs++O)/\Below base w w'/\∀b,b<w.heap.size->v.ownBlock≠some b->w'.heap[b]?=w.heap[b]?:=by
 obtain⟨i,z,U,Y,an,ab,ao⟩:∃i z,prog.info? 118=some i/\i.zero=some z/\i.size=3/\i.bytes=32/\z.cells.size=3:=by
  have I:((prog.info? 118).bind fun i=>i.zero.map fun z=>(i.size,i.bytes,z.cells.size))=some (3,32,3):=by kernel_rfl
  cases U:prog.info? 118 with
  | none=>rw[U]at I;cases I
  | some i=>
   rw[U]at I;cases Y:i.zero with
   | none=>rw[Option.bind_some,Y]at I;cases I
   | some z=>
    rw[Option.bind_some,Y]at I;simp only[Option.map_some,lx,Prod.mk.injEq]at I;exact⟨i,z,rfl,Y,I.1,I.2.1,I.2.2⟩
 rcases A with _|ad
 ·rcases hR with h|⟨b,off,K,-⟩
  ·subst h;have ac:m=0:=by simp at hy;omega
   subst ac;exact⟨_,_,dh w base _ _ _ i 3 underlying48 U _ _ _ D c,by simpa using D,kF _ _,fun _ _ _=>rfl⟩
  ·cases K
 ·have J:∀j u,O[j]?=some u->w.cell? (ad.add j)=some u:=fun j u hu=>by
   rcases hR with h|⟨b,off,K,aL,hc⟩
   ·subst h;simp at hu
   ·cases K;rw[ep];exact hc j u hu
  obtain⟨v1,w1,V,M,T,-,av⟩:=run_append_own_at (P:=prog) w base 48 48 118 i z 3 32 underlying48 U Y an ab ao (by omega) _ _ _ D ad m c O hy J h1 (by simp only[maxLen];omega) (by omega) K
  exact⟨v1,w1,V,M,(kF base w).grown T K (fun k hk=>(ce D k hk).1),fun b K hn=>T.block b K (fun e=>hn e.symm)⟩
theorem z9V {base n:Nat}{v:Value}{xs:List Value}{w:World}(D:w.ownsRow base 4 1 v n xs)(K:base<=w.heap.size)(A:Option Addr)(m c:Nat)(O:List Value)(hy:O.length=m*1)(hn:n+m<=1000)(hR:Reads w A O)(h1:∀u∈O,u.oneCell'=true):
  ∃v' w',(Builtin.append_ #[45,45] 45 #[v,.slice A m c]).run prog w=.ok v' w'/\w'.ownsRow base 4 1 v' (n+m) (xs++O)/\Below base w w'/\∀b,b<w.heap.size->v.ownBlock≠some b->w'.heap[b]?=w.heap[b]?:=by
 obtain⟨i,z,U,Y,an,ab,ao⟩:∃i z,prog.info? 4=some i/\i.zero=some z/\i.size=1/\i.bytes=1/\z.cells.size=1:=by
  have I:((prog.info? 4).bind fun i=>i.zero.map fun z=>(i.size,i.bytes,z.cells.size))=some (1,1,1):=by kernel_rfl
  cases U:prog.info? 4 with
  | none=>rw[U]at I;cases I
  | some i=>
   rw[U]at I;cases Y:i.zero with
   | none=>rw[Option.bind_some,Y]at I;cases I
   | some z=>
    rw[Option.bind_some,Y]at I;simp only[Option.map_some,lx,Prod.mk.injEq]at I;exact⟨i,z,rfl,Y,I.1,I.2.1,I.2.2⟩
 rcases A with _|ad
 ·rcases hR with h|⟨b,off,K,-⟩
  ·subst h;have ac:m=0:=by simp at hy;omega
   subst ac;exact⟨_,_,dh w base _ _ _ i 1 underlying45 U _ _ _ D c,by simpa using D,kF _ _,fun _ _ _=>rfl⟩
  ·cases K
 ·have J:∀j u,O[j]?=some u->w.cell? (ad.add j)=some u:=fun j u hu=>by
   rcases hR with h|⟨b,off,K,aL,hc⟩
   ·subst h;simp at hu
   ·cases K;rw[ep];exact hc j u hu
  obtain⟨v1,w1,V,M,T,-,av⟩:=run_append_own_at (P:=prog) w base 45 45 4 i z 1 1 underlying45 U Y an ab ao (by omega) _ _ _ D ad m c O hy J h1 (by simp only[maxLen];omega) (by omega) K
  exact⟨v1,w1,V,M,(kF base w).grown T K (fun k hk=>(ce D k hk).1),fun b K hn=>T.block b K (fun e=>hn e.symm)⟩
theorem RSt.sec {w:World}{P:Nat->Prop}{A C:Option Addr}{x:DevS}(h:RSt w P A C x):∃S,A=some ⟨S,0,none⟩/\S<w.heap.size/\∀k,k<x.stable.length->SecAt w ⟨S,k*128,none⟩ (x.stable.getD k []):=by
 have hlo:=h.ok.lo;have c:0<(x.stable.flatMap bd).length:=by rw[gP fun s J=>(h.ok.sec s J).1];omega
 rcases h.sta with M|⟨b,off,e,T,O⟩
 ·rw[M]at c;simp at c
 ·have K:=(h.la _ e).2;simp only[Addr.mk.injEq,and_true,true_and]at K;subst K;refine⟨b,e,T,fun k I=>?_⟩
  have J:=h.ok.sec _ (li I);rw[kN,kQ I,Option.getD_some];refine⟨J.1,rfl,fun j V=>?_⟩
  have:=O (k*128+j) (.int .u8 ((x.stable[k]).getD j 0)) (by
   rw[eb (f:=bd) (m:=128) (fun q U=>by rw[dy];exact(h.ok.sec q U).1) (by omega) I]
   have D:j<(x.stable[k]).length:=by omega
   simp[bd,D,kN])
  rw[ld]at this;exact this
def ju (x:DevS)(a:Int)(w:World)(e:Ending)(w':World):Prop:=
 e=.returned (.tuple #[.agg (ag (if x.atE a=0 then x.reads a else zsec)),.int .i64 (x.atE a)])/\Zr w w'
theorem z2a {x:DevS}(h:x.cache=[])(a:Int):x.reads a=x.stable.getD a.toNat []:=by
 unfold DevS.reads DevS.idx dw;rw[h];rfl
theorem zbg {x:DevS}(h:x.off=true)(a:Int):x.atE a=13:=by
 show Go.Proofs.YtejmknghkbobnaaGreatDoor.atE x.off x.stable.length a=13
 unfold Go.Proofs.YtejmknghkbobnaaGreatDoor.atE;rw[h];rfl
theorem zbh {x:DevS}(h:x.off=false){a:Int}(c:a<0\/(x.stable.length:Int)<=a):x.atE a=7:=by
 show Go.Proofs.YtejmknghkbobnaaGreatDoor.atE x.off x.stable.length a=7
 unfold Go.Proofs.YtejmknghkbobnaaGreatDoor.atE;rw[h,if_neg (by simp),if_pos c]
def DevS.Calm (x:DevS):Prop:=x.cache=[]\/x.off=true
theorem z7s (P:Nat->Prop)(A C:Option Addr)(c d:Nat)(x:DevS)(a:Int)(w:World)(U:RSt w P A C x)(hs:x.Calm):
  Calls prog 196 #[stV A c C d x,.int .i64 a] w (ju x a w):=by
 obtain⟨S,rfl,Y,J⟩:=U.sec;have K:=U.ok.hi;have I:∀E:Int,x.atE a=E->E≠0->ju x a w=(Zq (.tuple #[.agg (ag zsec),.int .i64 E]) w):=fun E hE T=>by
  funext e w'
  unfold ju;rw[hE,if_neg T]
 have hz:=cy;obtain⟨w0,D⟩:=zex ((w.alloc (.cells (ap (.slice (some ⟨S,0,none⟩) x.stable.length c) (.slice C x.cache.length d) x.taken x.power x.off) 34)).alloc (.cells (ag zsec) 128));have O:Blk w0 w.heap.size 34 (ap (.slice (some ⟨S,0,none⟩) x.stable.length c) (.slice C x.cache.length d) x.taken x.power x.off):=by rw[D];exact zbn
 have M:Blk w0 (w.heap.size+1) 128 (ag zsec):=by rw[D];exact zbn
 have V:Zr w w0:=by rw[D];exact zgr
 cases ho:x.off
 ·have hc:x.cache=[]:=by rcases hs with h|h;exact h;rw[ho]at h;cases h
  by_cases ha:a<0\/(x.stable.length:Int)<=a
  ·rw[I 7 (zbh ho ha) (by decide)]
   rw[ho]at O D;unfold stV;rw[ho];unfold ap at *;generalize x.stable.length=n at *;clear J K U I hc;have hd:a<0\/(¬a<0/\(n:Int)<=a):=by omega
   rcases hd with hd|⟨hd,ab⟩
   ·go_enter func196,ntmps196
    go_upto_region 1 with fail
    rw[<-D];clear D;obtain⟨cD,lD⟩:=O.zc;go_wp2_with (first|(refine ct rfl 128 _ rfl (ag zsec) gM ?_)|(refine aA rfl _ _ rfl (w.heap.size+1) zsec rfl rfl M am am ?_))
    refine bodyPost_ret (fp rfl rfl rfl (M.setRow (cs':=ag zsec)) am) rfl ?_;exact⟨rfl,Below.setRow V (by omega) _⟩
   ·go_enter func196,ntmps196
    go_upto_region 1 with fail
    rw[<-D];clear D;obtain⟨cD,lD⟩:=O.zc;go_wp2_with (first|(refine ct rfl 128 _ rfl (ag zsec) gM ?_)|(refine aA rfl _ _ rfl (w.heap.size+1) zsec rfl rfl M am am ?_))
    refine bodyPost_ret (fp rfl rfl rfl (M.setRow (cs':=ag zsec)) am) rfl ?_;exact⟨rfl,Below.setRow V (by omega) _⟩
  ·obtain⟨k,rfl⟩:=lz (show 0<=a by omega)
   have hk:k<x.stable.length:=by omega
   have T:x.atE (k:Int)=0:=kc ho (by omega)
   have h:=z4d (C0:=C) (d0:=d) S x.stable.length c k x.taken x.power _ hk K w Y (J k hk);have e1:stV (some ⟨S,0,none⟩) c C d x=.agg (ap (.slice (some ⟨S,0,none⟩) x.stable.length c) (.slice C 0 d) x.taken x.power false):=by
    unfold stV;rw[hc,ho];rfl
   rw[e1];refine h.mono ?_;rintro e w' ⟨rfl,hb⟩;refine⟨?_,hb⟩
   rw[if_pos T,T,z2a hc];rfl
 ·rw[I 13 (zbg ho a) (by decide)]
  rw[ho]at O D;unfold stV;rw[ho];unfold ap at *;clear J K U I;go_enter func196,ntmps196
  go_upto_region 1 with fail
  rw[<-D];clear D;obtain⟨cD,lD⟩:=O.zc;go_wp2_with (first|(refine ct rfl 128 _ rfl (ag zsec) gM ?_)|(refine aA rfl _ _ rfl (w.heap.size+1) zsec rfl rfl M am am ?_))
  refine bodyPost_ret (fp rfl rfl rfl (M.setRow (cs':=ag zsec)) am) rfl ?_;exact⟨rfl,Below.setRow V (by omega) _⟩
def gj (x:DevS)(a:Int)(w:World)(e:Ending)(w':World):Prop:=
 e=.returned (.tuple #[.agg (frV (x.fr a)),.int .i64 (x.ge a)])/\Zr w w'
theorem z4c (P:Nat->Prop)(A C:Option Addr)(c d:Nat)(x:DevS)(a:Int)(w:World)(U:RSt w P A C x)(hs:x.Calm):
  Calls prog 132 #[stV A c C d x,.int .i64 a] w (gj x a w):=by
 by_cases K:x.atE a=0
 ·obtain⟨S,rfl,av,an⟩:=U.sec;obtain⟨ho,ha⟩:x.off=false/\0<=a/\a<x.stable.length:=by
   have Y:Go.Proofs.YtejmknghkbobnaaGreatDoor.atE x.off x.stable.length a=0:=K;refine⟨?_,jb Y⟩
   cases ho:x.off
   ·rfl
   ·rw[ho]at Y;exact absurd (show (13:Int)=0 from Y) (by decide)
  have hc:x.cache=[]:=by rcases hs with h|h;exact h;rw[ho]at h;cases h
  obtain⟨k,rfl⟩:=lz ha.1;have hk:k<x.stable.length:=by omega
  have aL:=U.ok.sec _ (li hk);have hg:x.stable.getD k []=x.stable[k]:=by rw[kN,kQ hk,Option.getD_some]
  have h:=zaF (C0:=C) (d0:=d) S x.stable.length c k x.taken x.power _ (by rw[hg];exact aL.2) hk U.ok.hi w av (an k hk)
  have e1:stV (some ⟨S,0,none⟩) c C d x=.agg (ap (.slice (some ⟨S,0,none⟩) x.stable.length c) (.slice C 0 d) x.taken x.power false):=by
   unfold stV;rw[hc,ho];rfl
  rw[e1];refine h.mono ?_;rintro e w' ⟨hb,rfl⟩;refine⟨?_,hb⟩
  have I:=zb2 x (k:Int);have h2:x.get (k:Int)=(cY k (x.stable.getD k []),jf k (x.stable.getD k [])):=by
   unfold DevS.get ko getV;have Y:Go.Proofs.YtejmknghkbobnaaGreatDoor.atE x.off x.stable.length (k:Int)=0:=K;rw[if_pos Y,if_pos Y,z2a hc];rfl
  rw[h2]at I;simp only[Prod.mk.injEq]at I;rw[I.1,I.2]
 ·have hr:=fun w U=>z7s P A C c d x a w U hs
  have T:x.ge a=x.atE a:=by
   show ko x.off x.stable.length a (x.reads a)=_
   unfold ko;exact if_neg K
  have ac:frV (x.fr a)=#[Value.int .i64 0,Value.int .u32 0,Value.string ⟨#[]⟩]:=by
   unfold DevS.fr;rw[T,if_neg K];rfl
  have hP:gj x a w=(Zq (.tuple #[.agg #[Value.int .i64 0,Value.int .u32 0,Value.string ⟨#[]⟩],.int .i64 (x.atE a)]) w):=by
   funext e w'
   unfold gj;rw[T,ac]
  rw[hP];obtain⟨w0,D⟩:=zex ((w.alloc (.cells (ap (.slice A x.stable.length c) (.slice C x.cache.length d) x.taken x.power x.off) 34)).alloc (.cells #[Value.int .i64 0,Value.int .u32 0,Value.string ⟨#[]⟩] 190));have bD:Blk w0 w.heap.size 34 (ap (.slice A x.stable.length c) (.slice C x.cache.length d) x.taken x.power x.off):=by rw[D];exact zbn
  have bR:Blk w0 (w.heap.size+1) 190 #[Value.int .i64 0,Value.int .u32 0,Value.string ⟨#[]⟩]:=by rw[D];exact zbn
  have B0:Zr w w0:=by rw[D];exact zgr
  have hz:=cy;replace hr:=hr w0 (U.below B0);unfold ju at hr;rw[if_neg K]at hr;generalize x.atE a=E at *;have hE:(E != 0)=true:=by simpa using K
  clear T ac hP U hs K;unfold stV ap at *;go_enter func132,ntmps132
  go_upto_region 1 with fail
  rw[<-D];clear D;obtain⟨cD,lD⟩:=bD.zc;go_wp2_with fail
  refine hr.mono ?_;rintro e V ⟨rfl,ab⟩;have ao:=bR.mD ab;have B1:=B0.trans (ab.mono B0.size);have bT:Blk (V.alloc (.cells (ag zsec) 128)) V.heap.size 128 (ag zsec):=Blk.new _ _ _;clear cD lD;go_upto_region 2 with (refine aA rfl _ _ rfl V.heap.size zsec rfl rfl bT am am ?_)
  obtain⟨W2,O⟩:=zex (World.setRow (V.alloc (.cells (ag zsec) 128)) V.heap.size (ag zsec));rw[<-O];have M:Zr V W2:=by rw[O];exact Below.setRow ((kF _ _).alloc (kE _) _) (kE _) _
  have J:=ao.mD M;have B2:Zr w W2:=B1.trans (M.mono B1.size);clear O M bT;have cR:=J.cells;have fR:=J.free;have lR:=J.lt;go_wp2_with fail
  refine bodyPost_ret (v:=.tuple #[.agg #[Value.int .i64 0,Value.int .u32 0,Value.string ⟨#[]⟩],.int .i64 E]) (by simp[results,results132,go_sem,cR,lR]) rfl ?_
  exact⟨rfl,zgr⟩
open Go
inductive Tr where
 | done
 | take (k:Nat) (r:Tr)
 | one (k:Nat) (r:Tr)
 | fork (i j:Nat) (r1 r2:Tr)
 | last (k:Nat)
inductive Tf where
 | done
 | take (o:Oper) (r:Tf)
 | one (o:Oper) (r:Tf)
 | fork (o p:Oper) (r1 r2:Tf)
 | last (o:Oper)
def Tr.takes:List Nat->Tr->Tr
 | [],r=>r
 | k::t,r=>.take k (Tr.takes t r)
def Tr.fill (l:List Oper)(d:Oper):Tr->Tf
 | .done=>.done
 | .take k r=>.take (l.getD k d) (r.fill l d)
 | .one k r=>.one (l.getD k d) (r.fill l d)
 | .fork i j r1 r2=>.fork (l.getD i d) (l.getD j d) (r1.fill l d) (r2.fill l d)
 | .last k=>.last (l.getD k d)
def Tr.size:Tr->Nat
 | .done=>0
 | .take _ r=>r.size+1
 | .one _ r=>r.size+1
 | .fork _ _ r _=>r.size+1
 | .last _=>1
section
variable {P:Program}{ops:Array Oper}{Q:Exit->Act->World->Prop}{S:World->Prop}
def gy (P:Program)(ops:Array Oper)(Q:Exit->Act->World->Prop)(S:World->Prop):Tf->Act->World->Prop
 | .done,a,w=>Q .normal a w
 | .take o r,a,w=>∃v,YieldsIf P ops S o v a/\gy P ops Q S r (a.put o.dst v) w
 | .one o r,a,w=>o.wp P a w (fun a' w'=>S w'/\gy P ops Q S r a' w') Q
 | .fork o p r1 r2,a,w=>o.wp P a w (fun a' w'=>S w'/\gy P ops Q S r1 a' w') Q/\p.wp P a w (fun a' w'=>S w'/\gy P ops Q S r2 a' w') Q
 | .last o,a,w=>o.wp P a w (fun a' w'=>Q .normal a' w') Q
def jr (ops:Array Oper)(T:Nat):Tr->Array Bool->Bool
 | .done,L=>decide (Region.ready .any ops L=[])
 | .take k r,L=>decide (k<ops.size)&&(Region.ready .any ops L).contains k&&Region.free .any ops L k&&((List.range ops.size).all fun j=>decide (j<T)||Region.waitsFor .any ops j k)&&jr ops T r (L.setIfInBounds k true)
 | .one k r,L=>bare ops k&&decide (Region.ready .any ops L=[k])&&jr ops T r (L.setIfInBounds k true)
 | .fork i j r1 r2,L=>bare ops i&&bare ops j&&decide (Region.ready .any ops L=[i,j]\/Region.ready .any ops L=[j,i])&&decide (r1.size=r2.size)&&jr ops T r1 (L.setIfInBounds i true)&&jr ops T r2 (L.setIfInBounds j true)
 | .last k,L=>bare ops k&&decide (Region.ready .any ops L=[k])&&decide (T<=k)&&decide (Region.ready .any ops (L.setIfInBounds k true)=[])
theorem ja {l:List Oper}{d:Oper}{T:Nat}(D:Region.noSelect l.toArray=true)(hQ:∀c a d v w,Q (.panic c) (Act.put a d v) w->Q (.panic c) a w):
  ∀(t:Tr) (L:Array Bool) (a:Act) (w:World),S w->jr l.toArray T t L=true->gy P l.toArray Q S (t.fill l d) a w->anyS P l.toArray Q S T t.size L a w
 | .done,L,a,w,_,hB,h=>by
  simp only[jr,decide_eq_true_eq]at hB;exact⟨hB,h⟩
 | .take k r,L,a,w,hS,hB,h=>by
  simp only[jr,lq,decide_eq_true_eq]at hB;obtain⟨⟨⟨⟨O,A⟩,h2⟩,h3⟩,Y⟩:=hB;have O:l.toArray[k]?=some (l.getD k d):=by
   have O:k<l.length:=by simpa using O
   simp[kN,O]
  obtain⟨v,hy,h⟩:=h;exact kb O D (fun j hj ac=>by have:=List.all_eq_true.1 h3 j (List.mem_range.2 ac);simp only[Bool.or_eq_true,decide_eq_true_eq]at this;rcases this with h|h;(exact absurd h (by omega));exact h) hQ _ L a w (Region.free_spec O h2) (by simpa using A) hy hS (ja D hQ r _ _ _ hS Y h)
 | .one k r,L,a,w,hS,hB,h=>by
  simp only[jr,lq,decide_eq_true_eq]at hB;obtain⟨⟨I,A⟩,Y⟩:=hB;refine⟨fun e=>(by rw[A]at e;cases e),fun i hi=>?_⟩
  rw[A]at hi;have K:i=k:=by simpa using hi
  subst K;refine dk (dH (d:=d) I) I (Oper.wp_mono ?_ h);rintro M V ⟨s1,J⟩;exact⟨fun _=>s1,ja D hQ r _ M V s1 Y J⟩
 | .fork i j r1 r2,L,a,w,hS,hB,h=>by
  simp only[jr,lq,decide_eq_true_eq]at hB;obtain⟨⟨⟨⟨⟨I,b2⟩,A⟩,hN⟩,m1⟩,m2⟩:=hB;obtain⟨H1,H2⟩:=h;have ab:∀k,k∈Region.ready .any l.toArray L->k=i\/k=j:=fun k U=>by
   rcases A with A|A
   ·rw[A]at U;simpa using U
   ·rw[A]at U;simpa[or_comm]using U
  refine⟨fun e=>(by rcases A with A|A<;>(rw[A]at e;cases e)),fun k U=>?_⟩
  rcases ab k U with e|e
  ·subst e;refine dk (dH (d:=d) I) I (Oper.wp_mono ?_ H1);rintro M V ⟨s1,J⟩;exact⟨fun _=>s1,ja D hQ r1 _ M V s1 m1 J⟩
  ·subst e;refine dk (dH (d:=d) b2) b2 (Oper.wp_mono ?_ H2);rintro M V ⟨s1,J⟩;refine⟨fun _=>s1,?_⟩
   rw[hN];exact ja D hQ r2 _ M V s1 m2 J
 | .last k,L,a,w,hS,hB,h=>by
  simp only[jr,lq,decide_eq_true_eq]at hB;obtain⟨⟨⟨I,A⟩,hT⟩,Y⟩:=hB;refine⟨fun e=>(by rw[A]at e;cases e),fun i hi=>?_⟩
  rw[A]at hi;have K:i=k:=by simpa using hi
  subst K;refine dk (dH (d:=d) I) I (Oper.wp_mono ?_ h);intro M V J;exact⟨fun an=>absurd an (by omega),⟨Y,J⟩⟩
theorem j6 {id:Nat}{a:Act}{w:World}{o:Oper}{l:List Oper}(t:Tr)(T:Nat)(S:World->Prop)(M:P.follows .mixedOrders=true)
  (A:(Region.noSelect (o::l).toArray&&decide (t.size=(o::l).length)&&jr (o::l).toArray T t (Array.replicate (o::l).length false))=true)
  (D:∀c a t v w,Q (.panic c) (Act.put a (some t) v) w->Q (.panic c) a w) (K:S w.drew)
  (h:gy P (o::l).toArray Q S (t.fill (o::l) o) a w.drew):(Code.region id (o::l).toArray true).wp P Q a w:=by
 have J:∀c a d v w,Q (.panic c) (Act.put a d v) w->Q (.panic c) a w:=fun c a d v w h=>by
  cases d with
  | none=>exact h
  | some t=>exact D c a t v w h
 simp only[lq,decide_eq_true_eq]at A;obtain⟨⟨I,O⟩,A⟩:=A;refine wp_region_any M ?_;have H:=ja (P:=P) (Q:=Q) (S:=S) (T:=T) I J t (Array.replicate (o::l).length false) a w.drew K A h;rw[O]at H;have:=j9 _ _ _ _ H
 simpa using this
theorem jP {o:Oper}{a:Act}{w:World}(h:∀K:Act->World->Prop,(∀c A,Q .normal c A->K c A)->o.wp P a w K Q):gy P ops Q S (.last o) a w:=h _ fun _ _ x=>x
theorem gh {o:Oper}{r:Tf}{a:Act}{w:World}(c:Region.wanted o (yielded ops a.tmps)=true)(v:Value)(A:∀w,S w->(execOp a.eval o).run P w=.ok (.value v) w)(h:gy P ops Q S r (a.put o.dst v) w):gy P ops Q S (.take o r) a w:=
 ⟨v,.inl ⟨c,A⟩,h⟩
theorem gu {o:Oper}{r:Tf}{a:Act}{w:World}(h:∀K:Act->World->Prop,(∀A c,S c->gy P ops Q S r A c->K A c)->o.wp P a w K Q):gy P ops Q S (.one o r) a w:=h _ fun _ _ x y=>⟨x,y⟩
theorem z4s {o p:Oper}{D I:Tf}{a:Act}{w:World}
  (J:∀K:Act->World->Prop,(∀A c,S c->gy P ops Q S D A c->K A c)->o.wp P a w K Q) (M:∀K:Act->World->Prop,(∀A c,S c->gy P ops Q S I A c->K A c)->p.wp P a w K Q):gy P ops Q S (.fork o p D I) a w:=
 ⟨J _ fun _ _ x y=>⟨x,y⟩,M _ fun _ _ x y=>⟨x,y⟩⟩
end
theorem z3R {o:Oper}{a:Act}{p:Addr}{l:List Int}{w:World}(x:Operand)(c:o.op=.load 128 x)(D:a.eval x=.pointer (some p))(A:SecAt w p l):(execOp a.eval o).run prog w=.ok (.value (.agg (ag l))) w:=by
 unfold execOp;simp only[c,D,Instr.loadAt,Instr.sureAddr,Sem.run_bind,Sem.run_pure,Result.andThen_ok,A.load]
end Go.Proofs.YtejmknghkbobnaaGreatDoor
