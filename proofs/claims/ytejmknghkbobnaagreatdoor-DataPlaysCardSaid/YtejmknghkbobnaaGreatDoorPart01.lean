import Derived.Test.YtejmknghkbobnaaGreatDoorPart00
import Derived.Deep.RegionWith
import Derived.Deep.RegionHeld3
import Derived.Deep.QuietTactic
import Derived.Test.YtejmknghkbobnaaGreatDoorProg
import Derived.ProofKit
import Derived.Deep.Slices
set_option linter.all false
set_option maxRecDepth 100000
set_option maxHeartbeats 0
namespace Go.Proofs.YtejmknghkbobnaaGreatDoor
open Go.Proofs.Tryz
open Go.RowKit
theorem z1r {k:IntKind}{a b:Int}(h:a=b):Ending.returned (.int k a)=.returned (.int k b):=by rw[h]
def Reads (w:World)(A:Option Addr)(xs:List Value):Prop:=
 xs=[]\/∃b off,A=some ⟨b,off,none⟩/\b<w.heap.size/\∀j u,xs[j]?=some u->w.cell? ⟨b,off+j,none⟩=some u
theorem Reads.nil {w:World}{A:Option Addr}:Reads w A []:=.inl rfl
theorem Reads.below {w w':World}{A:Option Addr}{xs:List Value}(h:Reads w A xs)(D:Zr w w'):Reads w' A xs:=by
 rcases h with h|⟨b,off,I,c,J⟩
 ·exact .inl h
 ·exact .inr ⟨b,off,I,lh c D.size,fun j u K=>(D.cell (p:=⟨b,off+j,none⟩) c).trans (J j u K)⟩
theorem Reads.at_ {w:World}{A:Option Addr}{xs:List Value}(h:Reads w A xs){k:Nat}(D:k<xs.length):
  ∃b off,A=some ⟨b,off,none⟩/\b<w.heap.size/\w.cell? ⟨b,off+k,none⟩=some xs[k]:=by
 rcases h with h|⟨b,off,I,c,J⟩
 ·subst h;simp at D
 ·exact⟨b,off,I,c,J k _ (kQ D)⟩
theorem Reads.alloc {w:World}{A:Option Addr}{xs:List Value}(h:Reads w A xs)(o:Obj):Reads (w.alloc o) A xs:=
 h.below ((kF _ _).alloc (kE _) _)
theorem Reads.ng {w:World}{base:Nat}{e:TypeId}{A:Option Addr}{n c:Nat}{xs:List Value}(h:w.ownsRow base e 1 (.slice A n c) n xs):Reads w A xs:=by
 obtain⟨S,J⟩:=h;rcases J with ⟨_,J⟩|⟨g,O,I,M,hg,K,U,V,Y,T⟩
 ·left;subst J;simpa using S
 ·right
  simp only[Value.slice.injEq]at M;refine⟨g,0,M.1,?_,fun j u D=>?_⟩
  ·exact(lu.1 K).1
  ·rw[cell_of_row w g (0+j) I e (0,0) K];rw[<-T,mh]at D;split at D
   ·simpa using D
   ·simp at D
theorem er {W D:World}{k:Nat}{cs:Array Value}{t:TypeId}{m:Nat × Nat}(I:Zr W D)(A:W.heap[k]?=some (.cells cs t m)):∀j,D.cell? ⟨k,j,none⟩=cs[j]?:=fun j=>by
 have c:k<W.heap.size:=(lu.1 A).1;rw[I.cell (p:=⟨k,j,none⟩) c];exact cell_of_row W k j cs t m A
theorem et {W D:World}{k:Nat}{cs:Array Value}{t:TypeId}(I:Zr W D)(A:W.heap[k]?=some (.cells cs t (0,0))):∀j,D.frozen? ⟨k,j,none⟩=false:=fun j=>by
 have c:k<W.heap.size:=(lu.1 A).1;rw[I.frozen (p:=⟨k,j,none⟩) c];simp[World.frozen?,A]
theorem hp1 (w:World)(o:Obj):(w.alloc o).heap[w.heap.size]?=some o:=heap_alloc_new w o
theorem z8D {w:World}{k:Nat}{o:Obj}(h:w.heap[k]?=some o)(p:Obj):(w.alloc p).heap[k]?=some o:=
 (Below.heap_alloc w p k (lu.1 h).1).trans h
theorem hp20 (w:World)(o p:Obj):((w.alloc o).alloc p).heap[w.heap.size]?=some o:=z8D (hp1 w o) p
theorem hp21 (w:World)(o p:Obj):((w.alloc o).alloc p).heap[w.heap.size+1]?=some p:=by have:=hp1 (w.alloc o) p;rwa [World.size_alloc]at this
theorem hpL {w:World}{o:Obj}{k:Nat}(h:k=w.heap.size):(w.alloc o).heap[k]?=some o:=by subst h;exact hp1 w o
theorem hpLd {w:World}{o:Obj}{k:Nat}(h:k=w.heap.size):(w.alloc o).drew.heap[k]?=some o:=hpL h
theorem dq {w c:World}{o:Obj}(A:Below (w.alloc o).heap.size (w.alloc o) c):Zr w c:=
 ((kF _ _).alloc (kE _) _).trans (A.mono (by simp))
theorem eE {w c:World}{o p:Obj}(A:Below ((w.alloc o).alloc p).heap.size ((w.alloc o).alloc p) c):Zr w c:=
 dq (dq A)
theorem z3D {w c:World}{o p q:Obj}(A:Below (((w.alloc o).alloc p).alloc q).heap.size (((w.alloc o).alloc p).alloc q) c):Zr w c:=
 eE (dq A)
theorem sz1 {w c:World}{o:Obj}(A:Below (w.alloc o).heap.size (w.alloc o) c):w.heap.size<c.heap.size:=by have:=A.size;simp at this;omega
theorem sz2 {w c:World}{o p:Obj}(A:Below ((w.alloc o).alloc p).heap.size ((w.alloc o).alloc p) c):w.heap.size<c.heap.size/\w.heap.size+1<c.heap.size:=by have:=A.size;simp at this;omega
section
variable {P:Program}(w:World)
theorem dh (base:Nat)(t ty e:TypeId)(i:TypeInfo)(size:Nat)(I:P.underlying t=some (.slice e))(hi:P.info? e=some i)
  (v:Value) (n:Nat) (xs:List Value) (A:w.ownsRow base e size v n xs) (c:Nat):(Builtin.append_ #[t,t] ty #[v,.slice none 0 c]).run P w=.ok v w:=by
 rcases A.2 with ⟨rfl,rfl⟩|⟨g,J,K,rfl,_,_,D,_⟩
 ·simp[Builtin.append_,run_underlying I,sizeOf,typeInfo,hi,Builtin.lenOf,Builtin.firstCells]
 ·simp[Builtin.append_,run_underlying I,sizeOf,typeInfo,hi,Builtin.lenOf,Builtin.firstCells,D,storeCells]
theorem z1J (base:Nat)(t ty e:TypeId)(i:TypeInfo)(z:Value)(D:Nat)(ht:P.underlying t=some (.slice e))(hi:P.info? e=some i)(hz:i.zero=some z)
  (S:i.size=1) (ab:i.bytes=D) (an:z.cells.size=1)
  (v:Value) (n:Nat) (xs:List Value) (I:w.ownsRow base e 1 v n xs)
  (A:Option Addr) (m c:Nat) (news:List Value) (hm:news.length=m) (hA:A=none->m=0) (hr:Reads w A news) (h1:∀u∈news,u.oneCell'=true)
  (Y:n+m<=maxLen) (J:(n+m)*D<=140737488355328) (O:base<=w.heap.size):
  ∃T w',(Builtin.append_ #[t,t] ty #[v,.slice A m c]).run P w=.ok T w'/\w'.ownsRow base e 1 T (n+m) (xs++news)/\w.grownBy w' v.ownBlock /\
   (T.ownBlock=v.ownBlock\/T.ownBlock=some w.heap.size):=by
 rcases A with _|ad
 ·have ac:=hA rfl;subst ac;have hn:news=[]:=md hm;subst hn;exact⟨v,w,dh w base t ty e i 1 ht hi v n xs I c,by simpa using I,World.grownBy.refl w _,.inl rfl⟩
 ·have K:∀j u,news[j]?=some u->w.cell? (ad.add j)=some u:=by
   intro j u hu;rcases hr with V|⟨b,off,M,_,hc⟩
   ·subst V;simp at hu
   ·injection M with M
    subst M;have:=hc j u hu
    unfold Addr.add;split
    ·rename_i V;subst V;simpa using this
    ·exact this
  obtain⟨T,w',U,h2,h3,_,h5⟩:=run_append_own_at (P:=P) w base t ty e i z 1 D ht hi hz S ab an (by omega) v n xs I ad m c news (by omega) K h1 Y J O
  exact⟨T,w',U,h2,h3,h5⟩
theorem z3n {o:Oper}{a:Act}{K:Act->World->Prop}{Q:Exit->Act->World->Prop}(s x:Operand)(t:TypeId)
  (ho:o.op=.call { callee:=.builtin .append,args:=#[s,x],argTypes:=#[t,t] })
  (base:Nat) (e:TypeId) (i:TypeInfo) (z:Value) (D:Nat) (ht:P.underlying t=some (.slice e)) (hi:P.info? e=some i) (hz:i.zero=some z)
  (M:i.size=1) (V:i.bytes=D) (Y:z.cells.size=1)
  (v:Value) (n:Nat) (xs:List Value) (hs:a.eval s=v) (S:w.ownsRow base e 1 v n xs)
  (A:Option Addr) (m c:Nat) (news:List Value) (hx:a.eval x=.slice A m c) (hm:news.length=m) (hA:A=none->m=0) (hr:Reads w A news) (h1:∀u∈news,u.oneCell'=true)
  (U:n+m<=maxLen) (I:(n+m)*D<=140737488355328) (J:base<=w.heap.size)
  (h:∀O w',w'.ownsRow base e 1 O (n+m) (xs++news)->w.grownBy w' v.ownBlock->(O.ownBlock=v.ownBlock\/O.ownBlock=some w.heap.size)->K (a.put o.dst O) w'):o.wp P a w K Q:=by
 obtain⟨O,w',T,h2,h3,h4⟩:=z1J (P:=P) w base t o.type e i z D ht hi hz M V Y v n xs S A m c news hm hA hr h1 U I J;unfold Oper.wp execOp;simp only[ho,resolve,invoke,builtin,Sem.run_bind,Sem.run_pure,Result.andThen_ok,List.map_toArray,kR,kS,hs,hx,T];exact h O w' h2 h3 h4
theorem dj {S:Array Oper}{rest:List Oper}{o:Oper}{a:Act}{Q:Exit->Act->World->Prop}(V:o.guard=none)(s x:Operand)(t:TypeId)
  (ho:o.op=.call { callee:=.builtin .append,args:=#[s,x],argTypes:=#[t,t] })
  (base:Nat) (e:TypeId) (i:TypeInfo) (z:Value) (D:Nat) (ht:P.underlying t=some (.slice e)) (hi:P.info? e=some i) (hz:i.zero=some z)
  (K:i.size=1) (U:i.bytes=D) (Y:z.cells.size=1)
  (v:Value) (n:Nat) (xs:List Value) (hs:a.eval s=v) (O:w.ownsRow base e 1 v n xs)
  (A:Option Addr) (m c:Nat) (news:List Value) (hx:a.eval x=.slice A m c) (hm:news.length=m) (hA:A=none->m=0) (hr:Reads w A news) (h1:∀u∈news,u.oneCell'=true)
  (T:n+m<=maxLen) (I:(n+m)*D<=140737488355328) (J:base<=w.heap.size)
  (h:∀M w',w'.ownsRow base e 1 M (n+m) (xs++news)->w.grownBy w' v.ownBlock->(M.ownBlock=v.ownBlock\/M.ownBlock=some w.heap.size)->wpList P S Q rest (a.put o.dst M) w'):wpList P S Q (o::rest) a w:=
 wpList_plain V fun _ hK=>z3n w s x t ho base e i z D ht hi hz K U Y v n xs hs O A m c news hx hm hA hr h1 T I J fun M w' h2 h3 h4=>hK _ _ (h M w' h2 h3 h4)
end
theorem dA {W:World}{base:Nat}{e:TypeId}{size:Nat}{v:Value}{k:Nat}{xs:List Value}(h:W.ownsRow base e size v k xs)(J:0<k):∃g c,v=.slice (some ⟨g,0,none⟩) k c/\base<=g/\g<W.heap.size:=by
 rcases h.2 with ⟨_,I⟩|⟨g,c,_,rfl,A,D,_⟩
 ·omega
 ·exact⟨g,c,rfl,A,(lu.1 D).1⟩
theorem aq {W I:World}{base:Nat}{e:TypeId}{size:Nat}{v:Value}{k:Nat}{xs:List Value}(h:W.ownsRow base e size v k xs)(M:Zr W I):I.ownsRow base e size v k xs:=by
 rcases h with ⟨K,D⟩
 refine⟨K,?_⟩
 rcases D with D|⟨g,c,A,S,O,J,r⟩
 ·exact .inl D
 ·exact .inr ⟨g,c,A,S,O,(M.block g (lu.1 J).1).trans J,r⟩
theorem aI {W:World}{base c:Nat}{e:TypeId}{size:Nat}{v:Value}{k:Nat}{xs:List Value}(h:W.ownsRow base e size v k xs)(M:c<=base):W.ownsRow c e size v k xs:=by
 rcases h with ⟨J,I⟩
 refine⟨J,?_⟩
 rcases I with I|⟨g,A,D,K,O,r⟩
 ·exact .inl I
 ·exact .inr ⟨g,A,D,K,by omega,r⟩
def fill (v:Value)(n:Nat):Array Value:=madeCells #[v] n
theorem z2C (v:Value)(n:Nat):fill v n=Array.replicate n v:=by
 unfold fill madeCells;apply Array.ext
 ·simp
 ·intro i c A;simp[Nat.mod_one]
theorem z11 (v:Value)(n:Nat):(fill v n).size=n:=by rw[z2C];simp
def Blk (w:World)(g:Nat)(t:TypeId)(cs:Array Value):Prop:=w.heap[g]?=some (.cells cs t (0,0))
section
variable {w w':World}{g:Nat}{t:TypeId}{cs:Array Value}
theorem Blk.lt (h:Blk w g t cs):g<w.heap.size:=(lu.1 h).1
theorem Blk.cells (h:Blk w g t cs):∀j,w.cell? ⟨g,j,none⟩=cs[j]?:=fun j=>cell_of_row w g j cs t (0,0) h
theorem Blk.free (h:Blk w g t cs):∀j,w.frozen? ⟨g,j,none⟩=false:=fun j=>by unfold Blk at h;simp[World.frozen?,h]
theorem Blk.new (w:World)(t:TypeId)(cs:Array Value):Blk (w.alloc (.cells cs t)) w.heap.size t cs:=hp1 w _
theorem Blk.new' {w:World}{t:TypeId}{cs:Array Value}{g:Nat}(h:g=w.heap.size):Blk (w.alloc (.cells cs t)) g t cs:=by subst h;exact hp1 w _
theorem Blk.drew (h:Blk w g t cs):Blk w.drew g t cs:=h
theorem Blk.alloc (h:Blk w g t cs)(o:Obj):Blk (w.alloc o) g t cs:=z8D h o
theorem Blk.below {B:Nat}(h:Blk w g t cs)(c:Below B w w')(A:g<B):Blk w' g t cs:=(c.block g A).trans h
theorem Blk.mD (h:Blk w g t cs)(c:Zr w w'):Blk w' g t cs:=h.below c h.lt
theorem Blk.mG (h:Blk w g t cs)(i:Nat)(u:Value):Blk (w.setCell ⟨g,i,none⟩ u) g t (cs.setIfInBounds i u):=heap_setCell_same w g i cs t u h
theorem Blk.far (h:Blk w g t cs){p:Addr}(c:g≠p.block)(u:Value):Blk (w.setCell p u) g t cs:=(Below.heap_setCell w p u g c).trans h
theorem Blk.grown {c:Option Nat}(h:Blk w g t cs)(A:w.grownBy w' c)(D:some g≠c):Blk w' g t cs:=(A.block g h.lt D).trans h
end
theorem zbn {w:World}{g:Nat}{t:TypeId}{cs:Array Value}(h:Blk w g t cs:=by (repeat' (first|with_reducible assumption|exact Blk.new _ _ _|exact Blk.new' (by simp;done)|refine Blk.alloc ?_ _))):Blk w g t cs:=h
theorem Blk.zc {w:World}{g:Nat}{t:TypeId}{cs:Array Value}(h:Blk w g t cs):(∀j,w.cell? ⟨g,j,none⟩=cs[j]?)/\g<w.heap.size:=⟨h.cells,h.lt⟩
theorem aa {B:Nat}{a w:World}(h:Below B a w)(n:Nat):Below B a (w.drewN n):=⟨h.os,h.tape,h.output,h.size,h.block⟩
open Go.ChangeShapes Go.WideShapes Go.ChangeAt Go.Deep
theorem z8K {α:Type}(q:Nat->α->Prop)(n:Nat)(h:∀i,i<n->∃a,q i a):∃c:List α,c.length=n/\∀i (A:i<c.length),q i c[i]:=by
 induction n with
 | zero=>exact⟨[],rfl,fun i A=>by simp at A⟩
 | succ n ih=>
  obtain⟨c,I,K⟩:=ih (fun i A=>h i (by omega))
  obtain⟨a,J⟩:=h n (by omega)
  refine⟨c++[a],by simp[I],fun i A=>?_⟩
  by_cases D:i<c.length
  ·rw[List.getElem_append_left D];exact K i D
  ·have:i=n:=by simp at A;omega
   subst this;rw[List.getElem_append_right (by omega)]
   simpa[I]using J
theorem z7b {H:Type}{enc:TypeId × Value->H}{P:Program}{W:World}{α:Type}(Y:α->Value){t e:TypeId}{fuel:Nat}{v:Value}{x:DataW H × List MemPlace}(ht:P.underlying t=some (.slice e))(hC:P.cellsOf e=1)
  (an:∀n cs x,DataW.trod enc P W 0 (fun _=>true) true n e cs=some x->∃a,cs=[Y a])
  (h:DataW.trod enc P W 0 (fun _=>true) true fuel t [v]=some x):
  ∃(A:Option Addr) (n c:Nat) (M:List α),v=.slice A n c/\M.length=n/\Reads W A (M.map Y)/\n<=c/\c<=maxLen/\(A=none->n=0/\c=0):=by
 rcases open_slice ht h with ⟨V,_⟩|⟨a,I,ab,m,n,D,Pl,O,hb,hl,hm,av,hx,hi⟩
 ·simp only[List.cons.injEq,and_true]at V;subst V;exact⟨none,0,0,[],rfl,rfl,Reads.nil,kE _,kP _,fun _=>⟨rfl,rfl⟩⟩
 ·simp only[List.cons.injEq,and_true]at O;subst O;simp only[if_true]at av;have J:∀i,i<I->∃u:α,W.cell? (a.add i)=some (Y u):=by
   intro i a2;obtain⟨ac,hc,aL⟩:=hi i (by omega)
   rw[hC,Nat.mul_one]at hc;obtain⟨u,rfl⟩:=an n ac _ aL;obtain⟨_,_,J⟩:=World.cells?_some hc;have:=J 0 (by omega)
   refine⟨u,?_⟩
   simpa[Addr.add]using this
  obtain⟨M,a1,T⟩:=z8K (fun i u=>W.cell? (a.add i)=some (Y u)) I J
  refine⟨some a,I,ab,M,rfl,a1,?_,hl,hm,fun h=>by cases h⟩
  rcases Nat.eq_zero_or_pos I with V|V
  ·left
   have:M=[]:=md (by omega)
   simp[this]
  ·right
   obtain⟨b,off,U⟩:=a;have h1:=T 0 (by omega)
   have K:U=none:=by simpa[Addr.add]using World.cell?_spot h1
   subst K;refine⟨b,off,rfl,?_,fun j u S=>?_⟩
   ·have:=World.block_lt_of_cell? W _ h1
    simpa[Addr.add]using this
   ·rw[mq]at S;by_cases hj:j<M.length
    ·rw[kQ hj,Option.map_some,lx]at S;subst S;have:=T j hj
     unfold Addr.add at this;split at this
     ·rename_i ao;subst ao;simpa using this
     ·exact this
    ·rw[List.getElem?_eq_none (by omega)]at S;simp at S
theorem Tryz.oI:prog.cellsOf 3=1:=by kernel_rfl
theorem Tryz.o6:prog.cellsOf 5=1:=by kernel_rfl
theorem Tryz.qA:prog.cellsOf 9=1:=by kernel_rfl
theorem Tryz.qp:prog.cellsOf 53=1:=by kernel_rfl
theorem Tryz.qw:prog.cellsOf 81=8:=by kernel_rfl
section
variable {H:Type}{enc:TypeId × Value->H}{W:World}
theorem z7c {fuel:Nat}{v:Value}{x:DataW H × List MemPlace}(h:DataW.trod enc prog W 0 (fun _=>true) true fuel 53 [v]=some x):
  ∃(A:Option Addr) (n c:Nat) (D:List Int),v=.slice A n c/\D.length=n/\Reads W A (D.map (Value.int .i64))/\n<=c/\c<=maxLen/\(A=none->n=0/\c=0):=
 z7b (Value.int .i64) underlying53 Tryz.oI (fun n cs x I=>by obtain⟨b,rfl,_⟩:=DataW.trod_int underlying3 I;exact⟨b,rfl⟩) h
theorem z1I {fuel:Nat}{cs:List Value}(K:cs.length=8){x:DataW H × List MemPlace}(h:DataW.trod enc prog W 0 (fun _=>true) true fuel 81 cs=some x):
  ∃(wh f kd off n size:Int) (A:Option Addr) (m c:Nat) (l:List Int) (s:ByteArray),cs=[.int .u8 wh,.int .u8 f,.int .i64 kd,.int .i64 off,.int .i64 n,.int .i64 size,.slice A m c,.string s] /\
   (Lit.int .u8 wh).wf=true/\(Lit.int .u8 f).wf=true/\(Lit.int .i64 kd).wf=true/\(Lit.int .i64 off).wf=true/\(Lit.int .i64 n).wf=true/\(Lit.int .i64 size).wf=true/\l.length=m/\Reads W A (l.map (Value.int .i64))/\m<=c/\c<=maxLen/\(A=none->m=0/\c=0)/\s.size<=maxLen:=by
 match cs,K with
 | [c0,c1,c2,c3,c4,c5,c6,c7],_=>
  obtain⟨I,n,_,_,_,J,D⟩:=DataW.trod_struct underlying81 h;have g0:DataW.trod enc prog W 0 (fun _=>true) true n 5 [c0]=I[0]?:=by have:=D 0 _ rfl;simpa[Tryz.o6,Value.cells]using this
  have g1:DataW.trod enc prog W 0 (fun _=>true) true n 5 [c1]=I[1]?:=by have:=D 1 _ rfl;simpa[Tryz.o6,Value.cells]using this
  have g2:DataW.trod enc prog W 0 (fun _=>true) true n 3 [c2]=I[2]?:=by have:=D 2 _ rfl;simpa[Tryz.oI,Value.cells]using this
  have g3:DataW.trod enc prog W 0 (fun _=>true) true n 3 [c3]=I[3]?:=by have:=D 3 _ rfl;simpa[Tryz.oI,Value.cells]using this
  have g4:DataW.trod enc prog W 0 (fun _=>true) true n 3 [c4]=I[4]?:=by have:=D 4 _ rfl;simpa[Tryz.oI,Value.cells]using this
  have g5:DataW.trod enc prog W 0 (fun _=>true) true n 3 [c5]=I[5]?:=by have:=D 5 _ rfl;simpa[Tryz.oI,Value.cells]using this
  have g6:DataW.trod enc prog W 0 (fun _=>true) true n 53 [c6]=I[6]?:=by have:=D 6 _ rfl;simpa[Tryz.qp,Value.cells]using this
  have g7:DataW.trod enc prog W 0 (fun _=>true) true n 9 [c7]=I[7]?:=by have:=D 7 _ rfl;simpa[Tryz.qA,Value.cells]using this
  clear D;match I,J with
  | [y0,y1,y2,y3,y4,y5,y6,y7],_=>
   simp only[mw,mr]at g0 g1 g2 g3 g4 g5 g6 g7;obtain⟨a0,M,_,w0⟩:=DataW.trod_int underlying5 g0;obtain⟨a1,O,_,w1⟩:=DataW.trod_int underlying5 g1;obtain⟨a2,S,_,w2⟩:=DataW.trod_int underlying3 g2;obtain⟨a3,T,_,w3⟩:=DataW.trod_int underlying3 g3;obtain⟨a4,U,_,w4⟩:=DataW.trod_int underlying3 g4;obtain⟨a5,V,_,w5⟩:=DataW.trod_int underlying3 g5;obtain⟨s,Y,_,w7⟩:=DataW.trod_string underlying9 g7;simp at M O S T U V Y
   subst M O S T U V Y;obtain⟨A,m,c,l,rfl,q1,q2,q3,q4,q5⟩:=z7c g6;exact⟨a0,a1,a2,a3,a4,a5,A,m,c,l,s,rfl,w0,w1,w2,w3,w4,w5,q1,q2,q3,q4,q5,w7⟩
end
theorem jQ {f:Int}(h:(Lit.int .u8 f).wf=true):0<=f/\f<=255:=by
 simp[Lit.wf,IntKind.min,IntKind.max,IntKind.bits,IntKind.signed]at h;omega
theorem j3 {f:Int}(h:(Lit.int .i64 f).wf=true):-9223372036854775808<=f/\f<=9223372036854775807:=by
 simp[Lit.wf,IntKind.min,IntKind.max,IntKind.bits,IntKind.signed]at h;omega
def rgE (s j i:Int):Int:=if s<64\/256<s\/j<8\/96<j\/i<1\/60<i then 7 else if s - (2+j+i)<8 then 5 else 0
def rgJ (s j i:Int):Int:=if rgE s j i=0 then 1 else 0
def rgM (s j i:Int):Int:=if rgE s j i=0 then 1+j else 0
def rgT (s j i:Int):Int:=if rgE s j i=0 then 2+j else 0
def rgD (s j i:Int):Int:=if rgE s j i=0 then 2+j+i else 0
def rgB (s j i:Int):Int:=if rgE s j i=0 then s - (2+j+i)else 0
theorem z7q {s j i:Int}(h:s<64\/256<s\/j<8\/96<j\/i<1\/60<i):rgE s j i=7:=by simp[rgE,h]
theorem zcK {s j i:Int}(h:¬(s<64\/256<s\/j<8\/96<j\/i<1\/60<i))(c:s - (2+j+i)<8):rgE s j i=5:=by simp[rgE,h,c]
theorem zbW {s j i:Int}(h:¬(s<64\/256<s\/j<8\/96<j\/i<1\/60<i))(c:¬s - (2+j+i)<8):rgE s j i=0:=by simp only[rgE,if_neg h,if_neg c]
theorem iu {s j i:Int}(h:rgE s j i≠0):rgJ s j i=0/\rgM s j i=0/\rgT s j i=0/\rgD s j i=0/\rgB s j i=0:=by simp[rgJ,rgM,rgT,rgD,rgB,h]
theorem ir {s j i:Int}(h:rgE s j i=0):rgJ s j i=1/\rgM s j i=1+j/\rgT s j i=2+j/\rgD s j i=2+j+i/\rgB s j i=s - (2+j+i):=by simp[rgJ,rgM,rgT,rgD,rgB,h]
theorem de {s j i:Int}(h:rgE s j i=0):64<=s/\s<=256/\8<=j/\j<=96/\1<=i/\i<=60/\8<=s - (2+j+i):=by
 unfold rgE at h;repeat' split at h
 all_goals omega
theorem jM (s j i:Int):0<=rgB s j i/\rgB s j i<=256:=by
 unfold rgB;split
 ·rename_i h;have:=de h;omega
 ·omega
def outB (n lo hi:Int):Bool:=decide (n<lo)||decide (hi<n)
theorem eB {n lo hi:Int}(h:n<lo\/hi<n):outB n lo hi=true:=by simp[outB];omega
theorem eo {n lo hi:Int}(h:¬(n<lo\/hi<n)):outB n lo hi=false:=by simp[outB];omega
theorem z5c (n lo hi:Int)(w:World):
  Calls prog 172 #[.int .i64 n,.int .i64 lo,.int .i64 hi] w fun e w'=>e=.returned (.bool (decide (n<lo)||decide (hi<n)))/\w=w':=by
 by_cases c:n<lo
 ·go_enter func172,ntmps172
  go_wp2
  go_ret
  exact⟨by simp[c],rfl⟩
 ·have D:decide (n<lo)=false:=by simpa using c
  by_cases A:hi<n
  all_goals
   go_enter func172,ntmps172
   go_wp2
   go_ret
   exact⟨by simp[A]<;>omega,rfl⟩
theorem z7L (n lo hi:Int)(w:World):
  Calls prog 178 #[.int .i64 n,.int .i64 lo,.int .i64 hi] w fun e w'=>e=.returned (.bool (decide (lo<=n)&&decide (n<=hi)))/\w=w':=by
 by_cases c:lo<=n
 ·by_cases A:n<=hi
  all_goals
   go_enter func178,ntmps178
   go_wp2
   go_ret
   exact⟨by simp[c,A],rfl⟩
 ·have D:decide (lo<=n)=false:=by simpa using c
  go_enter func178,ntmps178
  go_wp2
  go_ret
  exact⟨by simp<;>omega,rfl⟩
theorem dd (n lo hi:Int)(w:World):
  Calls prog 172 #[.int .i64 n,.int .i64 lo,.int .i64 hi] w fun e w'=>e=.returned (.bool (outB n lo hi))/\w=w':=
 (z5c n lo hi w).mono fun e w' ⟨c,A⟩=>⟨by rw[c,outB],A⟩
theorem dX (n lo hi:Int)(w:World):
  Calls prog 178 #[.int .i64 n,.int .i64 lo,.int .i64 hi] w fun e w'=>e=.returned (.bool (!outB n lo hi))/\w=w':=
 (z7L n lo hi w).mono fun e w' ⟨D,I⟩=>⟨by rw[D,outB];simp only[Ending.returned.injEq,Value.bool.injEq];by_cases c:n<lo<;>by_cases A:hi<n<;>simp[c,A]<;>omega,I⟩
def rgV (s j i:Int):Value:=.agg #[.int .i64 (rgJ s j i),.int .i64 (rgM s j i),.int .i64 (rgT s j i),.int .i64 (rgD s j i),.int .i64 (rgB s j i)]
def z7V (s j i:Int)(w:World)(e:Ending)(w':World):Prop:=
 e=.returned (.tuple #[rgV s j i,.int .i64 (rgE s j i)])/\Zr w w'
theorem eP (s j i:Int)(w:World):
  Calls prog 112 #[.agg #[.int .i64 s,.int .i64 j,.int .i64 i]] w (z7V s j i w):=by
 by_cases I:s<64\/256<s
 ·have M:=eB I;go_enter func112,ntmps112
  go_wp2_with (go_at_call 172;refine(dd _ _ _ _).mono ?_;rintro e w' ⟨rfl,rfl⟩)
  refine bodyPost_ret (v:=.tuple #[.agg #[.int .i64 0,.int .i64 0,.int .i64 0,.int .i64 0,.int .i64 0],.int .i64 7]) (by simp[results,results112,go_sem]) rfl ?_
  have c:=z7q (s:=s) (j:=j) (i:=i) (by omega)
  obtain⟨A,D,a3,a4,a5⟩:=iu (s:=s) (j:=j) (i:=i) (by omega)
  exact⟨by simp only[rgV,c,A,D,a3,a4,a5],zgr⟩
 have M:=eo I;by_cases J:j<8\/96<j
 ·have O:=eB J;go_enter func112,ntmps112
  go_wp2_with (go_at_call 172;refine(dd _ _ _ _).mono ?_;rintro e w' ⟨rfl,rfl⟩)
  refine bodyPost_ret (v:=.tuple #[.agg #[.int .i64 0,.int .i64 0,.int .i64 0,.int .i64 0,.int .i64 0],.int .i64 7]) (by simp[results,results112,go_sem]) rfl ?_
  have c:=z7q (s:=s) (j:=j) (i:=i) (by omega)
  obtain⟨A,D,a3,a4,a5⟩:=iu (s:=s) (j:=j) (i:=i) (by omega)
  exact⟨by simp only[rgV,c,A,D,a3,a4,a5],zgr⟩
 have O:=eo J;by_cases K:i<1\/60<i
 ·have S:=eB K;go_enter func112,ntmps112
  go_wp2_with (go_at_call 172;refine(dd _ _ _ _).mono ?_;rintro e w' ⟨rfl,rfl⟩)
  refine bodyPost_ret (v:=.tuple #[.agg #[.int .i64 0,.int .i64 0,.int .i64 0,.int .i64 0,.int .i64 0],.int .i64 7]) (by simp[results,results112,go_sem]) rfl ?_
  have c:=z7q (s:=s) (j:=j) (i:=i) (by omega)
  obtain⟨A,D,a3,a4,a5⟩:=iu (s:=s) (j:=j) (i:=i) (by omega)
  exact⟨by simp only[rgV,c,A,D,a3,a4,a5],zgr⟩
 have S:=eo K;by_cases T:s - (2+j+i)<8
 ·skip
  go_enter func112,ntmps112
  go_wp2_with (go_at_call 172;refine(dd _ _ _ _).mono ?_;rintro e w' ⟨rfl,rfl⟩)
  refine bodyPost_ret (v:=.tuple #[.agg #[.int .i64 0,.int .i64 0,.int .i64 0,.int .i64 0,.int .i64 0],.int .i64 5]) (by simp[results,results112,go_sem]) rfl ?_
  have c:=zcK (s:=s) (j:=j) (i:=i) (by omega) (by omega)
  obtain⟨A,D,a3,a4,a5⟩:=iu (s:=s) (j:=j) (i:=i) (by omega)
  exact⟨by simp only[rgV,c,A,D,a3,a4,a5],zgr⟩
 ·skip
  go_enter func112,ntmps112
  go_wp2_with (go_at_call 172;refine(dd _ _ _ _).mono ?_;rintro e w' ⟨rfl,rfl⟩)
  refine bodyPost_ret (v:=.tuple #[.agg #[.int .i64 1,.int .i64 (1+j),.int .i64 (1+j+1),.int .i64 (1+j+1+i),.int .i64 (s - (1+j+1+i))],.int .i64 0]) (by simp[results,results112,go_sem]) rfl ?_
  have c:=zbW (s:=s) (j:=j) (i:=i) (by omega) (by omega)
  obtain⟨A,D,a3,a4,a5⟩:=ir (s:=s) (j:=j) (i:=i) c;refine⟨?_,zgr⟩
  simp only[rgV,c,A,D,a3,a4,a5];simp;omega
theorem dN (s j i:Int)(w:World):
  Calls prog 103 #[.agg #[.int .i64 s,.int .i64 j,.int .i64 i]] w (z7V s j i w):=by
 by_cases I:s<64\/256<s
 ·have M:=eB I;go_enter func103,ntmps103
  go_wp2_with (go_at_call 178;refine(dX _ _ _ _).mono ?_;rintro e w' ⟨rfl,rfl⟩)
  refine bodyPost_ret (v:=.tuple #[.agg #[.int .i64 0,.int .i64 0,.int .i64 0,.int .i64 0,.int .i64 0],.int .i64 7]) (by simp[results,results103,go_sem]) rfl ?_
  have c:=z7q (s:=s) (j:=j) (i:=i) (by omega)
  obtain⟨A,D,a3,a4,a5⟩:=iu (s:=s) (j:=j) (i:=i) (by omega)
  exact⟨by simp only[rgV,c,A,D,a3,a4,a5],zgr⟩
 have M:=eo I;by_cases J:j<8\/96<j
 ·have O:=eB J;go_enter func103,ntmps103
  go_wp2_with (go_at_call 178;refine(dX _ _ _ _).mono ?_;rintro e w' ⟨rfl,rfl⟩)
  refine bodyPost_ret (v:=.tuple #[.agg #[.int .i64 0,.int .i64 0,.int .i64 0,.int .i64 0,.int .i64 0],.int .i64 7]) (by simp[results,results103,go_sem]) rfl ?_
  have c:=z7q (s:=s) (j:=j) (i:=i) (by omega)
  obtain⟨A,D,a3,a4,a5⟩:=iu (s:=s) (j:=j) (i:=i) (by omega)
  exact⟨by simp only[rgV,c,A,D,a3,a4,a5],zgr⟩
 have O:=eo J;by_cases K:i<1\/60<i
 ·have S:=eB K;go_enter func103,ntmps103
  go_wp2_with (go_at_call 178;refine(dX _ _ _ _).mono ?_;rintro e w' ⟨rfl,rfl⟩)
  refine bodyPost_ret (v:=.tuple #[.agg #[.int .i64 0,.int .i64 0,.int .i64 0,.int .i64 0,.int .i64 0],.int .i64 7]) (by simp[results,results103,go_sem]) rfl ?_
  have c:=z7q (s:=s) (j:=j) (i:=i) (by omega)
  obtain⟨A,D,a3,a4,a5⟩:=iu (s:=s) (j:=j) (i:=i) (by omega)
  exact⟨by simp only[rgV,c,A,D,a3,a4,a5],zgr⟩
 have S:=eo K;by_cases T:s - (2+j+i)<8
 ·skip
  go_enter func103,ntmps103
  go_wp2_with (go_at_call 178;refine(dX _ _ _ _).mono ?_;rintro e w' ⟨rfl,rfl⟩)
  refine bodyPost_ret (v:=.tuple #[.agg #[.int .i64 0,.int .i64 0,.int .i64 0,.int .i64 0,.int .i64 0],.int .i64 5]) (by simp[results,results103,go_sem]) rfl ?_
  have c:=zcK (s:=s) (j:=j) (i:=i) (by omega) T
  obtain⟨A,D,a3,a4,a5⟩:=iu (s:=s) (j:=j) (i:=i) (by omega)
  exact⟨by simp only[rgV,c,A,D,a3,a4,a5],zgr⟩
 ·skip
  go_enter func103,ntmps103
  go_wp2_with (go_at_call 178;refine(dX _ _ _ _).mono ?_;rintro e w' ⟨rfl,rfl⟩)
  refine bodyPost_ret (v:=.tuple #[.agg #[.int .i64 1,.int .i64 (1+j),.int .i64 (1+j+1),.int .i64 (1+j+1+i),.int .i64 (s - (1+j+1+i))],.int .i64 0]) (by simp[results,results103,go_sem]) rfl ?_
  have c:=zbW (s:=s) (j:=j) (i:=i) (by omega) (by omega)
  obtain⟨A,D,a3,a4,a5⟩:=ir (s:=s) (j:=j) (i:=i) c;refine⟨?_,zgr⟩
  simp only[rgV,c,A,D,a3,a4,a5];simp;omega
theorem Tryz.info4:(prog.info? 4).map (fun i=>(i.zero,i.size,i.bytes))=some (some (.bool false),1,1):=by kernel_rfl
def z7T (s j i:Int)(w:World)(e:Ending)(w':World):Prop:=
 Zr w w'/\((rgE s j i≠0/\e=.returned (.tuple #[.agg #[.int .i64 0,.int .i64 0,.int .i64 0,.slice none 0 0],.int .i64 (rgE s j i)])) \/
 (rgE s j i=0/\∃b,e=.returned (.tuple #[.agg #[.int .i64 s,.int .i64 j,.int .i64 i,.slice (some ⟨b,0,none⟩) (rgB s j i).toNat (rgB s j i).toNat],.int .i64 0])/\w.heap.size<=b /\
  w'.heap[b]?=some (.cells (fill (.bool false) (rgB s j i).toNat) 4 (0,0))))
theorem z8X (s j i:Int)(w:World):
  Calls prog 51 #[.agg #[.int .i64 s,.int .i64 j,.int .i64 i]] w (z7T s j i w):=by
 obtain⟨i0,U,I,J,K⟩:=info_parts Tryz.info4;have hB:=jM s j i;have V:∀w:World,(Instr.makeSlice 45 (.int .i64 (rgB s j i)) (.int .i64 (rgB s j i))).run prog w=.ok (.slice (some ⟨w.heap.size,0,none⟩) (rgB s j i).toNat (rgB s j i).toNat) (w.alloc (.cells (fill (.bool false) (rgB s j i).toNat) 4)):=by
  intro w;have:=run_make (P:=prog) w 45 4 i0 (.bool false) underlying45 U I .i64 .i64 (rgB s j i) (rgB s j i) hB.1 (Int.le_refl _) (by rw[K];omega) (by omega)
  rw[this,J];simp[fill,Value.cells]
 by_cases A:rgE s j i=0
 ·have T:(rgE s j i==0)=true:=by simpa using A
  have M:(rgE s j i != 0)=false:=by simpa using A
  have O:=kD A;clear A U I J K;go_enter func51,ntmps51
  go_wp2_with (
   go_at_call 112;refine(eP _ _ _ _).mono ?_;rintro e Y ⟨rfl,c⟩;have c0:=er c (hp20 _ _ _);have S:=er c (hp21 _ _ _);have f0:=et c (hp20 _ _ _);have f1:=et c (hp21 _ _ _);obtain⟨hz,D⟩:=sz2 c;replace c:=eE c;unfold rgV)
  go_region
  all_goals
   go_wp2
   refine bodyPost_ret (v:=.tuple #[.agg #[.int .i64 s,.int .i64 j,.int .i64 i,.slice (some ⟨Y.heap.size+1,0,none⟩) (rgB s j i).toNat (rgB s j i).toNat],.int .i64 0]) (by simp[results,results51,go_sem,S,hz,D]) rfl ?_
   refine⟨zgr,.inr ⟨O.out,Y.heap.size+1,rfl,by omega,?_⟩⟩
   exact hpLd (by simp)
 ·have T:(rgE s j i==0)=false:=by simpa using A
  have M:(rgE s j i != 0)=true:=by simpa using A
  have O:=kD A;clear A U I J K V;go_enter func51,ntmps51
  go_wp2_with (
   go_at_call 112;refine(eP _ _ _ _).mono ?_;rintro e Y ⟨rfl,c⟩;have c0:=er c (hp20 _ _ _);have S:=er c (hp21 _ _ _);have f0:=et c (hp20 _ _ _);have f1:=et c (hp21 _ _ _);obtain⟨hz,D⟩:=sz2 c;replace c:=eE c;unfold rgV)
  refine bodyPost_ret (v:=.tuple #[.agg #[.int .i64 0,.int .i64 0,.int .i64 0,.slice none 0 0],.int .i64 (rgE s j i)]) (by simp[results,results51,go_sem,S,D]) rfl ?_
  exact⟨zgr,.inl ⟨O.out,rfl⟩⟩
theorem z5Y (s j i:Int)(w:World):
  Calls prog 45 #[.agg #[.int .i64 s,.int .i64 j,.int .i64 i]] w (z7T s j i w):=by
 obtain⟨i0,U,I,J,K⟩:=info_parts Tryz.info4;have hB:=jM s j i;have V:∀w:World,(Instr.makeSlice 45 (.int .i64 (rgB s j i)) (.int .i64 (rgB s j i))).run prog w=.ok (.slice (some ⟨w.heap.size,0,none⟩) (rgB s j i).toNat (rgB s j i).toNat) (w.alloc (.cells (fill (.bool false) (rgB s j i).toNat) 4)):=by
  intro w;have:=run_make (P:=prog) w 45 4 i0 (.bool false) underlying45 U I .i64 .i64 (rgB s j i) (rgB s j i) hB.1 (Int.le_refl _) (by rw[K];omega) (by omega)
  rw[this,J];simp[fill,Value.cells]
 by_cases A:rgE s j i=0
 ·have T:(rgE s j i==0)=true:=by simpa using A
  have M:(rgE s j i != 0)=false:=by simpa using A
  have O:=kD A;clear A U I J K;go_enter func45,ntmps45
  go_wp2_with (
   go_at_call 103;refine(dN _ _ _ _).mono ?_;rintro e Y ⟨rfl,c⟩;have c0:=er c (hp20 _ _ _);have S:=er c (hp21 _ _ _);have f0:=et c (hp20 _ _ _);have f1:=et c (hp21 _ _ _);obtain⟨hz,D⟩:=sz2 c;replace c:=eE c;unfold rgV)
  go_region
  all_goals
   go_wp2
   refine bodyPost_ret (v:=.tuple #[.agg #[.int .i64 s,.int .i64 j,.int .i64 i,.slice (some ⟨Y.heap.size+1,0,none⟩) (rgB s j i).toNat (rgB s j i).toNat],.int .i64 0]) (by simp[results,results45,go_sem,S,hz,D]) rfl ?_
   refine⟨zgr,.inr ⟨O.out,Y.heap.size+1,rfl,by omega,?_⟩⟩
   exact hpLd (by simp)
 ·have T:(rgE s j i==0)=false:=by simpa using A
  have M:(rgE s j i != 0)=true:=by simpa using A
  have O:=kD A;clear A U I J K V;go_enter func45,ntmps45
  go_wp2_with (
   go_at_call 103;refine(dN _ _ _ _).mono ?_;rintro e Y ⟨rfl,c⟩;have c0:=er c (hp20 _ _ _);have S:=er c (hp21 _ _ _);have f0:=et c (hp20 _ _ _);have f1:=et c (hp21 _ _ _);obtain⟨hz,D⟩:=sz2 c;replace c:=eE c;unfold rgV)
  refine bodyPost_ret (v:=.tuple #[.agg #[.int .i64 0,.int .i64 0,.int .i64 0,.slice none 0 0],.int .i64 (rgE s j i)]) (by simp[results,results45,go_sem,S,D]) rfl ?_
  exact⟨zgr,.inl ⟨O.out,rfl⟩⟩
def CkE (s j i:Int)(n:Nat):Int:=if rgE s j i=0 then (if (n:Int)=rgB s j i then 0 else 6)else rgE s j i
theorem g8 (s j i:Int)(A:Option Addr)(n c:Nat)(w:World)(S:n<=maxLen):
  Calls prog 170 #[.agg #[.int .i64 s,.int .i64 j,.int .i64 i,.slice A n c]] w (Zq (.int .i64 (CkE s j i n)) w):=by
 unfold maxLen at S;by_cases I:rgE s j i=0
 ·have T:(rgE s j i==0)=true:=by simpa using I
  have K:CkE s j i n=if (n:Int)=rgB s j i then 0 else 6:=by simp[CkE,I]
  have O:=kD K;clear K;by_cases M:(n:Int)=rgB s j i
  all_goals
   have U:=kD I;clear I;first|(have hd:((n:Int) != rgB s j i)=false:=by simp[M])|(have hd:((n:Int) != rgB s j i)=true:=by simpa using M)
   have V:=kD M;clear M;go_enter func170,ntmps170
   go_wp2_with (
    go_at_call 112;refine(eP _ _ _ _).mono ?_;rintro e w1 ⟨rfl,D⟩;have Y:=er D (hp1 _ _);have f0:=et D (hp1 _ _);have hz:=sz1 D;replace D:=dq D;unfold rgV)
   go_ret
   have J:=V.out;exact⟨z1r (by rw[O.out];first|(simp[J,U.out];done)|(simp[J])),zgr⟩
 ·have T:(rgE s j i==0)=false:=by simpa using I
  have K:CkE s j i n=rgE s j i:=by simp[CkE,I]
  have O:=kD K;clear K;have U:=kD I;clear I;go_enter func170,ntmps170
  go_wp2_with (
   go_at_call 112;refine(eP _ _ _ _).mono ?_;rintro e w1 ⟨rfl,D⟩;have Y:=er D (hp1 _ _);have f0:=et D (hp1 _ _);have hz:=sz1 D;replace D:=dq D;unfold rgV)
  go_ret
  exact⟨z1r O.out.symm,zgr⟩
theorem eK (s j i:Int)(A:Option Addr)(n c:Nat)(w:World)(S:n<=maxLen):
  Calls prog 108 #[.agg #[.int .i64 s,.int .i64 j,.int .i64 i,.slice A n c]] w (Zq (.int .i64 (CkE s j i n)) w):=by
 unfold maxLen at S;by_cases I:rgE s j i=0
 ·have T:(rgE s j i==0)=true:=by simpa using I
  have K:CkE s j i n=if (n:Int)=rgB s j i then 0 else 6:=by simp[CkE,I]
  have O:=kD K;clear K;by_cases M:(n:Int)=rgB s j i
  all_goals
   have U:=kD I;clear I;first|(have hd:((n:Int) != rgB s j i)=false:=by simp[M])|(have hd:((n:Int) != rgB s j i)=true:=by simpa using M)
   have V:=kD M;clear M;go_enter func108,ntmps108
   go_wp2_with (
    go_at_call 103;refine(dN _ _ _ _).mono ?_;rintro e w1 ⟨rfl,D⟩;have Y:=er D (hp1 _ _);have f0:=et D (hp1 _ _);have hz:=sz1 D;replace D:=dq D;unfold rgV)
   go_ret
   have J:=V.out;exact⟨z1r (by rw[O.out];first|(simp[J,U.out];done)|(simp[J])),zgr⟩
 ·have T:(rgE s j i==0)=false:=by simpa using I
  have K:CkE s j i n=rgE s j i:=by simp[CkE,I]
  have O:=kD K;clear K;have U:=kD I;clear I;go_enter func108,ntmps108
  go_wp2_with (
   go_at_call 103;refine(dN _ _ _ _).mono ?_;rintro e w1 ⟨rfl,D⟩;have Y:=er D (hp1 _ _);have f0:=et D (hp1 _ _);have hz:=sz1 D;replace D:=dq D;unfold rgV)
  go_ret
  exact⟨z1r O.out.symm,zgr⟩
theorem zcU (w:World):(zeroValue 269).run prog w=.ok (.agg (fill (.int .u8 0) 96)) w:=by kernel_rfl
theorem z2u {s j i:Int}{n:Nat}(h:CkE s j i n=0):rgE s j i=0/\(n:Int)=rgB s j i/\8<=n/\n<=256:=by
 unfold CkE at h;split at h
 ·rename_i c
  split at h
  ·rename_i A
   have:=de c
   have:=(ir c).2.2.2.2
   exact⟨c,A,by omega,by omega⟩
  ·omega
 ·exact absurd h (by assumption)
def orv (x:Int)(m:Nat):Int:=bits BinOp.or IntKind.u8 x (2 ^ m % 256)
def dZ (us:List Bool):Nat->List Int
 | 0=>List.replicate 96 0
 | k+1=>if us[k]?=some true then (dZ us k).set (k / 8) (orv ((dZ us k).getD (k / 8) 0) (k % 8))else dZ us k
theorem ei (us:List Bool)(k:Nat):(dZ us k).length=96:=by
 induction k with
 | zero=>simp[dZ]
 | succ k ih=>unfold dZ;split<;>simp[ih]
theorem z2B {us:List Bool}{k:Nat}(h:us[k]?=some true):dZ us (k+1)=(dZ us k).set (k / 8) (orv ((dZ us k).getD (k / 8) 0) (k % 8)):=by
 show (if us[k]?=some true then _ else _)=_
 rw[if_pos h]
theorem z0Z {us:List Bool}{k:Nat}(h:us[k]?=some false):dZ us (k+1)=dZ us k:=by
 show (if us[k]?=some true then _ else _)=_
 rw[if_neg (by rw[h];simp)]
def ag (l:List Int):Array Value:=(l.map (Value.int .u8)).toArray
theorem fZ (n:Nat):ag (List.replicate n 0)=fill (.int .u8 0) n:=by rw[z2C];unfold ag;simp
theorem dl (l:List Int)(m:Nat)(x:Int):(ag l).setIfInBounds m (.int .u8 x)=ag (l.set m x):=by
 unfold ag;simp[List.map_set]
theorem bv {l:List Int}{m:Nat}(h:m<l.length):(ag l)[m]?=some (.int .u8 (l.getD m 0)):=by
 unfold ag;simp[h]
theorem el {w:World}{g:Nat}{t:TypeId}{l:List Int}(h:Blk w g t (ag l)):Reads w (some ⟨g,0,none⟩) (l.map (Value.int .u8)):=
 .inr ⟨g,0,rfl,h.lt,fun j u c=>by rw[h.cells,ld];unfold ag;simpa using c⟩
def z2j (s j i:Int)(us:List Bool)(w:World)(e:Ending)(w':World):Prop:=
 Zr w w'/\((CkE s j i us.length≠0/\e=.returned (.tuple #[.slice none 0 0,.int .i64 (CkE s j i us.length)])) \/
  (CkE s j i us.length=0/\∃g,e=.returned (.tuple #[.slice (some ⟨g,0,none⟩) 96 96,.int .i64 0])/\w.heap.size<=g/\Reads w' (some ⟨g,0,none⟩) ((dZ us us.length).map (Value.int .u8))))
theorem z8v (s j i:Int)(A:Option Addr)(c:Nat)(us:List Bool)(a1:us.length<=1000)(w:World)(hR:Reads w A (us.map .bool))(Y:CkE s j i us.length=0):
  Calls prog 128 #[.agg #[.int .i64 s,.int .i64 j,.int .i64 i,.slice A us.length c]] w (z2j s j i us w):=by
 have ac:=(z2u Y).2.2;have ao:(CkE s j i us.length != 0)=false:=by simpa using Y
 have HE:=kD Y;clear Y;have U:=zcU;go_enter func128,ntmps128
 go_wp2_with fail
 refine(g8 s j i A us.length c _ (by unfold maxLen;omega)).mono ?_
 rintro e J ⟨rfl,D⟩;have bS:Blk J w.heap.size 47 #[.int .i64 s,.int .i64 j,.int .i64 i,.slice A us.length c]:=Blk.mD zbn D
 replace D:Zr w J:=dq D
 obtain⟨cS,av⟩:=bS.zc;go_wp2_with fail
 obtain⟨V,I⟩:=zex (J.alloc (.cells (fill (.int .u8 0) 96) 269));rw[<-I];have M:Blk V J.heap.size 269 (fill (.int .u8 0) 96):=by rw[I];exact zbn
 have S:Zr w V:=by rw[I];exact D.alloc D.size _
 have aL:V.heap.size=J.heap.size+1:=by rw[I];simp
 clear I bS cS D U;go_loopw [16] (fun q wr=>∃k:Nat,k<=us.length/\q=.int .i64 k/\Blk wr J.heap.size 269 (ag (dZ us k))/\Below J.heap.size V wr) (fun q _=>us.length - (intOf q).toNat)
 case atStart=>exact⟨0,kP _,rfl,by rw[show dZ us 0=List.replicate 96 0 from rfl,fZ];exact M,kF _ _⟩
 case round=>
  obtain⟨k,hk,rfl,M,K⟩:=hrel;have fO:=M.free;by_cases O:k<us.length
  ·obtain⟨b,off,rfl,hb,hc⟩:=(hR.below (S.trans (K.mono (by omega)))).at_ (k:=k) (by simpa using O)
   rw[lf]at hc;have ab:k / 8<96:=by omega
   have T:wr.cell? ⟨J.heap.size,k / 8,none⟩=some (.int .u8 ((dZ us k).getD (k / 8) 0)):=by rw[M.cells];exact bv (by rw[ei];exact ab)
   cases hu:us[k]<;>rw[hu]at hc
   ·have hs:=kD (z0Z (us:=us) (k:=k) (by rw[kQ O,hu]))
    clear hu T;go_wp2
    go_roundw
    case rel=>exact⟨k+1,by omega,by go_num,by rw[hs.out];exact M,K⟩
    case measure=>simp[intOf];omega
   ·have hs:=kD (z2B (us:=us) (k:=k) (by rw[kQ O,hu]))
    clear hu;generalize hx:(dZ us k).getD (k / 8) 0=x at T hs;clear hx;go_wp2
    go_region
    all_goals go_wp2
    go_roundw
    case rel=>exact⟨k+1,by omega,by go_num,by rw[hs.out,<-dl];exact(M.mG _ _).drew,(K.setCell (p:=⟨J.heap.size,k / 8,none⟩) (kE _) _).drew⟩
    case measure=>simp[intOf];omega
  ·obtain rfl:k=us.length:=by omega
   have an:Zr w wr:=S.trans (K.mono (by omega))
   go_wp2
   go_ret2
   exact⟨zgr,.inr ⟨HE.out,J.heap.size,rfl,by omega,el M⟩⟩
theorem z6K (s j i:Int)(A:Option Addr)(c:Nat)(us:List Bool)(J:us.length<=1000)(w:World)(O:Reads w A (us.map .bool)):
  Calls prog 128 #[.agg #[.int .i64 s,.int .i64 j,.int .i64 i,.slice A us.length c]] w (z2j s j i us w):=by
 by_cases I:CkE s j i us.length=0
 ·exact z8v s j i A c us J w O I
 ·have M:(CkE s j i us.length != 0)=true:=by simpa using I
  have K:=kD I;clear I;go_enter func128,ntmps128
  go_wp2_with fail
  refine(g8 s j i A us.length c _ (by unfold maxLen;omega)).mono ?_
  rintro e S ⟨rfl,D⟩;replace D:Zr w S:=dq D
  go_wp2_with fail
  go_ret2
  exact⟨D,.inl ⟨K.out,rfl⟩⟩
end Go.Proofs.YtejmknghkbobnaaGreatDoor
