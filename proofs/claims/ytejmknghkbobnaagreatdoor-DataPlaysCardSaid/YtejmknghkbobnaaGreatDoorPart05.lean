import Derived.Test.YtejmknghkbobnaaGreatDoorPart04
import Derived.MapFrom
import Derived.Great.BuildSlice
set_option linter.all false
set_option maxRecDepth 100000
set_option maxHeartbeats 0
namespace Go.Proofs.YtejmknghkbobnaaGreatDoor
open Go.Proofs.Tryz
open Go.RowKit Go.Maps
structure DevS where
 stable:List (List Int)
 cache:List (Int × List Int)
 taken:Int
 power:Int
 off:Bool
deriving DecidableEq,Inhabited
def bd (s:List Int):List Value:=s.map (.int .u8)
def dwV (p:Int × List Int):List Value:=.int .i64 p.1::bd p.2
def dw (c:List (Int × List Int)):List Int:=c.map (·.1)
structure DevS.Ok (x:DevS):Prop where
 lo:64<=x.stable.length
 hi:x.stable.length<=256
 sec:∀s∈x.stable,s.length=128/\bj s
 cac:∀p∈x.cache,0<=p.1/\p.1<x.stable.length/\p.2.length=128/\bj p.2
 len:x.cache.length<=400
 tk:0<=x.taken/\x.taken<=1000000000000
 pw:-1<=x.power/\x.power<=1000000000000
structure DevMem (w:World)(D S c M:Nat)(cv:Value)(x:DevS):Prop where
 dev:Blk w D 133 (fu S x.stable.length c cv x.taken x.power x.off M)
 sta:w.ownsRow 0 128 128 (.slice (some ⟨S,0,none⟩) x.stable.length c) x.stable.length (x.stable.flatMap bd)
 cac:w.ownsRow 0 130 129 cv x.cache.length (x.cache.flatMap dwV)
 map:w.ownsMap prog 3 (plainElem prog 3) M x.cache.length (dr (dw x.cache) x.cache.length)
structure DevAt (w:World)(D:Nat)(F:List Nat)(x:DevS):Prop where
 ok:x.Ok
 half:HalfAt w
 mem:∃S c M cv,DevMem w D S c M cv x/\D∈F/\S∈F/\M∈F/\(∀g,cv.ownBlock=some g->g∈F)
 lt:∀b∈F,0<b/\b<w.heap.size
structure Grow (w:World)(F:List Nat)(w':World)(F':List Nat):Prop where
 keep:KeepEx w.heap.size F w w'
 new:∀b∈F',b∈F\/w.heap.size<=b
theorem Grow.refl (w:World)(F:List Nat):Grow w F w F:=⟨KeepEx.refl _ _ _,fun _ h=>.inl h⟩
theorem Grow.trans {w J K:World}{F c A:List Nat}(h:Grow w F J c)(k:Grow J c K A):Grow w F K A:=
 ⟨⟨k.keep.os.trans h.keep.os,k.keep.tape.trans h.keep.tape,k.keep.output.trans h.keep.output,kO h.keep.size k.keep.size,
   fun i D I=>(k.keep.block i (lh D h.keep.size) (fun O=>by rcases h.new i O with e|e;exact I e;omega)).trans (h.keep.block i D I)⟩,
  fun b M=>by
   rcases k.new b M with e|e
   ·exact h.new b e
   ·right;have:=h.keep.size;omega⟩
theorem Grow.of_below {w w':World}(h:Zr w w')(F:List Nat):Grow w F w' F:=⟨KeepEx.of_below h,fun _ h=>.inl h⟩
theorem Grow.blk {w w':World}{F F':List Nat}{g:Nat}{t:TypeId}{cs:Array Value}(h:Grow w F w' F')(b:Blk w g t cs)(c:g∉F):Blk w' g t cs:=h.keep.blk b b.lt c
theorem Grow.og {w w':World}{F F':List Nat}{g:Nat}(h:Grow w F w' F')(c:g∉F)(D:g<w.heap.size):g∉F':=fun A=>by
 rcases h.new g A with e|e
 ·exact c e
 ·omega
theorem Grow.half {w w':World}{F F':List Nat}(h:Grow w F w' F')(c:HalfAt w)(A:0∉F):HalfAt w':=
 ⟨lh c.1 h.keep.size,fun j D=>(World.cell?_of_block (w:=w) (a:=⟨0,j,none⟩) (h.keep.block 0 c.1 A)).trans (c.2 j D)⟩
theorem Grow.below {w w':World}{F F':List Nat}(h:Grow w F w' F'){B:Nat}(c:B<=w.heap.size)(A:∀b∈F,B<=b):Below B w w':=h.keep.nK c A
theorem ar {w w':World}{base:Nat}{e:TypeId}{size:Nat}{v:Value}{n:Nat}{xs:List Value}(h:w.ownsRow base e size v n xs)(J:∀g,v.ownBlock=some g->w'.heap[g]?=w.heap[g]?):w'.ownsRow base e size v n xs:=by
 refine⟨h.1,?_⟩
 rcases h.2 with I|⟨g,c,A,D,K,M,r⟩
 ·exact .inl I
 ·exact .inr ⟨g,c,A,D,K,(J g (by rw[D];rfl)).trans M,r⟩
theorem aU {w w':World}{k:TypeId}{R:Value->Option (DataW Unit × List MemPlace)}{M n:Nat}{D:DataW Unit}(h:w.ownsMap prog k R M n D)(K:w'.heap[M]?=w.heap[M]?):w'.ownsMap prog k R M n D:=by
 obtain⟨A,c,I,J⟩:=h;exact⟨A,c,K.trans I,J⟩
theorem DevAt.frame {w w':World}{D:Nat}{F:List Nat}{x:DevS}(h:DevAt w D F x)(A:∀b,b∈F\/b=0->w'.heap[b]?=w.heap[b]?)(V:w.heap.size<=w'.heap.size):DevAt w' D F x:=by
 obtain⟨ok,O,⟨S,c,M,Y,m,K,U,T,J⟩,lt⟩:=h;refine⟨ok,⟨lh O.1 V,fun j hj=>(World.cell?_of_block (w:=w) (a:=⟨0,j,none⟩) (A 0 (.inr rfl))).trans (O.2 j hj)⟩,⟨S,c,M,Y,⟨?_,?_,?_,?_⟩,K,U,T,J⟩,fun b I=>⟨(lt b I).1,lh (lt b I).2 V⟩⟩
 ·exact(A D (.inl K)).trans m.dev
 ·exact ar m.sta fun g e=>by cases e;exact A S (.inl U)
 ·exact ar m.cac fun g e=>A g (.inl (J g e))
 ·exact aU m.map (A M (.inl T))
theorem DevAt.below {w w':World}{D:Nat}{F:List Nat}{x:DevS}(h:DevAt w D F x)(A:Zr w w'):DevAt w' D F x:=
 h.frame (fun b c=>A.block b (by rcases c with c|rfl;exact(h.lt b c).2;exact h.half.1)) A.size
theorem DevAt.alloc {w:World}{D:Nat}{F:List Nat}{x:DevS}(h:DevAt w D F x)(o:Obj):DevAt (w.alloc o) D F x:=h.below ((kF _ _).alloc (kE _) _)
theorem DevAt.drew {w:World}{D:Nat}{F:List Nat}{x:DevS}(h:DevAt w D F x):DevAt w.drew D F x:=h.below (kF _ _).drew
theorem DevAt.drewN {w:World}{D:Nat}{F:List Nat}{x:DevS}(h:DevAt w D F x)(n:Nat):DevAt (w.drewN n) D F x:=h.below (aa (kF _ _) n)
theorem DevAt.mG {w:World}{D:Nat}{F:List Nat}{x:DevS}(h:DevAt w D F x){p:Addr}(I:p.block∉F)(A:p.block≠0)(u:Value):DevAt (w.setCell p u) D F x:=
 h.frame (fun b c=>Below.heap_setCell w p u b (fun e=>by subst e;rcases c with c|c;exact I c;exact A c)) (by simp)
theorem DevAt.row {w:World}{D:Nat}{F:List Nat}{x:DevS}(h:DevAt w D F x){g:Nat}(I:g∉F)(A:g≠0)(cs:Array Value):DevAt (w.setRow g cs) D F x:=
 h.frame (fun b c=>ak w g b cs (fun e=>by subst e;rcases c with c|c;exact I c;exact A c)) (by simp)
theorem DevAt.far {w:World}{D:Nat}{F:List Nat}{x:DevS}(h:DevAt w D F x){g:Nat}(A:w.heap.size<=g):g∉F:=fun c=>by have:=(h.lt g c).2;omega
theorem eb {α:Type}{f:α->List Value}{m:Nat}:∀ {l:List α},(∀s∈l,(f s).length=m)->∀ {i j:Nat} (_:j<m) (c:i<l.length),(l.flatMap f)[i*m+j]?=(f l[i])[j]?
 | [],_,i,j,_,c=>by simp at c
 | s::r,h,i,j,hj,c=>by
  have A:=h s (by simp)
  rw[m9];cases i with
  | zero=>rw[mc (by omega)];simp
  | succ i=>
   rw[ml (by rw[A,Nat.add_mul];omega),A,Nat.add_mul,show i*m+1*m+j - m=i*m+j by omega]
   rw[eb (fun s A=>h s (by simp[A])) hj (by simpa using c)]
   simp
theorem dy (s:List Int):(bd s).length=s.length:=by unfold bd;simp
theorem dS (p:Int × List Int):(dwV p).length=p.2.length+1:=by unfold dwV;simp[dy]
theorem z6a {s:List Int}{j:Nat}(h:j<s.length):(bd s)[j]?=some (.int .u8 (s.getD j 0)):=by unfold bd;simp[h]
def DevS.idx (x:DevS)(a:Int):Option Nat:=dU (dw x.cache) a x.cache.length
def DevS.reads (x:DevS)(a:Int):List Int:=match x.idx a with|some i=>(x.cache.getD i (0,[])).2|none=>x.stable.getD a.toNat []
theorem em (c:List (Int × List Int)):(dw c).length=c.length:=by unfold dw;simp
theorem DevS.Ok.reads {x:DevS}(h:x.Ok){a:Int}(D:0<=a/\a<x.stable.length):(x.reads a).length=128/\bj (x.reads a):=by
 unfold DevS.reads;cases hx:x.idx a with
 | none=>
  have c:a.toNat<x.stable.length:=by omega
  simp only[kN,kQ c,Option.getD_some];exact h.sec _ (li c)
 | some i=>
  have A:=(jG hx).1;simp only[kN,kQ A,Option.getD_some];exact(h.cac _ (li A)).2.2
theorem go {w:World}{base:Nat}{e:TypeId}{size:Nat}{g n c:Nat}{xs:List Value}(h:w.ownsRow base e size (.slice (some ⟨g,0,none⟩) n c) n xs){j:Nat}{u:Value}(D:xs[j]?=some u):w.cell? ⟨g,j,none⟩=some u:=by
 have A:=(mf.1 D).1;rw[World.ownsRow.cellAt h j (by rw[<-h.1];exact A),D]
theorem DevMem.sec {w:World}{D S c M:Nat}{cv:Value}{x:DevS}(h:DevMem w D S c M cv x)(ok:x.Ok){a:Int}(ha:0<=a/\a<x.stable.length):
  ∃A U g,cv=.slice A x.cache.length U/\(0<x.cache.length->A=some ⟨g,0,none⟩)/\SecAt w (gd S (dw x.cache) g a.toNat) (x.reads a)/\(gd S (dw x.cache) g a.toNat).block<w.heap.size:=by
 have Y:=ok.reads ha;have K:S<w.heap.size:=(h.sta.lt S rfl).2;have hN:((a.toNat:Nat):Int)=a:=by omega
 have T:∀g A U,cv=.slice A x.cache.length U->(0<x.cache.length->A=some ⟨g,0,none⟩)->(0<x.cache.length->g<w.heap.size)->SecAt w (gd S (dw x.cache) g a.toNat) (x.reads a)/\(gd S (dw x.cache) g a.toNat).block<w.heap.size:=by
  intro g A U ac hA an;unfold gd;rw[hN,em];have I:x.reads a=match dU (dw x.cache) a x.cache.length with|some i=>(x.cache.getD i (0,[])).2|none=>x.stable.getD a.toNat []:=rfl
  cases hx:dU (dw x.cache) a x.cache.length with
  | none=>
   rw[hx]at I;refine⟨⟨Y.1,rfl,fun j V=>?_⟩,K⟩
   refine go h.sta ?_;have O:a.toNat<x.stable.length:=by omega
   rw[eb (fun s hs=>by rw[dy];exact(ok.sec s hs).1) V O]
   have e1:x.stable[a.toNat]=x.reads a:=by rw[I];simp[O]
   rw[e1,z6a (by rw[Y.1];exact V)]
  | some i=>
   rw[hx]at I;have hi:=(jG hx).1;have ab:=hA (by omega)
   subst ab;subst ac;refine⟨⟨Y.1,rfl,fun j V=>?_⟩,an (by omega)⟩
   refine go h.cac ?_;have e0:i*129+1+j=i*129+(j+1):=by omega
   simp only[e0];rw[eb (fun p hp=>by rw[dS,(ok.cac p hp).2.2.1]) (by omega) hi]
   have e1:x.cache[i].2=x.reads a:=by rw[I];simp[hi]
   unfold dwV;rw[mr,e1,z6a (by rw[Y.1];exact V)]
 rcases h.cac.2 with ⟨rfl,h0⟩|⟨g,J,ao,rfl,_,hg,_⟩
 ·obtain⟨k1,k2⟩:=T 0 none 0 (by rw[h0]) (by omega) (by omega)
  exact⟨none,0,0,by rw[h0],by omega,k1,k2⟩
 ·obtain⟨k1,k2⟩:=T g (some ⟨g,0,none⟩) J rfl (fun _=>rfl) (fun _=>(lu.1 hg).1)
  exact⟨_,J,g,rfl,fun _=>rfl,k1,k2⟩
def DevS.atE (x:DevS)(a:Int):Int:=Go.Proofs.YtejmknghkbobnaaGreatDoor.atE x.off x.stable.length a
def DevS.get (x:DevS)(a:Int):Int × Array Value:=(ko x.off x.stable.length a (x.reads a),getV x.off x.stable.length a (x.reads a))
theorem jb {off:Bool}{n:Nat}{a:Int}(c:Go.Proofs.YtejmknghkbobnaaGreatDoor.atE off n a=0):0<=a/\a<(n:Int):=by
 unfold Go.Proofs.YtejmknghkbobnaaGreatDoor.atE at c;cases off
 ·simp only[Bool.false_eq_true,if_false]at c;split at c<;>omega
 ·simp at c
theorem z0S {w:World}{D S c M:Nat}{cv:Value}{x:DevS}(h:DevMem w D S c M cv x):∃A J g,cv=.slice A x.cache.length J/\(0<x.cache.length->A=some ⟨g,0,none⟩):=by
 rcases h.cac.2 with ⟨rfl,O⟩|⟨g,I,K,rfl,_⟩
 ·exact⟨none,0,0,by rw[O],by omega⟩
 ·exact⟨_,I,g,rfl,fun _=>rfl⟩
theorem zbv (D:Nat)(F:List Nat)(x:DevS)(a:Int)(w:World)(h:DevAt w D F x):
  Calls prog 98 #[.pointer (some ⟨D,0,none⟩),.int .i64 a] w fun e Y=>Zr w Y/\e=.returned (.tuple #[.agg (x.get a).2,.int .i64 (x.get a).1]):=by
 obtain⟨ok,U,⟨S,c,M,cv,m,-,-,-,-⟩,-⟩:=h;by_cases J:Go.Proofs.YtejmknghkbobnaaGreatDoor.atE x.off x.stable.length a=0
 ·have V:=jb J;obtain⟨A,O,g,I,T,hs,hl⟩:=m.sec ok V;have K:=m.dev;rw[I]at K;exact z8B D S x.stable.length c g x.cache.length O A x.taken x.power x.off M x.cache.length (dw x.cache) a (x.reads a) (em _) T (by have:=ok.hi;omega) (by have:=ok.len;omega) (ok.reads V).2 w U K m.map (fun _=>⟨hs,hl⟩)
 ·obtain⟨A,O,g,I,T⟩:=z0S m;have K:=m.dev;rw[I]at K;refine(z8B D S x.stable.length c g x.cache.length O A x.taken x.power x.off M x.cache.length (dw x.cache) a zsec (em _) T (by have:=ok.hi;omega) (by have:=ok.len;omega) fi w U K m.map (fun h0=>absurd h0 J)).mono ?_
  rintro e Y ⟨h1,rfl⟩;refine⟨h1,?_⟩
  unfold DevS.get ko getV;rw[if_neg J,if_neg J,if_neg J,if_neg J]
theorem gq (D:Nat)(F:List Nat)(x:DevS)(w:World)(h:DevAt w D F x):
  Calls prog 113 #[.pointer (some ⟨D,0,none⟩)] w fun e I=>e=.returned (.int .i64 x.stable.length)/\I=w:=by
 obtain⟨ok,J,⟨S,c,M,A,m,-,-,-,-⟩,-⟩:=h;exact z5v D S _ c A _ _ _ M w m.dev
open Go.ChangeShapes Go.WideShapes Go.ChangeAt Go.Deep
theorem z92 {H:Type}{enc:TypeId × Value->H}{P:Program}{W:World}{α:Type}(M:α->List Value)(I:α->Prop)(k:Nat)(hk:0<k){t e:TypeId}{fuel:Nat}{v:Value}{x:DataW H × List MemPlace}(ht:P.underlying t=some (.slice e))(hC:P.cellsOf e=k)
  (a2:∀n cs x,cs.length=k->DataW.trod enc P W 0 (fun _=>true) true n e cs=some x->∃a,cs=M a/\I a)
  (h:DataW.trod enc P W 0 (fun _=>true) true fuel t [v]=some x):
  ∃(A:Option Addr) (n c:Nat) (K:List α),v=.slice A n c/\K.length=n/\Reads W A (K.flatMap M)/\(∀a∈K,(M a).length=k/\I a)/\n<=c/\c<=maxLen/\(A=none->n=0/\c=0):=by
 rcases open_slice ht h with ⟨h0,_⟩|⟨a,S,aL,m,n,D,Pl,ab,hb,hl,hm,a8,hx,hi⟩
 ·simp only[List.cons.injEq,and_true]at h0;subst h0;exact⟨none,0,0,[],rfl,rfl,Reads.nil,fun _ h=>(by cases h),kE _,kP _,fun _=>⟨rfl,rfl⟩⟩
 ·simp only[List.cons.injEq,and_true]at ab;subst ab;simp only[if_true]at a8;have U:∀i,i<S->∃u:α,(M u).length=k/\I u/\∀j,j<k->W.cell? (a.add (i*k+j))=(M u)[j]?:=by
   intro i V;obtain⟨a1,hc,ba⟩:=hi i (by omega)
   rw[hC]at hc;obtain⟨_,T,U⟩:=World.cells?_some hc;obtain⟨u,rfl,hg⟩:=a2 n a1 _ T ba;exact⟨u,T,hg,fun j hj=>by rw[<-Go.Deep.add_add];exact U j hj⟩
  obtain⟨K,ao,J⟩:=z8K (fun i u=>(M u).length=k/\I u/\∀j,j<k->W.cell? (a.add (i*k+j))=(M u)[j]?) S U
  have O:∀u∈K,(M u).length=k/\I u:=fun u hu=>by
   obtain⟨i,V,rfl⟩:=List.mem_iff_getElem.1 hu;exact⟨(J i V).1,(J i V).2.1⟩
  refine⟨some a,S,aL,K,rfl,ao,?_,O,hl,hm,fun h=>by cases h⟩
  rcases Nat.eq_zero_or_pos S with h0|h0
  ·left
   have:K=[]:=md (by omega)
   simp[this]
  ·right
   obtain⟨b,off,av⟩:=a;have h1:=(J 0 (by omega)).2.2 0 hk
   have bb:∃u,(M (K[0]'(by omega)))[0]?=some u:=⟨_,kQ (by rw[(J 0 (by omega)).1];exact hk)⟩
   obtain⟨u0,an⟩:=bb;rw[an]at h1;have Y:av=none:=by simpa[Addr.add]using World.cell?_spot h1
   subst Y;refine⟨b,off,rfl,?_,fun j u hu=>?_⟩
   ·have:=World.block_lt_of_cell? W _ h1
    simpa[Addr.add]using this
   ·have a7:j<K.length*k:=by
     have ac:=(mf.1 hu).1;have:(K.flatMap M).length=K.length*k:=by
      clear hu ac ao J an h1;induction K with
      | nil=>simp
      | cons y t ih=>rw[m9,kY,(O y (by simp)).1,ih (fun u hu=>O u (ly _ hu)),lr,Nat.add_mul,Nat.one_mul,Nat.add_comm]
     rwa [this]at ac
    have hq:j / k<K.length:=by rw[Nat.div_lt_iff_lt_mul hk];exact a7
    have hr:j % k<k:=Nat.mod_lt _ hk;have e:=eb (f:=M) (m:=k) (fun s hs=>(O s hs).1) hr hq
    have hj:j / k*k+j % k=j:=by rw[Nat.mul_comm];exact Nat.div_add_mod j k
    rw[hj,hu]at e;have h2:=(J (j / k) hq).2.2 (j % k) hr;rw[hj,<-e]at h2;unfold Addr.add at h2;split at h2
    ·rename_i a6;subst a6;simpa using h2
    ·exact h2
structure ActV where
 wh:Int
 f:Int
 kd:Int
 off:Int
 n:Int
 size:Int
 A:Option Addr
 m:Nat
 c:Nat
 s:ByteArray
def actL (a:ActV):List Value:=[.int .u8 a.wh,.int .u8 a.f,.int .i64 a.kd,.int .i64 a.off,.int .i64 a.n,.int .i64 a.size,.slice a.A a.m a.c,.string a.s]
structure ActOk (W:World)(a:ActV):Prop where
 wh:0<=a.wh/\a.wh<=255
 f:0<=a.f/\a.f<=255
 kd:-9223372036854775808<=a.kd/\a.kd<=9223372036854775807
 off:-9223372036854775808<=a.off/\a.off<=9223372036854775807
 n:-9223372036854775808<=a.n/\a.n<=9223372036854775807
 size:-9223372036854775808<=a.size/\a.size<=9223372036854775807
 list:∃l:List Int,l.length=a.m/\Reads W a.A (l.map (.int .i64))/\a.m<=a.c/\(a.A=none->a.m=0/\a.c=0)
 str:a.s.size<=maxLen
theorem z90 {H:Type}{enc:TypeId × Value->H}{W:World}{fuel:Nat}{v:Value}{x:DataW H × List MemPlace}(h:DataW.trod enc prog W 0 (fun _=>true) true fuel 66 [v]=some x):
  ∃(A:Option Addr) (n c:Nat) (D:List ActV),v=.slice A n c/\D.length=n/\Reads W A (D.flatMap actL)/\(∀a∈D,ActOk W a)/\n<=c/\c<=maxLen/\(A=none->n=0/\c=0):=by
 obtain⟨A,n,c,D,J,K,M,O,S⟩:=z92 actL (ActOk W) 8 (by omega) underlying66 Tryz.qw (fun n cs x I U=>by
  obtain⟨wh,f,V,off,Y,size,A,m,c,l,s,e,w0,w1,w2,w3,w4,w5,q1,q2,q3,-,q5,q6⟩:=z1I I U;exact⟨⟨wh,f,V,off,Y,size,A,m,c,s⟩,e,⟨jQ w0,jQ w1,j3 w2,j3 w3,j3 w4,j3 w5,⟨l,q1,q2,q3,q5⟩,q6⟩⟩) h
 exact⟨A,n,c,D,J,K,M,fun a T=>(O a T).2,S⟩
open Go.ChangeMaps Go.MapKept
theorem z9p {P:Program}{t k e ty:TypeId}{R:Value->Option (DataW Unit × List MemPlace)}{w:World}{M q:Nat}{D:DataW Unit}(J:w.ownsMap P k R M q D)(O:P.underlying t=some (.map k e)):
  ∃v I,(Builtin.clear_ #[t] ty #[.map (some M)]).run P w=.ok v I/\I.ownsMap P k R M 0 (.map [])/\w.grownBy I (some M):=by
 obtain⟨S,c,A,F,U,T⟩:=J;refine⟨_,_,by simp[Builtin.clear_,run_underlying O,MapKept.run_getObj_map A,MapKept.run_setObj_map _ A,Result.andThen];exact⟨rfl,rfl⟩,⟨#[],c,heap_setBlock_same A _,⟨by simp,stamped_empty c,by simp⟩,kE _,rfl⟩,⟨rfl,rfl,rfl,by simp[setBlock],fun i _ K=>heap_setBlock_other A _ (fun e=>K (by rw[e]))⟩⟩
theorem z0t {P:Program}(w:World){A:Array Oper}{rest:List Oper}{o:Oper}{a:Act}{Q:Exit->Act->World->Prop}(U:o.guard=none)(m:Operand)(t:TypeId)
  (Y:o.op=.call { callee:=.builtin .clear,args:=#[m],argTypes:=#[t] }) (k e:TypeId) (V:P.underlying t=some (.map k e)) (R:Value->Option (DataW Unit × List MemPlace)) (M q:Nat) (D:DataW Unit)
  (hv:a.eval m=.map (some M)) (T:w.ownsMap P k R M q D) (S:∀v I,I.ownsMap P k R M 0 (.map [])->w.grownBy I (some M)->wpList P A Q rest (a.put o.dst v) I):wpList P A Q (o::rest) a w:=by
 refine wpList_plain U fun _ J=>?_
 obtain⟨v,I,c,K,O⟩:=z9p (ty:=o.type) T V;unfold Oper.wp execOp;simp only[Y,resolve,invoke,builtin,Sem.run_bind,Sem.run_pure,Result.andThen_ok,List.map_toArray,kR,kS,hv,c];exact J _ _ (S v I K O)
theorem DevMem.ne {w:World}{D S c M:Nat}{cv:Value}{x:DevS}(m:DevMem w D S c M cv x):D≠S/\D≠M/\S≠M/\cv.ownBlock≠some D/\cv.ownBlock≠some M/\cv.ownBlock≠some S:=by
 have J:w.heap[D]?=some (.cells _ _ _):=m.dev;obtain⟨es,U,O,_⟩:=m.map;have I:∃A,w.heap[S]?=some (.cells A 128 (0,0)):=by
  rcases m.sta.2 with ⟨h,_⟩|⟨g,T,A,h,_,K,_⟩
  ·simp at h
  ·simp only[Value.slice.injEq,lx,Addr.mk.injEq,and_true,true_and]at h;obtain⟨rfl,rfl⟩:=h;exact⟨A,K⟩
 obtain⟨A,I⟩:=I;refine⟨?_,?_,?_,?_,?_,?_⟩
 ·rintro rfl;rw[I]at J;simp at J
 ·rintro rfl;rw[O]at J;simp at J
 ·rintro rfl;rw[O]at I;simp at I
 all_goals
  intro V;rcases m.cac.2 with ⟨rfl,_⟩|⟨g,T,Y,rfl,_,K,_⟩
  ·simp[Value.ownBlock]at V
  ·simp only[Value.ownBlock,lx]at V;subst V;first
    | (rw[K]at J;simp at J;done)
    | (rw[K]at O;simp at O;done)
    | (rw[K]at I;simp at I;done)
theorem z8u (D S c M:Nat)(cv:Value)(x:DevS)(w:World)(m:DevMem w D S c M cv x):
  Calls prog 136 #[.pointer (some ⟨D,0,none⟩)] w fun e T=>(∃v,e=.returned v)/\DevMem T D S c M (.slice none 0 0) { x with cache:=[] }/\KeepEx w.heap.size [D,M] w T:=by
 obtain⟨V,Y,n3,n4,n5,n6⟩:=m.ne;have I:=m.dev;unfold fu at I;have cD:=I.cells;have fD:=I.free;have lD:=I.lt;have lM:=m.map.lt;have J:Blk (w.setCell ⟨D,1,none⟩ (.slice none 0 0)) D 133 (fu S x.stable.length c (.slice none 0 0) x.taken x.power x.off M):=I.mG 1 _;have K:(w.setCell ⟨D,1,none⟩ (.slice none 0 0)).ownsMap prog 3 (plainElem prog 3) M x.cache.length (dr (dw x.cache) x.cache.length):=aU m.map (Below.heap_setCell _ _ _ _ (fun e=>Y e.symm))
 go_enter func136,ntmps136
 go_wp2_with (refine z0t _ rfl _ _ rfl 3 3 underlying131 _ M _ _ rfl K ?_;intro v1 w1 O A)
 trace_state
 go_end0
 have U:KeepEx w.heap.size [D,M] w (w.setCell ⟨D,1,none⟩ (.slice none 0 0)):=KeepEx.setCell _ (.inl (by simp)) _
 refine⟨⟨_,rfl⟩,⟨?_,?_,?_,?_⟩,U.trans (KeepEx.grown A (by simp) (by intro k e;cases e;left;simp))⟩
 ·exact J.grown A (by simp;omega)
 ·refine ar m.sta fun g e=>?_
  cases e;rw[A.block S (by simpa using (m.sta.lt S rfl).2) (by simp;omega)]
  exact Below.heap_setCell _ _ _ _ (fun e=>V e.symm)
 ·exact World.ownsRow_nil _ _ _ _
 ·exact O
def gz (w:World)(p:Addr)(vs:List Value):Prop:=p.spot=none/\∀j u,vs[j]?=some u->w.cell? ⟨p.block,p.off+j,none⟩=some u
theorem ep (b o j:Nat):(⟨b,o,none⟩:Addr).add j=⟨b,o+j,none⟩:=by unfold Addr.add;split<;>simp_all
theorem Blk.at_ {w:World}{g:Nat}{t:TypeId}{cs:Array Value}(h:Blk w g t cs)(o:Nat)(vs:List Value)(A:∀j u,vs[j]?=some u->cs[o+j]?=some u):gz w ⟨g,o,none⟩ vs:=
 ⟨rfl,fun j u c=>(h.cells (o+j)).trans (A j u c)⟩
theorem eQ {P:Program}{w:World}{ty:TypeId}{p:Addr}{vs:List Value}(h:gz w p vs)(c:(isAgg ty).run P w=.ok true w)(A:(sizeOf ty).run P w=.ok vs.length w):
  (Instr.loadAt ty (.pointer (some p))).run P w=.ok (.agg vs.toArray) w:=by
 obtain⟨b,o,M⟩:=p;obtain⟨D,I⟩:=h;simp only at D
 subst D;have J:=run_loadCells_list (P:=P) w ⟨b,o,none⟩ vs (fun j v K=>by rw[ep];exact I j v K)
 simp only[Instr.loadAt,Instr.sureAddr,Sem.run_bind,Sem.run_pure,Result.andThen_ok,loadVar,c,A,if_true,J]
theorem dE {P:Program}{w:World}{ty t:TypeId}{g o:Nat}{cur:Array Value}{vs:List Value}(h:Blk w g t cur)(I:o+vs.length<=cur.size)(D:∀v∈vs,v.oneCell'=true)(A:(sizeOf ty).run P w=.ok vs.length w):
  (Instr.storeAt ty (.pointer (some ⟨g,o,none⟩)) (.agg vs.toArray)).run P w=.ok () (w.setRow g (cur.toList.take o++vs++cur.toList.drop (o+vs.length)).toArray):=by
 have c:=run_storeCells_at P g o t vs 0 cur w h (by simpa using I) D
 simp only[Nat.add_zero]at c;simp only[Instr.storeAt,Instr.sureAddr,Sem.run_bind,Sem.run_pure,Result.andThen_ok,storeVar,A,Value.cells,List.size_toArray,ne_eq,not_true_eq_false,if_false,c]
theorem z0q {P:Program}{A:Array Oper}{rest:List Oper}{o:Oper}{a:Act}{w:World}{Q:Act->Prop}(D:o.guard=none)(ty:TypeId)(x:Operand)(J:o.op=.load ty x)(v p:Value)
  (M:a.eval x=p) (c:(Instr.loadAt ty p).run P w=.ok v w) (h:wpStill P A w Q rest (a.put o.dst v)):wpStill P A w Q (o::rest) a:=by
 refine wpStill_step fun K I=>?_
 simp only[Region.wanted,D,if_true];unfold Oper.still execOp;simp only[J,M,Sem.run_bind,Sem.run_pure,Result.andThen_ok,c,Oper.stillUpon_value];exact I _ h
theorem z3m {P:Program}{A:Array Oper}{rest:List Oper}{o:Oper}{a:Act}{w:World}{Q:Exit->Act->World->Prop}(D:o.guard=none)(ty:TypeId)(x:Operand)(J:o.op=.load ty x)(v p:Value)
  (K:a.eval x=p) (c:(Instr.loadAt ty p).run P w=.ok v w) (h:wpList P A Q rest (a.put o.dst v) w):wpList P A Q (o::rest) a w:=by
 refine wpList_plain D fun _ I=>?_
 unfold Oper.wp execOp;simp only[J,K,Sem.run_bind,Sem.run_pure,Result.andThen_ok,c];exact I _ _ h
theorem ae {P:Program}{A:Array Oper}{rest:List Oper}{o:Oper}{a:Act}{w w':World}{Q:Exit->Act->World->Prop}(D:o.guard=none)(ty:TypeId)(x y:Operand)(J:o.op=.store ty x y)(p v:Value)
  (K:a.eval x=p) (M:a.eval y=v) (c:(Instr.storeAt ty p v).run P w=.ok () w') (h:wpList P A Q rest (a.put o.dst undef) w'):wpList P A Q (o::rest) a w:=by
 refine wpList_plain D fun _ I=>?_
 unfold Oper.wp execOp;simp only[J,K,M,Sem.run_bind,Sem.run_pure,Result.andThen_ok,c];exact I _ _ h
theorem zsb {P:Program}{c:Array Oper}{rest:List Oper}{o:Oper}{a:Act}{w w':World}{Q:Exit->Act->World->Prop}{ty:TypeId}{x y:Operand}{p v:Value}(I:(Instr.storeAt ty p v).run P w=.ok () w')(h:wpList P c Q rest (a.put o.dst undef) w')(A:o.guard=none:=by rfl)(D:o.op=.store ty x y:=by rfl)(J:a.eval x=p:=by rfl)(K:a.eval y=v:=by rfl):wpList P c Q (o::rest) a w:=ae A ty x y D p v J K I h
theorem z26 {w:World}{base:Nat}{e:TypeId}{size g n A:Nat}{xs:List Value}(h:w.ownsRow base e size (.slice (some ⟨g,0,none⟩) n A) n xs)(o:Nat)(vs:List Value)(ho:o+vs.length<=n*size):
  ∃c,Blk w g e c/\o+vs.length<=c.size/\(w.setRow g (c.toList.take o++vs++c.toList.drop (o+vs.length)).toArray).ownsRow base e size (.slice (some ⟨g,0,none⟩) n A) n (xs.take o++vs++xs.drop (o+vs.length)):=by
 rcases h.2 with ⟨J,_⟩|⟨g',O,c,J,V,S,I,K,M,D⟩
 ·simp at J
 ·simp only[Value.slice.injEq,lx,Addr.mk.injEq,and_true,true_and]at J;obtain⟨rfl,rfl⟩:=J;have hl:n*size<=c.size:=by rw[M];exact Nat.mul_le_mul_right _ I
  have Y:=h.1;refine⟨c,S,by omega,⟨?_,.inr ⟨g,A,_,rfl,V,setRow_heap w g c _ e _ S,I,K,?_,?_⟩⟩⟩
  ·rw[kY,kY,kX,ma];omega
  ·simp only[List.size_toArray,kY,kX,ma,Array.length_toList];omega
  ·subst D;have T:min o c.size=o:=Nat.min_eq_left (by omega)
   have U:min o (n*size)=o:=Nat.min_eq_left (by omega)
   simp only[List.take_append,List.take_take,kY,kX,Array.length_toList,T,U];rw[Nat.min_eq_right (by omega:o<=n*size),mj (by omega:vs.length<=n*size - o),List.drop_take]
theorem z2D {α:Type}{f:α->List Value}{m:Nat}:∀ {l:List α},(∀s∈l,(f s).length=m)->∀ {i:Nat} {s:α} (_:(f s).length=m) (_:i<l.length),(l.set i s).flatMap f=(l.flatMap f).take (i*m)++f s++(l.flatMap f).drop (i*m+(f s).length)
 | [],_,i,s,_,hi=>by simp at hi
 | t::r,h,i,s,c,hi=>by
  have A:=h t (by simp)
  cases i with
  | zero=>
   simp only[kH,m9,Nat.zero_mul,mm,mo,ld];rw[c,<-A,List.drop_left]
  | succ i=>
   have ih:=z2D (fun s c=>h s (by simp[c])) c (by simpa using hi) (l:=r) (i:=i)
   simp only[kI,m9,ih];rw[show (i+1)*m=(f t).length+i*m by rw[A,Nat.add_mul];omega,List.take_length_add_append,Nat.add_assoc,List.drop_length_add_append]
   simp[List.append_assoc]
def dt (st:List (List Int))(c:List (Int × List Int)):List (List Int):=c.foldl (fun st p=>st.set p.1.toNat p.2) st
theorem aW (st:List (List Int))(c:List (Int × List Int)):(dt st c).length=st.length:=by
 unfold dt;induction c generalizing st with
 | nil=>rfl
 | cons p r ih=>rw[List.foldl_cons,ih,List.length_set]
theorem iX {st:List (List Int)}{c:List (Int × List Int)}{k:Nat}(A:k<c.length):dt st (c.take (k+1))=(dt st (c.take k)).set c[k].1.toNat c[k].2:=by
 unfold dt;rw[kZ A,List.foldl_append];rfl
theorem jq {st:List (List Int)}{c:List (Int × List Int)}(h:∀s∈st,s.length=128/\bj s)(D:∀p∈c,p.2.length=128/\bj p.2):∀s∈dt st c,s.length=128/\bj s:=by
 unfold dt;induction c generalizing st with
 | nil=>exact h
 | cons p r ih=>
  rw[List.foldl_cons];refine ih ?_ (fun q I=>D q (by simp[I]))
  intro s A;rcases List.mem_or_eq_of_mem_set A with A|A
  ·exact h s A
  ·subst A;exact D p (by simp)
def DevS.mX (x:DevS):DevS:={ x with stable:=dt x.stable x.cache,cache:=[] }
theorem DevS.Ok.mX {x:DevS}(h:x.Ok):x.mX.Ok:=
 ⟨by show 64<=(dt _ _).length;rw[aW];exact h.lo,by show (dt _ _).length<=256;rw[aW];exact h.hi,jq h.sec (fun p c=>(h.cac p c).2.2),fun p c=>(by cases c),by show 0<=400;omega,h.tk,h.pw⟩
theorem Tryz.oP:(prog.info? 130).map (fun i=>(i.zero,i.size))=some (some (.agg (#[.int .i64 0]++fill (.int .u8 0) 128)),129):=by kernel_rfl
theorem zcd (w:World):(zeroValue 130).run prog w=.ok (.agg (dwV (0,zsec)).toArray) w:=by
 have h:=(zero_of_info Tryz.oP).1 w;have e:(dwV (0,zsec)).toArray=#[.int .i64 0]++fill (.int .u8 0) 128:=by
  unfold dwV bd;have:=fZ 128
  unfold ag at this;rw[<-this];show _=#[Value.int .i64 0]++(zsec.map (Value.int .u8)).toArray
  generalize zsec.map (Value.int .u8)=l;simp
 rw[e];exact h
theorem z9z (w:World):(sizeOf 130).run prog w=.ok 129 w:=by kernel_rfl
theorem zco (w:World):(isAgg 130).run prog w=.ok true w:=by kernel_rfl
theorem z1w (w:World):(sizeOf 128).run prog w=.ok 128 w:=by kernel_rfl
theorem z83 (w:World):(isAgg 128).run prog w=.ok true w:=by kernel_rfl
theorem jo (s:List Int):∀v∈bd s,v.oneCell'=true:=by
 intro v c;unfold bd at c;simp at c;obtain⟨_,_,rfl⟩:=c;rfl
theorem iP (p:Int × List Int):∀v∈dwV p,v.oneCell'=true:=by
 intro v c;rcases lp.1 c with rfl|c
 ·rfl
 ·exact jo _ v c
theorem z2d (D S c M:Nat)(cv:Value)(x:DevS)(ok:x.Ok)(w:World)(m:DevMem w D S c M cv x):
  Calls prog 185 #[.pointer (some ⟨D,0,none⟩)] w fun e w'=>(∃v,e=.returned v)/\DevMem w' D S c M (.slice none 0 0) x.mX/\KeepEx w.heap.size [D,S,M] w w':=by
 obtain⟨n1,n2,n3,n4,n5,n6⟩:=m.ne;have hz:=zcd;obtain⟨A,cc,g,bq,hA⟩:=z0S m;subst bq;have hL:=ok.len;have hN:=ok.hi;have bD:=m.dev;unfold fu at bD;obtain⟨cD,lD⟩:=bD.zc;go_enter func185,ntmps185
 go_wp2_with fail
 go_loopw [3,10] (fun _ q wr=>∃k:Nat,k<=x.cache.length/\q=.int .i64 k/\DevMem wr D S c M (.slice A x.cache.length cc) { x with stable:=dt x.stable (x.cache.take k) }/\KeepEx w.heap.size [D,S,M] w wr) (fun _ q _=>x.cache.length - (intOf q).toNat)
 case atStart=>exact⟨0,by omega,rfl,m,KeepEx.refl _ _ _⟩
 case round=>
  obtain⟨k,hk,rfl,mk,hx⟩:=hrel;clear cD;by_cases aL:k<x.cache.length
  ·have bp:=hA (by omega)
   subst bp;obtain⟨h0,h1,h2,h3⟩:=ok.cac _ (li aL);have V:=mk.dev;unfold fu at V;have bk:=V.cells;obtain⟨p,hp⟩:=zxe (x.cache[k]);have I:=iX (st:=x.stable) aL;rw[hp]at h0 h1 h2 h3 I;have a7:gz wr ⟨g,k*129,none⟩ (dwV p):=⟨rfl,fun j u hu=>go mk.cac (by
    have hj:j<129:=by have:=(mf.1 hu).1;rw[dS,h2]at this;exact this
    show (x.cache.flatMap dwV)[k*129+j]?=some u
    rw[eb (fun q hq=>by rw[dS,(ok.cac q hq).2.2.1]) hj aL,hp];exact hu)⟩
   have a1:(dwV p).length=129:=by rw[dS,h2]
   have a8:=eQ (P:=prog) a7 (zco wr) (by rw[a1];exact z9z wr)
   have av:Blk (wr.alloc (.cells (dwV (0,zsec)).toArray 130)) wr.heap.size 130 (dwV (0,zsec)).toArray:=Blk.new _ _ _;have a6:(dwV (0,zsec)).toArray.size=129:=by simp[dS,am]
   have bb:=dE (P:=prog) (ty:=130) av (o:=0) (vs:=dwV p) (by rw[a6,a1];omega) (iP p) (by rw[a1];exact z9z _)
   generalize dwV (0,zsec)=z0 at *;go_wp2_with (first
    | (refine z3m rfl _ _ rfl (.agg (dwV p).toArray) (.pointer (some ⟨g,k*129,none⟩)) rfl a8 ?_)
    | (refine zsb bb ?_))
   have bc:z0.drop 129=[]:=List.drop_eq_nil_of_le (by simpa using Nat.le_of_eq a6)
   rw[bc,mp];obtain⟨T,ab⟩:=zex ((wr.alloc (.cells z0.toArray 130)).setRow wr.heap.size (dwV p).toArray);rw[<-ab];have bX:Blk T wr.heap.size 130 (dwV p).toArray:=by rw[ab];exact av.setRow
   have B2:Zr wr T:=by rw[ab];exact Below.setRow ((kF _ _).alloc (kE _) _) (kE _) _
   clear ab bb a8 a7 bc av a6 hz;have m2:DevMem T D S c M (.slice (some ⟨g,0,none⟩) x.cache.length cc) { x with stable:=dt x.stable (x.cache.take k) }:=
    ⟨V.mD B2,aq mk.sta B2,aq mk.cac B2,aU mk.map (B2.block M mk.map.lt)⟩
   have U:=m2.dev;simp only[fu,aW]at U;have bt:=U.cells;obtain⟨cX,lX⟩:=bX.zc;have bu:=U.lt;have bn:T.cell? ⟨wr.heap.size,0,none⟩=some (.int .i64 p.1):=by rw[cX];rfl
   have J:(bd p.2).length=128:=by rw[dy,h2]
   have ba:=eQ (P:=prog) (w:=T.drew) (ty:=128) (p:=⟨wr.heap.size,1,none⟩) (vs:=bd p.2) (bX.drew.at_ 1 _ (fun j u hu=>by rw[Nat.add_comm];simpa[dwV]using hu)) (z83 _) (by rw[J];exact z1w _)
   obtain⟨pn,a2⟩:=lz h0;rw[a2]at h1 bn;clear cX bk V;refine wp_region_still_tail 10 (by kernel_rfl) (by kernel_rfl) ?_
   simp only[List.take_succ_cons,mm,List.drop_succ_cons,List.drop_zero];change wpStill _ _ T.drew _ _ _
   repeat (first|(refine z0q rfl _ _ rfl (.agg (bd p.2).toArray) (.pointer (some ⟨wr.heap.size,1,none⟩)) rfl ba ?_)|still_step)
   refine wpStill_nil ?_;change wpList _ _ _ _ _ T.drew
   obtain⟨Y,bS,an,O⟩:=z26 m2.sta (pn*128) (bd p.2) (by simp only[aW];rw[J];omega)
   have ao:=dE (P:=prog) (w:=T.drew) (ty:=128) bS an (jo p.2) (by rw[J];exact z1w _)
   obtain⟨W3,ac⟩:=zex (T.drew.setRow S (Y.toList.take (pn*128)++bd p.2++Y.toList.drop (pn*128+(bd p.2).length)).toArray);rw[<-ac]at ao;have br:KeepEx w.heap.size [D,S,M] w W3:=(hx.trans (KeepEx.of_below (B2.mono hx.size))).trans (by rw[ac];exact(KeepEx.of_below (kF _ _).drew).trans (KeepEx.setRow _ (.inl (by simp)) _))
   have m3:DevMem W3 D S c M (.slice (some ⟨g,0,none⟩) x.cache.length cc) { x with stable:=dt x.stable (x.cache.take (k+1)) }:=by
    rw[ac];refine⟨?_,?_,?_,?_⟩
    ·have:=U.drew.mO (cs':=(Y.toList.take (pn*128)++bd p.2++Y.toList.drop (pn*128+(bd p.2).length)).toArray) n1
     simp only[fu,aW];exact this
    ·rw[I,z2D (f:=bd) (m:=128) (fun s hs=>by rw[dy];exact(jq ok.sec (fun q hq=>(ok.cac q (List.mem_of_mem_take hq)).2.2) s hs).1) J (by rw[aW];omega),a2]
     simp only[List.length_set,aW]at O |-;exact O
    ·exact ar m2.cac fun j e=>ak _ _ _ _ (fun e'=>by subst e';exact n6 e)
    ·exact aU m2.map (ak _ _ _ _ (fun e'=>n3 e'.symm))
   clear ac O bS an I a2;go_wp2_with (refine zsb ao ?_)
   go_roundw
   case rel=>exact⟨k+1,by omega,by go_num,m3,br⟩
   case measure=>simp[intOf];omega
  ·obtain rfl:k=x.cache.length:=by omega
   rw[lj]at mk;go_wp2_with fail
   refine(z8u D S c M _ _ wr mk).mono ?_;rintro e w1 ⟨⟨v,rfl⟩,m1,K⟩;go_wp2_with fail
   go_end0
   refine⟨⟨_,rfl⟩,m1,hx.trans ⟨K.os,K.tape,K.output,K.size,fun b hb hn=>K.block b (by have:=hx.size;omega) (by simp at hn |-;omega)⟩⟩
theorem zcs (Z:Array Value)(A:Z.size=129)(a:Int)(s:List Int)(I:s.length=128):
  Instr.fill (fun i=>#[(0,1),(1,128)][i]?) Z [(0,.int .i64 a),(1,.agg (bd s).toArray)]=some (dwV (a,s)).toArray:=by
 have c:(bd s).length=128:=by rw[dy,I]
 unfold dwV;generalize bd s=l at c;simp[Instr.fill,Value.cells,A,c]
 obtain⟨J,D⟩:=Great.foldl_set 1 l 0 (Z.setIfInBounds 0 (.int .i64 a));apply Array.ext_getElem?
 intro k;rw[D k];simp only[Array.size_setIfInBounds,A,c];cases k with
 | zero=>simp[A]
 | succ k=>
  simp only[List.getElem?_toArray,mr];by_cases K:k<128
  ·rw[if_pos (by omega),show k+1 - (1+0)=k by omega]
  ·rw[if_neg (by omega),List.getElem?_eq_none (by omega),Array.getElem?_eq_none (by simp[A];omega)]
theorem z3G (a:Int)(s:List Int)(c:s.length=128):prog.built 130 [(0,.int .i64 a),(1,.agg (bd s).toArray)]=some (dwV (a,s)).toArray:=by
 have e:prog.built 130 [(0,.int .i64 a),(1,.agg (bd s).toArray)]=Instr.fill (fun i=>#[(0,1),(1,128)][i]?) (#[.int .i64 0]++fill (.int .u8 0) 128) [(0,.int .i64 a),(1,.agg (bd s).toArray)]:=by kernel_rfl
 rw[e];exact zcs _ (by rw[Array.size_append,z11];rfl) a s c
theorem z4h (a:Int)(s:List Int)(c:s.length=128)(w:World):(Instr.build 130 #[(0,.int .i64 a),(1,.agg (bd s).toArray)]).run prog w=.ok (.agg (dwV (a,s)).toArray) w:=
 run_build w _ _ _ (z3G a s c)
theorem gK (p:Int × List Int)(K:p.2.length=128)(w:World):(Instr.buildSlice 32 1 #[(0,.agg (dwV p).toArray)]).run prog w=.ok (.slice (some ⟨w.heap.size,0,none⟩) 1 1) (w.alloc (.cells (dwV p).toArray 130)):=by
 obtain⟨D,A⟩:∃D,prog.info? 130=some D:=by
  have:=Tryz.oP
  cases h:prog.info? 130 with
  | none=>rw[h]at this;cases this
  | some D=>exact⟨D,rfl⟩
 have c:=Tryz.oP;rw[A]at c;simp only[Option.map_some,lx,Prod.mk.injEq]at c;have I:(dwV p).length=129:=by rw[dS,K]
 have M:(#[Value.int .i64 0]++fill (.int .u8 0) 128).size=129:=by rw[Array.size_append,z11];rfl
 refine run_buildSlice w _ 130 1 _ _ D _ underlying32 A c.1 (by rw[c.2];decide) (by rw[c.2];decide) ?_
 have:=Great.fill_whole (s:=129) (by omega) [.agg (dwV p).toArray] ((Array.range (1*129)).map fun i=>(#[Value.int .i64 0]++fill (.int .u8 0) 128)[i % (#[Value.int .i64 0]++fill (.int .u8 0) 128).size]!) (by intro v J;simp at J;subst J;simpa[Value.cells]using I) (by simp)
 rw[c.2];simpa[Value.cells]using this
theorem jz (D:Nat)(F:List Nat)(x:DevS)(w:World)(h:DevAt w D F x):
  Calls prog 121 #[.pointer (some ⟨D,0,none⟩)] w fun e w'=>e=.returned (.int .i64 (kB x.off))/\DevAt w' D F (if x.off then x else x.mX)/\Grow w F w' F:=by
 obtain⟨ok,hH,⟨S,c,M,O,m,T,V,U,hC⟩,lt⟩:=h;have K:=z47 D S x.stable.length c O x.taken x.power x.off M w m.dev;by_cases A:x.off=true
 ·rw[A]at K;rw[A,if_pos rfl];have h:DevAt w D F x:=⟨ok,hH,⟨S,c,M,O,m,T,V,U,hC⟩,lt⟩;clear m A;go_enter func121,ntmps121
  go_wp2_with fail
  refine K.mono ?_;rintro e w1 ⟨rfl,rfl⟩;go_wp2_with fail
  go_ret
  exact⟨rfl,h,Grow.refl _ _⟩
 ·have A:x.off=false:=by simpa using A
  rw[A]at K;rw[A,if_neg (by simp)]
  have ab:=z2d D S c M O x ok w m;go_enter func121,ntmps121
  go_wp2_with fail
  refine K.mono ?_;rintro e w1 ⟨rfl,rfl⟩;go_wp2_with fail
  refine ab.mono ?_;rintro e w2 ⟨⟨v,rfl⟩,m2,I⟩;go_wp2_with fail
  go_ret
  have h0:0∉F:=fun hm=>by have:=(lt 0 hm).1;omega
  have hg:Grow w1 F w2 F:=⟨⟨I.os,I.tape,I.output,I.size,fun k hk Y=>I.block k hk (by simp;exact⟨fun e=>Y (e▸T),fun e=>Y (e▸V),fun e=>Y (e▸U)⟩)⟩,fun b J=>.inl J⟩
  exact⟨rfl,⟨ok.mX,hg.half hH h0,⟨S,c,M,_,m2,T,V,U,fun g e=>by simp[Value.ownBlock]at e⟩,fun b J=>⟨(lt b J).1,lh (lt b J).2 I.size⟩⟩,hg⟩
theorem jZ (us:List Bool):∀u∈us.map Value.bool,u.oneCell'=true:=by
 intro u c;simp at c;rcases c with ⟨_,rfl⟩|⟨_,rfl⟩<;>rfl
theorem jx (A:Option Addr)(c:Nat)(us:List Bool)(w:World)(V:Reads w A (us.map .bool))(U:A≠none)(hn:us.length<=1000):
  Calls prog 153 #[.slice A us.length c] w fun e T=>∃v,e=.returned v/\T.ownsRow w.heap.size 4 1 v us.length (us.map .bool)/\Zr w T:=by
 obtain⟨i0,Y,J,K,M⟩:=info_parts Tryz.info4;have hm:=jZ us;obtain⟨ad,rfl⟩:=Option.ne_none_iff_exists'.1 U;have S:=fun (w:World)=>Lib.run_eql_slice_nil (P:=prog) w 45 4 (some ad) us.length c 0 0 underlying45
 go_enter func153,ntmps153
 go_wp2_with (at_builtin;refine dj _ rfl (.tmp 5) (.tmp 6) _ rfl w.heap.size 4 i0 (.bool false) 1 underlying45 Y J K M rfl (.slice (some ⟨w.heap.size,0,none⟩) 0 0) 0 [] rfl (World.ownsRow_made w #[] 0 (kE _) (by simp) rfl) (some ad) us.length c (us.map .bool) rfl (by simp) (by simp) (V.alloc _) hm (by simp only[maxLen];omega) (by omega) (by simp) ?_;intro v1 w1 D I O)
 go_ret
 refine⟨v1,rfl,by simpa using D,((kF _ _).alloc (kE _) _).grown I (by simp) (fun k hk=>?_)⟩
 simp[Value.ownBlock]at hk;omega
end Go.Proofs.YtejmknghkbobnaaGreatDoor
