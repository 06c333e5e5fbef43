import Derived.Test.YtejmknghkbobnaaGreatDoorPart03
import Derived.Laws.BytesArg
set_option linter.all false
set_option maxRecDepth 100000
set_option maxHeartbeats 0
namespace Go.Proofs.YtejmknghkbobnaaGreatDoor
open Go.Proofs.Tryz
open Go
section
variable {P:Program}{ops:Array Oper}{Q:Exit->Act->World->Prop}{S:World->Prop}{T:Nat}
def anyS (P:Program)(ops:Array Oper)(Q:Exit->Act->World->Prop)(S:World->Prop)(T:Nat):Nat->Array Bool->Act->World->Prop
 | 0,L,a,w=>Region.ready .any ops L=[]/\Q .normal a w
 | f+1,L,a,w=>(Region.ready .any ops L=[]->Q .normal a w) /\
  ∀i∈Region.ready .any ops L,wpOp P ops Q i (fun a' w'=>(i<T->S w')/\anyS P ops Q S T f (L.setIfInBounds i true) a' w') a w
theorem j9 (f:Nat):∀(L:Array Bool) (a:Act) (w:World),anyS P ops Q S T f L a w->wpAny P .any ops Q f L a w:=by
 induction f with
 | zero=>exact fun _ _ _ h=>h
 | succ f ih=>exact fun L a w h=>⟨h.1,fun i D=>wpOp_mono (fun c I A=>ih _ c I A.2) (h.2 i D)⟩
theorem kb {i:Nat}{o:Oper}{v:Value}(ho:ops[i]?=some o)(a1:Region.noSelect ops=true)(hT:∀j,T<=j->j<ops.size->Region.waitsFor .any ops j i=true)
  (hQ:∀c a d v w,Q (.panic c) (Act.put a d v) w->Q (.panic c) a w) (f:Nat):
  ∀(L:Array Bool) (a:Act) (w:World),(∀j p,ops[j]?=some p->j≠i->L.getD j true=false->(∀e∈p.after,Region.binds .any e=true->e.on≠i)->o.apart ops p=true) ->
   i∈Region.ready .any ops L->YieldsIf P ops S o v a->S w->anyS P ops Q S T f (L.setIfInBounds i true) (a.put o.dst v) w->anyS P ops Q S T (f+1) L a w:=by
 have A:=Region.noSelect_spec a1;induction f with
 | zero=>
  intro L a w _ D hy K H;refine⟨fun h0=>(by rw[h0]at D;cases D),fun j hj=>?_⟩
  by_cases e:j=i
  ·subst e;exact hy.wpOp ho K ⟨fun _=>K,H⟩
  ·have:=ready_mono hj e;rw[H.1]at this;cases this
 | succ f ih=>
  intro L a w O D hy K H;refine⟨fun h0=>(by rw[h0]at D;cases D),fun j hj=>?_⟩
  by_cases e:j=i
  ·subst e;exact hy.wpOp ho K ⟨fun _=>K,H⟩
  ·have ab:=getD_both (mem_ready.1 D).1;obtain⟨U,p,Y,M⟩:=mem_ready.1 hj;have V:∀x∈p.after,Region.binds .any x=true->x.on≠i:=fun x hx hb a6=>by
    have:=M x hx hb
    rw[a6,ab]at this;cases this
   have ac:j<T:=by
    rcases Nat.lt_or_ge j T with h|h
    ·exact h
    ·exfalso
     have an:=(lu.1 Y).1;obtain⟨q,hq,x,hx,hb,a2⟩:=Region.waitsFor_spec (hT j h an);rw[Y]at hq;cases hq;exact V x hx hb a2
   have I:=wpOp_putIf Y (O j p Y e U V) (fun cs b=>A i o cs b ho) (fun cs b=>A j p cs b Y) (fun c a w=>hQ c a o.dst v w) hy (H.2 j (ready_mono hj e))
   refine wpOp_mono (fun a' w' h'=>⟨h'.2.1,?_⟩) I
   refine ih (L.setIfInBounds j true) a' w' (fun k q hk av ao aL=>O k q hk av ?_ aL) (ready_mono D (Ne.symm e)) h'.1 (h'.2.1 ac) ?_
   ·by_cases J:j=k
    ·subst J;exact U
    ·rwa [getD_set_ne true J]at ao
   ·rw[Array.setIfInBounds_comm _ _ e];exact h'.2.2
inductive Mi where
 | take (k:Nat) (o:Oper)
 | one (k:Nat) (o:Oper)
 | par (i:Nat) (o:Oper) (js:List (Nat × Oper))
inductive Ms where
 | take (k:Nat)
 | one (k:Nat)
 | par (i:Nat) (js:List Nat)
def Ms.fill (l:List Oper)(d:Oper):Ms->Mi
 | .take k=>.take k (l.getD k d)
 | .one k=>.one k (l.getD k d)
 | .par i js=>.par i (l.getD i d) (js.map fun j=>(j,l.getD j d))
def ki (P:Program)(Q:Exit->Act->World->Prop)(S:World->Prop)(K:Act->World->Prop):List (Nat × Oper)->Act->World->Prop
 | [],a,w=>K a w
 | (_,p)::r,a,w=>p.wp P a w (fun a' w'=>S w'/\ki P Q S K r a' w') Q
def parT (P:Program)(Q:Exit->Act->World->Prop)(S:World->Prop)(K:Act->World->Prop)(o:Oper):List (Nat × Oper)->Act->World->Prop
 | [],a,w=>o.wp P a w (fun a' w'=>S w'/\K a' w') Q
 | (j,p)::r,a,w=>o.wp P a w (fun a' w'=>S w'/\ki P Q S K ((j,p)::r) a' w') Q/\p.wp P a w (fun a' w'=>S w'/\parT P Q S K o r a' w') Q
def il (P:Program)(ops:Array Oper)(Q:Exit->Act->World->Prop)(S:World->Prop)(T:Nat):List Mi->Act->World->Prop
 | [],a,w=>Q .normal a w
 | .take _ o::r,a,w=>∃v,YieldsIf P ops S o v a/\il P ops Q S T r (a.put o.dst v) w
 | .one k o::r,a,w=>if Region.wanted o (yielded ops a.tmps)then o.wp P a w (fun a' w'=>(k<T->S w')/\il P ops Q S T r a' w') Q else il P ops Q S T r (a.put o.dst undef) w
 | .par _ o js::r,a,w=>parT P Q S (fun a' w'=>il P ops Q S T r a' w') o js a w
def mixN:List Ms->Nat
 | []=>0
 | .take _::r=>mixN r+1
 | .one _::r=>mixN r+1
 | .par _ js::r=>js.length+(mixN r+1)
def bare (ops:Array Oper)(k:Nat):Bool:=match ops[k]? with|some o=>o.guard.isNone|none=>false
def z3e (L:Array Bool):List Nat->Array Bool
 | []=>L
 | j::r=>z3e (L.setIfInBounds j true) r
def z5O (ops:Array Oper):List Nat->Array Bool->Bool
 | [],_=>true
 | j::r,L=>bare ops j&&decide (Region.ready .any ops L=[j])&&z5O ops r (L.setIfInBounds j true)
def parB (ops:Array Oper)(i:Nat):List Nat->Array Bool->Bool
 | [],L=>bare ops i&&decide (Region.ready .any ops L=[i])
 | j::r,L=>bare ops i&&bare ops j&&decide (i≠j)&&decide (Region.ready .any ops L=[i,j]\/Region.ready .any ops L=[j,i])&&z5O ops (j::r) (L.setIfInBounds i true)&&parB ops i r (L.setIfInBounds j true)
def z8H (T:Nat)(r:List Ms):Bool:=r.all fun m=>match m with|.one j=>decide (T<=j)|_=>false
def mixB (ops:Array Oper)(T:Nat):List Ms->Array Bool->Bool
 | [],L=>decide (Region.ready .any ops L=[])
 | .take k::r,L=>decide (k<ops.size)&&(Region.ready .any ops L).contains k&&Region.free .any ops L k&&((List.range ops.size).all fun j=>decide (j<T)||Region.waitsFor .any ops j k)&&mixB ops T r (L.setIfInBounds k true)
 | .one k::r,L=>decide (k<ops.size)&&decide (Region.ready .any ops L=[k])&&(decide (k<T)||z8H T r)&&mixB ops T r (L.setIfInBounds k true)
 | .par i js::r,L=>decide (i<T)&&js.all (fun j=>decide (j<T))&&parB ops i js L&&mixB ops T r (z3e (L.setIfInBounds i true) js)
theorem dk {i:Nat}{o:Oper}(A:ops[i]?=some o)(c:bare ops i=true){K:Act->World->Prop}{a:Act}{w:World}(h:o.wp P a w K Q):wpOp P ops Q i K a w:=by
 unfold bare at c;rw[A]at c;simp only at c
 have D:o.guard=none:=by simpa using c
 unfold wpOp;simp only[A,Region.wanted,D,if_true];exact .inl h
theorem dH {l:List Oper}{d:Oper}{i:Nat}(c:bare l.toArray i=true):l.toArray[i]?=some (l.getD i d):=by
 unfold bare at c;cases e:l.toArray[i]? with
 | none=>rw[e]at c;cases c
 | some o=>
  have:l[i]?=some o:=by simpa using e
  simp[kN,this]
theorem z3H {l:List Oper}{d:Oper}{K:Act->World->Prop}{f:Nat}:∀(js:List Nat) (L:Array Bool) (a:Act) (w:World),(∀j∈js,j<T)->z5O l.toArray js L=true ->
  (∀A c,K A c->S c->anyS P l.toArray Q S T f (z3e L js) A c)->S w->ki P Q S K (js.map fun j=>(j,l.getD j d)) a w->anyS P l.toArray Q S T (js.length+f) L a w
 | [],L,a,w,_,_,hK,hS,h=>by rw[lH,ld];exact hK a w h hS
 | j::r,L,a,w,hT,hB,hK,hS,h=>by
  simp only[z5O,lq,decide_eq_true_eq]at hB;obtain⟨⟨I,J⟩,O⟩:=hB;rw[lr,show r.length+1+f=(r.length+f)+1 by omega]
  refine⟨fun e=>(by rw[J]at e;cases e),fun k D=>?_⟩
  rw[J]at D;have D:k=j:=by simpa using D
  subst D;refine dk (dH (d:=d) I) I (Oper.wp_mono ?_ h);rintro A c ⟨s1,M⟩;exact⟨fun _=>s1,z3H r _ A c (fun m U=>hT m (by simp[U])) O hK s1 M⟩
theorem z95 {l:List Oper}{d:Oper}{K:Act->World->Prop}{f i:Nat}(V:i<T):∀(js:List Nat) (L:Array Bool) (a:Act) (w:World),(∀j∈js,j<T)->parB l.toArray i js L=true ->
  (∀I D,K I D->S D->anyS P l.toArray Q S T f (z3e (L.setIfInBounds i true) js) I D)->S w->parT P Q S K (l.getD i d) (js.map fun j=>(j,l.getD j d)) a w->anyS P l.toArray Q S T (js.length+(f+1)) L a w
 | [],L,a,w,_,hB,hK,hS,h=>by
  simp only[parB,lq,decide_eq_true_eq]at hB;obtain⟨J,c⟩:=hB;rw[lH,ld];refine⟨fun e=>(by rw[c]at e;cases e),fun k A=>?_⟩
  rw[c]at A;have A:k=i:=by simpa using A
  subst A;refine dk (dH (d:=d) J) J (Oper.wp_mono ?_ h);rintro I D ⟨s1,M⟩;exact⟨fun _=>s1,hK I D M s1⟩
 | j::r,L,a,w,hT,hB,hK,hS,h=>by
  simp only[parB,lq,decide_eq_true_eq]at hB;obtain⟨⟨⟨⟨⟨J,b2⟩,Y⟩,c⟩,h2⟩,h3⟩:=hB;obtain⟨H1,H2⟩:=h;rw[lr,show r.length+1+(f+1)=(r.length+(f+1))+1 by omega]
  have O:∀k,k∈Region.ready .any l.toArray L->k=i\/k=j:=fun k A=>by
   rcases c with c|c
   ·rw[c]at A;simpa using A
   ·rw[c]at A;simpa[or_comm]using A
  refine⟨fun e=>(by rcases c with c|c<;>(rw[c]at e;cases e)),fun k A=>?_⟩
  rcases O k A with rfl|rfl
  ·refine dk (dH (d:=d) J) J (Oper.wp_mono ?_ H1);rintro I D ⟨s1,M⟩;refine⟨fun _=>s1,?_⟩
   have:=z3H (d:=d) (f:=f) (K:=K) (j::r) (L.setIfInBounds k true) I D hT h2 hK s1 M
   rw[lr,show r.length+1+f=r.length+(f+1) by omega]at this
   exact this
  ·refine dk (dH (d:=d) b2) b2 (Oper.wp_mono ?_ H2);rintro I D ⟨s1,M⟩;refine⟨fun _=>s1,z95 V r _ I D (fun m hm=>hT m (by simp[hm])) h3 (fun U ab k1 k2=>?_) s1 M⟩
   have:=hK U ab k1 k2
   rw[Array.setIfInBounds_comm _ _ (Ne.symm Y)];exact this
theorem j8 {l:List Oper}{d:Oper}(K:Region.noSelect l.toArray=true)(V:∀c a d v w,Q (.panic c) (Act.put a d v) w->Q (.panic c) a w):
  ∀(Y:List Ms) (L:Array Bool) (a:Act) (w:World),(S w\/z8H T Y=true)->mixB l.toArray T Y L=true ->
   il P l.toArray Q S T (Y.map (Ms.fill l d)) a w->anyS P l.toArray Q S T (mixN Y) L a w
 | [],L,a,w,_,hB,h=>by
  simp only[mixB,decide_eq_true_eq]at hB;exact⟨hB,h⟩
 | .take k::r,L,a,w,J,hB,h=>by
  simp only[mixB,lq,List.all_eq_true,Bool.or_eq_true,decide_eq_true_eq,List.mem_range]at hB;obtain⟨⟨⟨⟨A,O⟩,h2⟩,h3⟩,U⟩:=hB;have J:S w:=J.resolve_right (by simp[z8H])
  have A:l.toArray[k]?=some (l.getD k d):=by
   have A:k<l.length:=by simpa using A
   simp[kN,A]
  obtain⟨v,hy,h⟩:=h;refine kb A K (fun j hj ao=>(h3 j ao).resolve_left (by omega)) V _ L a w (Region.free_spec A h2) (by simpa using O) hy J ?_
  exact j8 K V r _ _ _ (.inl J) U h
 | .one k::r,L,a,w,J,hB,h=>by
  simp only[mixB,lq,Bool.or_eq_true,decide_eq_true_eq]at hB;obtain⟨⟨⟨A,O⟩,h2⟩,U⟩:=hB;have A:l.toArray[k]?=some (l.getD k d):=by
   have A:k<l.length:=by simpa using A
   simp[kN,A]
  refine⟨fun e=>(by rw[O]at e;cases e),fun i hi=>?_⟩
  rw[O]at hi;have ac:i=k:=by simpa using hi
  subst ac;have D:∀M I,((i<T->S I)/\il P l.toArray Q S T (r.map (Ms.fill l d)) M I)->(i<T->S I)/\anyS P l.toArray Q S T (mixN r) (L.setIfInBounds i true) M I:=fun M I h'=>
   ⟨h'.1,j8 K V r _ M I (h2.imp h'.1 id) U h'.2⟩
  unfold wpOp;simp only[A];have h:if Region.wanted (l.getD i d) (yielded l.toArray a.tmps)then (l.getD i d).wp P a w (fun M I=>(i<T->S I)/\il P l.toArray Q S T (r.map (Ms.fill l d)) M I) Q else il P l.toArray Q S T (r.map (Ms.fill l d)) (a.put (l.getD i d).dst undef) w:=h
  by_cases hw:Region.wanted (l.getD i d) (yielded l.toArray a.tmps)=true
  ·rw[if_pos hw]at h |-;exact .inl (Oper.wp_mono D h)
  ·rw[if_neg hw]at h |-;refine D _ _ ⟨fun av=>J.resolve_right (fun hl=>?_),h⟩
   simp only[z8H,List.all_cons,lq,decide_eq_true_eq]at hl;omega
 | .par i js::r,L,a,w,J,hB,h=>by
  simp only[mixB,lq,decide_eq_true_eq,List.all_eq_true]at hB;obtain⟨⟨⟨ab,an⟩,O⟩,U⟩:=hB;have J:S w:=J.resolve_right (by simp[z8H])
  exact z95 (d:=d) ab js L a w an O (fun M I k1 k2=>j8 K V r _ M I (.inl k2) U k1) J h
theorem aj {id:Nat}{a:Act}{w:World}{o:Oper}{l:List Oper}(D:List Ms)(T:Nat)(S:World->Prop)(O:P.follows .mixedOrders=true)
  (A:(Region.noSelect (o::l).toArray&&decide (mixN D=(o::l).length)&&mixB (o::l).toArray T D (Array.replicate (o::l).length false))=true)
  (I:∀c a t v w,Q (.panic c) (Act.put a (some t) v) w->Q (.panic c) a w) (M:S w.drew)
  (h:il P (o::l).toArray Q S T (D.map (Ms.fill (o::l) o)) a w.drew):(Code.region id (o::l).toArray true).wp P Q a w:=by
 have K:∀c a d v w,Q (.panic c) (Act.put a d v) w->Q (.panic c) a w:=fun c a d v w h=>by
  cases d with
  | none=>exact h
  | some t=>exact I c a t v w h
 simp only[lq,decide_eq_true_eq]at A;obtain⟨⟨J,U⟩,A⟩:=A;refine wp_region_any O ?_;have H:=j8 (P:=P) (Q:=Q) (S:=S) (T:=T) J K D (Array.replicate (o::l).length false) a w.drew (.inl M) A h;rw[U]at H;have:=j9 _ _ _ _ H
 simpa using this
theorem ax {a:Act}{w:World}(h:Q .normal a w):il P ops Q S T [] a w:=h
theorem ai {k:Nat}{o:Oper}{r:List Mi}{a:Act}{w:World}(c:Region.wanted o (yielded ops a.tmps)=true)(v:Value)(A:∀w,S w->(execOp a.eval o).run P w=.ok (.value v) w)(h:il P ops Q S T r (a.put o.dst v) w):il P ops Q S T (.take k o::r) a w:=
 ⟨v,.inl ⟨c,A⟩,h⟩
theorem bo {k:Nat}{o:Oper}{r:List Mi}{a:Act}{w:World}(c:Region.wanted o (yielded ops a.tmps)=false)(h:il P ops Q S T r (a.put o.dst undef) w):il P ops Q S T (.take k o::r) a w:=
 ⟨undef,.inr ⟨c,rfl⟩,h⟩
theorem bm {k:Nat}{o:Oper}{r:List Mi}{a:Act}{w:World}(c:Region.wanted o (yielded ops a.tmps)=false)(h:il P ops Q S T r (a.put o.dst undef) w):il P ops Q S T (.one k o::r) a w:=by
 show if _ then _ else _
 rw[if_neg (by rw[c];simp)];exact h
theorem ah {k:Nat}{o:Oper}{r:List Mi}{a:Act}{w:World}(J:Region.wanted o (yielded ops a.tmps)=true)(h:∀K:Act->World->Prop,(∀A c,(k<T->S c)->il P ops Q S T r A c->K A c)->o.wp P a w K Q):il P ops Q S T (.one k o::r) a w:=by
 show if _ then _ else _
 rw[if_pos J];exact h _ fun _ _ D I=>⟨D,I⟩
theorem z0z {i:Nat}{o:Oper}{js:List (Nat × Oper)}{r:List Mi}{a:Act}{w:World}
 (h:∀K:Act->World->Prop,(∀c A,il P ops Q S T r c A->K c A)->parT P Q S K o js a w):il P ops Q S T (.par i o js::r) a w:=h _ fun _ _ h=>h
theorem gb {K:Act->World->Prop}{o p:Oper}{j:Nat}{r:List (Nat × Oper)}{a:Act}{w:World}
  (I:∀A:Act->World->Prop,(∀D c,S c->ki P Q S K ((j,p)::r) D c->A D c)->o.wp P a w A Q) (J:∀A:Act->World->Prop,(∀D c,S c->parT P Q S K o r D c->A D c)->p.wp P a w A Q):parT P Q S K o ((j,p)::r) a w:=
 ⟨I _ fun _ _ x y=>⟨x,y⟩,J _ fun _ _ x y=>⟨x,y⟩⟩
theorem z0A {K:Act->World->Prop}{o:Oper}{a:Act}{w:World}(I:∀A:Act->World->Prop,(∀D c,S c->K D c->A D c)->o.wp P a w A Q):parT P Q S K o [] a w:=
 I _ fun _ _ x y=>⟨x,y⟩
theorem dx {K:Act->World->Prop}{p:Oper}{j:Nat}{r:List (Nat × Oper)}{a:Act}{w:World}(I:∀A:Act->World->Prop,(∀D c,S c->ki P Q S K r D c->A D c)->p.wp P a w A Q):ki P Q S K ((j,p)::r) a w:=
 I _ fun _ _ x y=>⟨x,y⟩
theorem fe {K:Act->World->Prop}{a:Act}{w:World}(h:K a w):ki P Q S K [] a w:=h
end
theorem zrm {P:Program}{Q:Exit->Act->World->Prop}{id:Nat}{a:Act}{w:World}{o:Oper}{l:List Oper}(A:List Ms)(T:Nat)(S:World->Prop)(J:S w.drew)(h:il P (o::l).toArray Q S T (A.map (Ms.fill (o::l) o)) a w.drew)(K:P.follows .mixedOrders=true:=by kernel_rfl)(D:(Region.noSelect (o::l).toArray&&decide (mixN A=(o::l).length)&&mixB (o::l).toArray T A (Array.replicate (o::l).length false))=true:=by kernel_rfl)(I:∀c a t v w,Q (.panic c) (Act.put a (some t) v) w->Q (.panic c) a w:=by exact fun _ _ _ _ _ h=>h):(Code.region id (o::l).toArray true).wp P Q a w:=aj A T S K D I J h
theorem zse {P:Program}{ops:Array Oper}{Q:Exit->Act->World->Prop}{S:World->Prop}{T k:Nat}{o:Oper}{r:List Mi}{a c:Act}{w:World}(h:il P ops Q S T r c w)(D:Region.wanted o (yielded ops a.tmps)=false:=by rfl)(A:a.put o.dst undef=c:=by ((try simp only [Act.put,List.setIfInBounds_toArray,List.set_cons_zero,List.set_cons_succ]);with_reducible rfl)):il P ops Q S T (.one k o::r) a w:=by
 subst A;exact bm D h
theorem zsa {P:Program}{ops:Array Oper}{Q:Exit->Act->World->Prop}{S:World->Prop}{T k:Nat}{o:Oper}{r:List Mi}{a c:Act}{w:World}(h:il P ops Q S T r c w)(D:Region.wanted o (yielded ops a.tmps)=false:=by rfl)(A:a.put o.dst undef=c:=by ((try simp only [Act.put,List.setIfInBounds_toArray,List.set_cons_zero,List.set_cons_succ]);with_reducible rfl)):il P ops Q S T (.take k o::r) a w:=by
 subst A;exact bo D h
theorem ztk {P:Program}{ops:Array Oper}{Q:Exit->Act->World->Prop}{S:World->Prop}{T k:Nat}{o:Oper}{r:List Mi}{a c:Act}{w:World}{v:Value}(h:il P ops Q S T r c w)(D:Region.wanted o (yielded ops a.tmps)=true:=by rfl)(J:∀w,S w->(execOp a.eval o).run P w=.ok (.value v) w:=by (intro K I;go_simp;(try with_reducible rfl)))(A:a.put o.dst v=c:=by ((try simp only [Act.put,List.setIfInBounds_toArray,List.set_cons_zero,List.set_cons_succ]);with_reducible rfl)):il P ops Q S T (.take k o::r) a w:=by
 subst A;exact ai D v J h
open Go.RowKit
def jg (xs:List Int):Bool:=((xs.take 120).drop (8+(xs.getD 2 0).toNat)).all (·==0)
def cY (a:Int)(xs:List Int):Int:=
 if a<0\/256<=a then 7 else if xs=zsec then 70 else if aE xs 124≠crc (xs.take 124)then 71 else
 if xs.getD 0 0≠76\/xs.getD 1 0=0\/120<8+xs.getD 2 0\/xs.getD 3 0≠0\/256<=aE xs 120 then 6 else
 if jg xs=false then 6 else if aE xs 120≠a then 72 else 0
def aP (xs:List Int):ByteArray:=strOfNums ((xs.take (8+(xs.getD 2 0).toNat)).drop 8)
def jf (a:Int)(xs:List Int):Array Value:=if cY a xs=0 then #[.int .i64 (xs.getD 1 0),.int .u32 (aE xs 4),.string (aP xs)]else #[Value.int .i64 0,Value.int .u32 0,Value.string ⟨#[]⟩]
def OpenPost (a:Int)(xs:List Int)(w:World)(e:Ending)(w':World):Prop:=
 Zr w w'/\e=.returned (.tuple #[.agg (jf a xs),.int .i64 (cY a xs)])
theorem OpenPost.bad {a:Int}{xs:List Int}{w w':World}{E:Int}(A:cY a xs=E)(c:E≠0)(D:Zr w w'):OpenPost a xs w (.returned (.tuple #[.agg #[Value.int .i64 0,Value.int .u32 0,Value.string ⟨#[]⟩],.int .i64 E])) w':=by
 subst A;refine⟨D,?_⟩
 unfold jf;rw[if_neg c]
theorem dR (A:Option Addr)(n c:Nat)(xs:List Int)(I:xs.length=n)(w:World)(J:Reads w A (xs.map (.int .u8))):
  (convert 113 9 (.slice A n c)).run prog w=.ok (.string (strOfNums xs)) w:=by
 rcases J with h|⟨b,off,rfl,O,K⟩
 ·have M:xs=[]:=by simpa using h
  subst M;have D:n=0:=by simpa using I.symm
  subst D;rcases A with _|a
  ·exact run_convert_bytes_nil w 113 5 underlying113 underlying5 0 c 9 underlying9
  ·rw[run_convert_bytes_string w 113 9 5 _ 0 c underlying113 underlying5 underlying9,run_bytesToString w a 0 c [] (by simp[loadCells,loadCellsFrom])]
   rfl
 ·exact run_convert_bytes_arg w 113 5 underlying113 underlying5 b off n c xs I (fun i U=>by
   have:=K i (.int .u8 (xs.getD i 0)) (by simp[kQ (show i<xs.length by omega)])
   exact this) 9 underlying9
theorem z2b {w:World}{g:Nat}{t:TypeId}{l:List Int}(h:Blk w g t (ag l))(k n:Nat):Reads w (some ⟨g,k,none⟩) (((l.take n).drop k).map (Value.int .u8)):=
 .inr ⟨g,k,rfl,h.lt,fun j u c=>by
  rw[h.cells];unfold ag;rw[List.map_drop,List.getElem?_drop,List.map_take,mh]at c;split at c
  ·simpa using c
  ·cases c⟩
theorem z2V {xs:List Int}{m:Nat}(J:xs.getD 2 0=(m:Int))(M:xs.length=128)(A:m<=112):jg xs=true↔∀p,p<112 - m->xs.getD (8+m+p) 0=0:=by
 unfold jg;rw[J,lO,List.all_eq_true];constructor
 ·intro h p D;have I:((xs.take 120).drop (8+m))[p]?=some (xs.getD (8+m+p) 0):=by
   rw[List.getElem?_drop,mh,if_pos (by omega),kN,kQ (by omega)];rfl
  have:=h _ (List.mem_of_getElem? I)
  simpa using this
 ·intro h x K;obtain⟨p,D,rfl⟩:=List.mem_iff_getElem.1 K;have c:p<112 - m:=by rw[ma,kX]at D;omega
  have:=h p c
  rw[List.getElem_drop,List.getElem_take];rw[kN,kQ (by omega)]at this
  simpa using this
theorem zas (a:Int)(xs:List Int)(U:xs.length=128)(D:bj xs)(w:World)(hH:HalfAt w):
  Calls prog 176 #[.int .i64 a,.agg (ag xs)] w (OpenPost a xs w):=by
 have b2:∀w:World,(binOp .eql 128 (.agg (ag xs)) (.agg (ag zsec))).run prog w=.ok (.bool (decide (xs=zsec))) w:=fun w=>zbs xs zsec U am w
 have hz:=cy;by_cases a1:a<0\/256<=a
 ·have hE:cY a xs=7:=by unfold cY;rw[if_pos a1]
  have HE:=kD hE;clear hE;by_cases a2:a<0
  all_goals
   go_enter func176,ntmps176
   go_wp2_with fail
   have bR:Blk (((w.alloc (.cells (ag xs) 128)).alloc (.cells #[Value.int .i64 0,Value.int .u32 0,Value.string ⟨#[]⟩] 190)).alloc (.cells #[Value.int .i64 0,Value.int .u32 0,Value.string ⟨#[]⟩] 190)) (w.heap.size+1) 190 #[Value.int .i64 0,Value.int .u32 0,Value.string ⟨#[]⟩]:=(Blk.new' (by simp)).alloc _
   obtain⟨cR,lR⟩:=bR.zc;refine bodyPost_ret (v:=.tuple #[.agg #[Value.int .i64 0,Value.int .u32 0,Value.string ⟨#[]⟩],.int .i64 7]) (by simp[results,results176,go_sem,cR,lR]) rfl ?_
   exact OpenPost.bad HE.out (by decide) (zgr)
 ·have a2:¬a<0:=by omega
  have a3:¬256<=a:=by omega
  go_enter func176,ntmps176
  go_wp2_with fail
  have bk:Blk (((w.alloc (.cells (ag xs) 128)).alloc (.cells #[Value.int .i64 0,Value.int .u32 0,Value.string ⟨#[]⟩] 190)).alloc (.cells #[Value.int .i64 0,Value.int .u32 0,Value.string ⟨#[]⟩] 190)) w.heap.size 128 (ag xs):=zbn
  refine(gR w.heap.size 4 4 rfl (by omega) xs U _ bk).mono ?_
  rintro e w1 ⟨rfl,rfl⟩;go_wp2_with fail
  refine(gR w.heap.size 120 120 rfl (by omega) xs U _ (bk.alloc _)).mono ?_
  rintro e w1 ⟨rfl,rfl⟩;go_wp2_with fail
  refine(gR w.heap.size 124 124 rfl (by omega) xs U _ ((bk.alloc _).alloc _)).mono ?_
  rintro e w1 ⟨rfl,rfl⟩;obtain⟨V,J⟩:=zex ((((((w.alloc (.cells (ag xs) 128)).alloc (.cells #[Value.int .i64 0,Value.int .u32 0,Value.string ⟨#[]⟩] 190)).alloc (.cells #[Value.int .i64 0,Value.int .u32 0,Value.string ⟨#[]⟩] 190)).alloc (.cells #[.slice (some ⟨w.heap.size,4,none⟩) 4 4] 113)).alloc (.cells #[.slice (some ⟨w.heap.size,120,none⟩) 4 4] 113)).alloc (.cells #[.slice (some ⟨w.heap.size,124,none⟩) 4 4] 113));have bS:Blk V w.heap.size 128 (ag xs):=by rw[J];exact zbn
  have bR:Blk V (w.heap.size+1) 190 #[Value.int .i64 0,Value.int .u32 0,Value.string ⟨#[]⟩]:=by rw[J];exact((((Blk.new' (by simp)).alloc _).alloc _).alloc _).alloc _
  have bN:Blk V (w.heap.size+1+1) 190 #[Value.int .i64 0,Value.int .u32 0,Value.string ⟨#[]⟩]:=by rw[J];exact zbn
  have b3:Blk V (w.heap.size+1+1+1) 113 #[.slice (some ⟨w.heap.size,4,none⟩) 4 4]:=by rw[J];exact zbn
  have b4:Blk V (w.heap.size+1+1+1+1) 113 #[.slice (some ⟨w.heap.size,120,none⟩) 4 4]:=by rw[J];exact zbn
  have b5:Blk V (w.heap.size+1+1+1+1+1) 113 #[.slice (some ⟨w.heap.size,124,none⟩) 4 4]:=by rw[J];exact zbn
  have B4:Zr w V:=by rw[J];exact zgr
  rw[<-J];clear J;have lS:=bS.lt;have l5:=b5.lt;have g0:V.cell? ⟨w.heap.size,0,none⟩=some (.int .u8 (xs.getD 0 0)):=by rw[bS.cells];exact bv (by omega)
  have g1:V.cell? ⟨w.heap.size,1,none⟩=some (.int .u8 (xs.getD 1 0)):=by rw[bS.cells];exact bv (by omega)
  have g2:V.cell? ⟨w.heap.size,2,none⟩=some (.int .u8 (xs.getD 2 0)):=by rw[bS.cells];exact bv (by omega)
  have g3:V.cell? ⟨w.heap.size,3,none⟩=some (.int .u8 (xs.getD 3 0)):=by rw[bS.cells];exact bv (by omega)
  have y2:=aZ D 2;have bn:=hH.below B4 hH.1;obtain⟨x0,br⟩:=zxe (xs.getD 0 0);obtain⟨x1,an⟩:=zxe (xs.getD 1 0);obtain⟨x2,aL⟩:=zxe (xs.getD 2 0);obtain⟨x3,bt⟩:=zxe (xs.getD 3 0);have y0:=aZ D 0;have y1:=aZ D 1;have y3:=aZ D 3;rw[br]at g0 y0;rw[an]at g1 y1;rw[aL]at g2 y2;rw[bt]at g3 y3;have bu:=kD br;have ba:=kD an;have av:=kD aL;have bw:=kD bt;clear br an aL bt;have cR:=bR.cells;have fR:=bR.free;have lR:=bR.lt;have cN:=bN.cells;by_cases ab:xs=zsec
  ·have hE:cY a xs=70:=by unfold cY;rw[if_neg a1,if_pos ab]
   have HE:=kD hE;have hd:decide (xs=zsec)=true:=decide_eq_true ab;clear hE ab;go_wp2_with (refine aY rfl _ rfl w.heap.size rfl bS U ?_)
   refine bodyPost_ret (v:=.tuple #[.agg #[Value.int .i64 0,Value.int .u32 0,Value.string ⟨#[]⟩],.int .i64 70]) (by simp[results,results176,go_sem,cR,lR]) rfl ?_
   exact OpenPost.bad HE.out (by decide) (zgr)
  ·have hd:decide (xs=zsec)=false:=decide_eq_false ab;have HZ:=kD ab;clear ab;go_wp2_with (refine aY rfl _ rfl w.heap.size rfl bS U ?_)
   by_cases O:aE xs 124=crc (xs.take 124)
   rotate_left;focus
    have bQ:(aE xs 124 != crc (xs.take 124))=true:=by simpa using O
    have c:Hid (cY a xs=71):=kD (by unfold cY;rw[if_neg a1,if_neg HZ.out,if_pos O])
    have bF:True:=trivial
   rotate_left;focus
    have bQ:(aE xs 124 != crc (xs.take 124))=false:=by simpa using O
    have c:Hid (cY a xs=if x0≠76\/x1=0\/120<8+x2\/x3≠0\/256<=aE xs 120 then 6 else if jg xs=false then 6 else if aE xs 120≠a then 72 else 0):=
     kD (by unfold cY;rw[if_neg a1,if_neg HZ.out,if_neg (by simpa using O),bu.out,ba.out,av.out,bw.out])
    have bF:True:=trivial
   all_goals clear bF O
   all_goals go_region_held3 (fun _=>True) (first|(trivial;done)|(go_keep;done))
    (first
     | (go_at_call 243;refine(iF w.heap.size (w.heap.size+1+1+1+1+1) 124 (by omega) xs U D V.drew bS.drew b5.drew).mono ?_;rintro e w' ⟨rfl,rfl⟩)
     | (go_at_call 243;refine(iF w.heap.size (w.heap.size+1+1+1+1+1) 124 (by omega) xs U D w5 A bO).mono ?_;rintro e w' ⟨rfl,rfl⟩)
     | (go_at_call 221;refine(zb1 (some ⟨w.heap.size,0,none⟩) 124 128 (xs.take 124) (by rw[kX];omega) (by omega) (iZ D _) V.drew (bn.below (kF _ _).drew bn.1) (by rw[List.map_take];exact(el bS.drew).take 124)).mono ?_;rintro e w5 ⟨rfl,M⟩;have A:=bS.drew.mD M;have bO:=b5.drew.mD M))
   all_goals
    have bc:=bR.drew.mD M;have bP:=bN.drew.mD M;have bM:=b3.drew.mD M;have bb:=b4.drew.mD M;have B5:Zr w w5:=B4.drew.trans (M.mono B4.size);have q0:w5.cell? ⟨w.heap.size,0,none⟩=some (.int .u8 x0):=by rw[A.cells,<-bu.out];exact bv (by omega)
    have q1:w5.cell? ⟨w.heap.size,1,none⟩=some (.int .u8 x1):=by rw[A.cells,<-ba.out];exact bv (by omega)
    have q3:w5.cell? ⟨w.heap.size,3,none⟩=some (.int .u8 x3):=by rw[A.cells,<-bw.out];exact bv (by omega)
    clear M cR fR lR cN g0 g1 g2 g3 B4 bn;have cR:=bc.cells;have fR:=bc.free;have lR:=bc.lt;have cN:=bP.cells;have ca:=A.lt
   ·have b8:=gH xs 120 4;by_cases I:x0≠76\/x1=0\/120<8+x2\/x3≠0\/256<=aE xs 120
    ·rw[if_pos I]at c;by_cases c4:256<=aE xs 120
     all_goals
      first|have bB:decide (256<=aE xs 120)=true:=decide_eq_true c4|have bB:decide (256<=aE xs 120)=false:=decide_eq_false c4
      have HF:=kD I;have bJ:=kD c4;clear I c4;go_wp2_with fail
      all_goals
       first
        | (
          refine bodyPost_ret (v:=.tuple #[.agg #[Value.int .i64 0,Value.int .u32 0,Value.string ⟨#[]⟩],.int .i64 6]) (by simp[results,results176,go_sem,cR,lR]) rfl ?_
          exact OpenPost.bad c.out (by decide) (zgr))
        | (
          refine(iF w.heap.size (w.heap.size+1+1+1+1) 120 (by omega) xs U D w5 A bb).mono ?_
          rintro e w' ⟨rfl,rfl⟩;go_wp2_with fail
          all_goals first
           | (
            refine bodyPost_ret (v:=.tuple #[.agg #[Value.int .i64 0,Value.int .u32 0,Value.string ⟨#[]⟩],.int .i64 6]) (by simp[results,results176,go_sem,cR,lR]) rfl ?_
            exact OpenPost.bad c.out (by decide) (zgr))
           | (exfalso;have:=HF.out;have:=bJ.out;omega))
    ·rw[if_neg I]at c;have bA:x0=76/\x1≠0/\x2<=112/\x3=0/\aE xs 120<256:=by omega
     obtain⟨rfl,an,aL,rfl,b0⟩:=bA;have b7:(x1==0)=false:=by simpa using an
     have bB:decide (256<=aE xs 120)=false:=by simpa using b0
     clear I;obtain⟨m,rfl⟩:=lz y2.1;have hm:m<=112:=by omega
     have bp:prog.arrayLen 128=128:=by kernel_rfl
     have bG:∀w:World,(sizeOf (prog.elem 128)).run prog w=.ok 1 w:=fun w=>by kernel_rfl
     have ac:∃off,(m<112->off=8+m)/\∀w0:World,(Instr.sliceAt 128 (.pointer (some ⟨w.heap.size,0,none⟩)) (some (.int .i64 (8+(m:Int)))) (some (.int .i64 120)) (some (.int .i64 120))).run prog w0=.ok (.slice (some ⟨w.heap.size,off,none⟩) (112 - m) (112 - m)) w0:=by
      refine⟨if m=112 then 0 else 8+m,fun h=>by rw[if_neg (by omega)],fun w0=>?_⟩
      rw[run_sliceAt_array_lhm w0 128 _ (by kernel_rfl) .i64 .i64 .i64 (8+(m:Int)) 120 120 (by omega) (by omega) (by omega) (by rw[bp];omega),bG]
      have h1:(8+(m:Int)).toNat=8+m:=by omega
      have h2:(120:Int).toNat=120:=rfl;simp only[Result.andThen_ok,slicedAt,h1,h2,Nat.mul_one];rw[show 120 - (8+m)=112 - m by omega]
      by_cases h:m=112
      ·rw[if_pos (by omega),if_pos h]
      ·rw[if_neg (by omega),if_neg h];simp[Addr.add]
     obtain⟨off,a7,ac⟩:=ac;have a6:=kD a7;clear a7;have b1:∀w0:World,(Instr.sliceAt 128 (.pointer (some ⟨w.heap.size,0,none⟩)) (some (.int .i64 8)) (some (.int .i64 (8+(m:Int)))) none).run prog w0=.ok (.slice (some ⟨w.heap.size,8,none⟩) m 120) w0:=fun w0=>by
      rw[run_sliceAt_array_lh w0 128 _ (by kernel_rfl) .i64 .i64 8 (8+(m:Int)) (by omega) (by omega) (by rw[bp];omega),bG]
      have h1:(8+(m:Int)).toNat=8+m:=by omega
      have h2:(8:Int).toNat=8:=rfl;simp only[Result.andThen_ok,slicedAt,h1,h2,Nat.mul_one,bp];rw[show 8+m - 8=m by omega]
      simp[Addr.add]
     have b9:IntKind.i64.wrap ((112 - m:Nat):Int)=((112 - m:Nat):Int):=by rw[kW];omega
     go_wp2_with fail
     refine(iF w.heap.size (w.heap.size+1+1+1+1) 120 (by omega) xs U D w5 A bb).mono ?_
     rintro e v1 ⟨rfl,rfl⟩;go_wp2_with fail
     go_loopw [15,79] (fun _ q wr=>∃k:Nat,k<=112 - m/\q=.int .i64 k/\(∀p,p<k->xs.getD (8+m+p) 0=0)/\wr=v1) (fun _ q _=>(112 - m) - (intOf q).toNat)
     case atStart=>exact⟨0,kP _,rfl,fun p h=>absurd h (by omega),rfl⟩
     case round=>
      obtain⟨k,hk,rfl,ao,hw⟩:=hrel;subst hw;by_cases bW:k<112 - m
      ·have ho:=a6.out (by omega)
       subst ho;have hc:wr.cell? ⟨w.heap.size,8+m+k,none⟩=some (.int .u8 (xs.getD (8+m+k) 0)):=by rw[A.cells];exact bv (by omega)
       have bq:=(z2V av.out U hm).1;by_cases hb:xs.getD (8+m+k) 0=0
       ·rw[hb]at hc;have HB:=kD hb;have bL:=kD ao;clear hb bq ao;go_wp2_with fail
        go_roundw
        case rel=>exact⟨k+1,by omega,by go_num,fun p hp=>by
         by_cases bX:p=k
         ·subst bX;exact HB.out
         ·exact bL.out p (by omega),by first|trivial|rfl⟩
        case measure=>simp[intOf];omega
       ·have bD:jg xs=false:=by
         cases hq:jg xs
         ·rfl
         ·exact absurd (bq hq k bW) hb
        rw[if_pos bD]at c;have bT:(xs.getD (8+m+k) 0 != 0)=true:=by simpa using hb
        generalize xs.getD (8+m+k) 0=y at hc bT;clear bq hb bD ao;go_wp2_with fail
        refine bodyPost_ret (v:=.tuple #[.agg #[Value.int .i64 0,Value.int .u32 0,Value.string ⟨#[]⟩],.int .i64 6]) (by simp[results,results176,go_sem,cR,lR]) rfl ?_
        exact OpenPost.bad c.out (by decide) (zgr)
      ·obtain rfl:k=112 - m:=by omega
       have a8:jg xs=true:=(z2V av.out U hm).2 ao;rw[if_neg (by rw[a8];simp)]at c
       clear ao a8;go_wp2_with fail
       refine(iF w.heap.size (w.heap.size+1+1+1+1) 120 (by omega) xs U D wr A bb).mono ?_
       rintro e v2 ⟨rfl,rfl⟩;by_cases Y:aE xs 120=a
       ·rw[if_neg (by simpa using Y)]at c
        have bU:(aE xs 120 != a)=false:=by simpa using Y
        clear Y;go_wp2_with fail
        have bC:aP xs=strOfNums ((xs.take (8+m)).drop 8):=by unfold aP;rw[av.out,lO]
        have b6:=dR (some ⟨w.heap.size,8,none⟩) m 120 ((xs.take (8+m)).drop 8) (by rw[ma,kX];omega) v2.drew (z2b A.drew 8 (8+m))
        have hwx:IntKind.i64.wrap x1=x1:=by rw[kW];omega
        have bK:=kD bC;clear bC ac a6;refine zrm [.take 0,.take 1,.take 2,.take 3,.take 5,.take 6,.take 7,.one 4,.one 8,.one 9,.one 10] 9 (fun w'=>w'=v2.drew) rfl ?_
        simp only[kR,kS,Ms.fill,kT,kV];iterate 7 (refine ai (by rfl) ?_ (fun w' bZ=>?_) ?_;rotate_left;(focus (subst bZ;go_simp;(try with_reducible rfl)));(try simp only[Act.put,kJ,kH,kI]))
        refine ah (by rfl) fun K hK=>?_
        go_simp;refine(iF w.heap.size (w.heap.size+1+1+1) 4 (by omega) xs U D v2.drew A.drew bM.drew).mono ?_
        rintro e w' ⟨rfl,rfl⟩;refine hK _ _ (fun _=>rfl) ?_
        clear hK K;refine ah (by rfl) fun K hK=>?_
        go_simp;refine hK _ _ (fun _=>rfl) ?_
        clear hK K;refine ah (by rfl) fun K hK=>?_
        go_simp;refine hK _ _ (fun h=>absurd h (by omega)) ?_
        clear hK K;refine ah (by rfl) fun K hK=>?_
        go_simp;refine hK _ _ (fun h=>absurd h (by omega)) ?_
        clear hK K;refine ax ?_
        all_goals
         go_wp2_with fail
         refine bodyPost_ret (v:=.tuple #[.agg #[.int .i64 x1,.int .u32 (aE xs 4),.string (strOfNums ((xs.take (8+m)).drop 8))],.int .i64 0]) (by simp[results,results176,go_sem,cR,lR]) rfl ?_
         refine⟨zgr,?_⟩
         unfold jf;rw[c.out,if_pos rfl,ba.out,bK.out]
       ·rw[if_pos Y]at c;have bU:(aE xs 120 != a)=true:=by simpa using Y
        clear Y;go_wp2_with fail
        refine bodyPost_ret (v:=.tuple #[.agg #[Value.int .i64 0,Value.int .u32 0,Value.string ⟨#[]⟩],.int .i64 72]) (by simp[results,results176,go_sem,cR,lR]) rfl ?_
        exact OpenPost.bad c.out (by decide) (zgr)
   ·go_wp2_with fail
    refine bodyPost_ret (v:=.tuple #[.agg #[Value.int .i64 0,Value.int .u32 0,Value.string ⟨#[]⟩],.int .i64 71]) (by simp[results,results176,go_sem,cR,lR]) rfl ?_
    exact OpenPost.bad c.out (by decide) (zgr)
open Go.Maps
def ko (off:Bool)(n:Nat)(a:Int)(xs:List Int):Int:=if atE off n a=0 then cY a xs else atE off n a
def getV (off:Bool)(n:Nat)(a:Int)(xs:List Int):Array Value:=if atE off n a=0 then jf a xs else #[Value.int .i64 0,Value.int .u32 0,Value.string ⟨#[]⟩]
theorem z7a (a:Int)(xs:List Int):∃k q s,jf a xs=#[.int .i64 k,.int .u32 q,.string s]:=by
 unfold jf;split
 ·exact⟨_,_,_,rfl⟩
 ·exact⟨_,_,_,rfl⟩
theorem z8B (D S n c g L cc:Nat)(A:Option Addr)(tk pw:Int)(off:Bool)(M q:Nat)(O:List Int)(a:Int)(xs:List Int)(hL:O.length=L)(hA:0<L->A=some ⟨g,0,none⟩)(hn:n<=1000)(aL:L<=1000)(a1:bj xs)(w:World)(hH:HalfAt w)
  (bD:Blk w D 133 (fu S n c (.slice A L cc) tk pw off M)) (hM:w.ownsMap prog 3 (plainElem prog 3) M q (dr O L)) (hS:atE off n a=0->SecAt w (gd S O g a.toNat) xs/\(gd S O g a.toNat).block<w.heap.size):
  Calls prog 98 #[.pointer (some ⟨D,0,none⟩),.int .i64 a] w fun e w'=>Zr w w'/\e=.returned (.tuple #[.agg (getV off n a xs),.int .i64 (ko off n a xs)]):=by
 have hz:=cy;have V:=zaC D S n c g L cc A tk pw off M q O a xs hL hA hn aL (w.alloc (.cells #[Value.int .i64 0,Value.int .u32 0,Value.string ⟨#[]⟩] 190)) (bD.alloc _) (hM.alloc _) (fun K=>by
  obtain⟨h1,h2⟩:=hS K;exact⟨⟨h1.1,h1.2.1,fun j hj=>by rw[<-h1.2.2 j hj];exact World.cell?_of_block (Below.heap_alloc w _ _ h2)⟩,by simp;omega⟩)
 unfold ko getV;by_cases K:atE off n a=0
 ·have an:=(hS K).1.1;rw[K]at V;rw[if_pos K,if_pos K];rw[if_pos rfl]at V;clear K bD hM hS;go_enter func98,ntmps98
  go_wp2_with fail
  refine V.mono ?_;rintro e I ⟨J,rfl⟩;have Y:Blk I w.heap.size 190 #[Value.int .i64 0,Value.int .u32 0,Value.string ⟨#[]⟩]:=Blk.mD zbn J
  have B1:=dq J;have lF:=Y.lt;have bZ:Blk (I.alloc (.cells (ag zsec) 128)) I.heap.size 128 (ag zsec):=Blk.new _ _ _;have bX:Blk ((I.alloc (.cells (ag zsec) 128)).setRow I.heap.size (ag xs)) I.heap.size 128 (ag xs):=bZ.setRow;have U:Blk ((I.alloc (.cells (ag zsec) 128)).setRow I.heap.size (ag xs)) w.heap.size 190 #[Value.int .i64 0,Value.int .u32 0,Value.string ⟨#[]⟩]:=(Y.alloc _).mO (by omega)
  have B2:Zr w ((I.alloc (.cells (ag zsec) 128)).setRow I.heap.size (ag xs)):=Below.setRow (B1.alloc B1.size _) B1.size _;clear J Y B1;go_wp2_with (first
   | (refine aA rfl _ _ rfl I.heap.size xs rfl rfl bZ am an ?_)
   | (refine aY rfl _ rfl I.heap.size rfl bX an ?_))
  refine(zas a xs an a1 _ (hH.below B2 hH.1)).mono ?_;rintro e w2 ⟨ao,rfl⟩;have ab:=U.mD ao;have B3:=B2.trans (ao.mono B2.size);have cF:=ab.cells;have fF:=ab.free;have a2:=ab.lt;obtain⟨fk,fq,fs,ac⟩:=z7a a xs;rw[ac];have av:=kD ac;clear ac;go_wp2_with fail
  refine bodyPost_ret (v:=.tuple #[.agg #[.int .i64 fk,.int .u32 fq,.string fs],.int .i64 (cY a xs)]) (by simp[results,results98,go_sem,cF,a2]) rfl ?_
  exact⟨zgr,by rw[av.out]⟩
 ·rw[if_neg K,if_neg K];generalize atE off n a=E at *;rw[if_neg K]at V;have a6:(E != 0)=true:=by simpa using K
  clear K hS hM bD;go_enter func98,ntmps98
  go_wp2_with fail
  refine V.mono ?_;rintro e I ⟨J,rfl⟩;have Y:Blk I w.heap.size 190 #[Value.int .i64 0,Value.int .u32 0,Value.string ⟨#[]⟩]:=Blk.mD zbn J
  have B1:=dq J;have cF:=Y.cells;have fF:=Y.free;have lF:=Y.lt;clear J;have bZ:Blk (I.alloc (.cells (ag zsec) 128)) I.heap.size 128 (ag zsec):=Blk.new _ _ _;have U:Blk ((I.alloc (.cells (ag zsec) 128)).setRow I.heap.size (ag zsec)) w.heap.size 190 #[Value.int .i64 0,Value.int .u32 0,Value.string ⟨#[]⟩]:=(Y.alloc _).mO (by omega)
  have B2:Zr w ((I.alloc (.cells (ag zsec) 128)).setRow I.heap.size (ag zsec)):=Below.setRow (B1.alloc B1.size _) B1.size _;clear cF fF lF Y;have cF:=U.cells;have fF:=U.free;have lF:=U.lt;go_wp2_with (refine aA rfl _ _ rfl I.heap.size zsec rfl rfl bZ am am ?_)
  refine bodyPost_ret (v:=.tuple #[.agg #[Value.int .i64 0,Value.int .u32 0,Value.string ⟨#[]⟩],.int .i64 E]) (by simp[results,results98,go_sem,cF,lF]) rfl ?_
  exact⟨zgr,rfl⟩
theorem z5v (D S n c:Nat)(cv:Value)(K J:Int)(off:Bool)(M:Nat)(w:World)(A:Blk w D 133 (fu S n c cv K J off M)):
  Calls prog 113 #[.pointer (some ⟨D,0,none⟩)] w fun e O=>e=.returned (.int .i64 n)/\O=w:=by
 have I:=z0U D S n c cv K J off M w A;unfold fu at A;have U:=A.cells;go_enter func113,ntmps113
 go_wp2_with fail
 refine I.mono ?_;rintro e V ⟨rfl,rfl⟩;go_wp2_with fail
 go_ret
 exact⟨rfl,rfl⟩
end Go.Proofs.YtejmknghkbobnaaGreatDoor
