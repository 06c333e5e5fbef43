import Derived.Test.YtejmknghkbobnaaGreatDoorPart00
import Derived.Test.YtejmknghkbobnaaGreatDoorPart03
import Derived.ChangeKeysEq
import Derived.StillTailTactics
import Derived.OrdersHeld
set_option linter.unusedVariables false
set_option linter.unusedSimpArgs false
set_option maxRecDepth 100000
set_option maxHeartbeats 8000000
namespace Go.Proofs.YtejmknghkbobnaaGreatDoor
open Go.Proofs.Tryz
open Go.RowKit
theorem zdu (l:List Int)(i:Nat)(h:i<l.length)(w:World):(part 5 (z03 l) i).run prog w=.ok (.int .u8 (l.getD i 0)) w:=by
 have hi:=z0J h;unfold part;simp[hi]
theorem eqU8 (d:Nat)(a b:Int)(w:World):(Op.equalIn (d+1) 5 (.int .u8 a) (.int .u8 b)).run prog w=.ok (a==b) w:=by
 simp[Op.equalIn,run_underlying underlying5]
theorem z4S (d:Nat)(xs ys:List Int)(w:World):∀is:List Nat,(∀i∈is,i<xs.length∧i<ys.length) →
  (Op.eqItems (d+1) 5 1 (z03 xs) (z03 ys) is).run prog w=.ok (is.all fun i=>xs.getD i 0==ys.getD i 0) w
 | [],_=>by simp[Op.eqItems]
 | i::is,h=>by
  have h1:=h i (by simp)
  have ih:=z4S d xs ys w is (fun j hj=>h j (by simp[hj]))
  simp only[Op.eqItems,Nat.mul_one,Sem.run_bind,zdu xs i h1.1,zdu ys i h1.2,Result.andThen_ok,eqU8,List.all_cons];cases hq:(xs.getD i 0==ys.getD i 0)
  ·simp
  ·simpa using ih
theorem z5g {xs ys:List Int}(hl:xs.length=ys.length):((List.range xs.length).all fun i=>xs.getD i 0==ys.getD i 0)=decide (xs=ys):=by
 by_cases h:xs=ys
 ·subst h;simp
 ·rw[decide_eq_false h];rw[List.all_eq_false];refine Classical.byContradiction fun hn=>h ?_
  apply List.ext_getElem hl
  intro i h1 h2;have:=fun hh=>hn ⟨i,by simpa using h1,hh⟩
  simp[zhw,h1,h2]at this
  exact this
theorem zfh (xs ys:List Int)(hx:xs.length=128)(hy:ys.length=128)(w:World):
  (binOp .eql 128 (.agg (z03 xs)) (.agg (z03 ys))).run prog w=.ok (.bool (decide (xs=ys))) w:=by
 have hi:∃i,prog.info? 5=some i:=by
  obtain⟨i,h,_⟩:=info_parts (show (prog.info? 5).map (fun i=>(i.zero,i.size,i.bytes))=some (some (.int .u8 0),1,1) by kernel_rfl)
  exact⟨i,h⟩
 obtain⟨i,hi⟩:=hi;have hc:prog.cellsOf 5=1:=by kernel_rfl
 rw[run_eql_struct,run_equalIn_array w 9999 (z03 xs) (z03 ys) underlying128 hi,hc,z4S 9998 xs ys w (List.range 128) (fun j hj=>by have:=List.mem_range.1 hj;omega)]
 rw[←hx,z5g (by omega)]
 rfl
open Go
section
variable {P:Program}{ops:Array Oper}{Q:Exit→Act→World→Prop}{S:World→Prop}{T:Nat}
def anyT (P:Program)(ops:Array Oper)(Q:Exit→Act→World→Prop)(S:World→Prop)(T:Nat):Nat→Array Bool→Act→World→Prop
 | 0,L,a,w=>Region.ready .any ops L=[]∧Q .normal a w
 | f+1,L,a,w=>(Region.ready .any ops L=[]→Q .normal a w) ∧
  ∀i∈Region.ready .any ops L,wpOp P ops Q i (fun a' w'=>(i≠T→S w')∧anyT P ops Q S T f (L.setIfInBounds i true) a' w') a w
theorem zab (f:Nat):∀(L:Array Bool) (a:Act) (w:World),anyT P ops Q S T f L a w→wpAny P .any ops Q f L a w:=by
 induction f with
 | zero=>exact fun _ _ _ h=>h
 | succ f ih=>exact fun L a w h=>⟨h.1,fun i hi=>wpOp_mono (fun a' w' h'=>ih _ a' w' h'.2) (h.2 i hi)⟩
theorem zda {i:Nat}{o:Oper}{v:Value}(ho:ops[i]?=some o)(hns:Region.noSelect ops=true)(hT:Region.waitsFor .any ops T i=true)
  (hQ:∀c a d v w,Q (.panic c) (Act.put a d v) w→Q (.panic c) a w) (f:Nat):
  ∀(L:Array Bool) (a:Act) (w:World),(∀j p,ops[j]?=some p→j≠i→L.getD j true=false→(∀e∈p.after,Region.binds .any e=true→e.on≠i)→o.apart ops p=true) →
   i∈Region.ready .any ops L→YieldsIf P ops S o v a→S w→anyT P ops Q S T f (L.setIfInBounds i true) (a.put o.dst v) w→anyT P ops Q S T (f+1) L a w:=by
 have hsel:=Region.noSelect_spec hns;induction f with
 | zero=>
  intro L a w _ hr hy hS H;refine⟨fun h0=>(by rw[h0]at hr;cases hr),fun j hj=>?_⟩
  by_cases e:j=i
  ·subst e;exact hy.wpOp ho hS ⟨fun _=>hS,H⟩
  ·have:=ready_mono hj e;rw[H.1]at this;cases this
 | succ f ih=>
  intro L a w hfr hr hy hS H;refine⟨fun h0=>(by rw[h0]at hr;cases hr),fun j hj=>?_⟩
  by_cases e:j=i
  ·subst e;exact hy.wpOp ho hS ⟨fun _=>hS,H⟩
  ·have hi0:=getD_both (mem_ready.1 hr).1;obtain⟨hj0,p,hp,hall⟩:=mem_ready.1 hj;have hnw:∀x∈p.after,Region.binds .any x=true→x.on≠i:=fun x hx hb hxi=>by
    have:=hall x hx hb
    rw[hxi,hi0]at this;cases this
   have hjT:j≠T:=fun hjT=>by
    obtain⟨q,hq,x,hx,hb,hon⟩:=Region.waitsFor_spec hT;rw[hjT]at hp;rw[hp]at hq;cases hq;exact hnw x hx hb hon
   have hstep:=wpOp_putIf hp (hfr j p hp e hj0 hnw) (fun cs b=>hsel i o cs b ho) (fun cs b=>hsel j p cs b hp) (fun c a w=>hQ c a o.dst v w) hy (H.2 j (ready_mono hj e))
   refine wpOp_mono (fun a' w' h'=>⟨h'.2.1,?_⟩) hstep
   refine ih (L.setIfInBounds j true) a' w' (fun k q hk hki hk0 hkn=>hfr k q hk hki ?_ hkn) (ready_mono hr (Ne.symm e)) h'.1 (h'.2.1 hjT) ?_
   ·by_cases ejk:j=k
    ·subst ejk;exact hj0
    ·rwa [getD_set_ne true ejk]at hk0
   ·rw[Array.setIfInBounds_comm _ _ e];exact h'.2.2
def z6Y (P:Program)(ops:Array Oper)(S:World→Prop)(K:Act→Prop):List Oper→Act→Prop
 | [],a=>K a
 | o::r,a=>∃v,YieldsIf P ops S o v a∧z6Y P ops S K r (a.put o.dst v)
def z4n (P:Program)(ops:Array Oper)(Q:Exit→Act→World→Prop)(S:World→Prop):List Oper→Act→World→Prop
 | [],a,w=>Q .normal a w
 | o::r,a,w=>if Region.wanted o (yielded ops a.tmps)then o.wp P a w (fun a' w'=>(r≠[]→S w')∧z4n P ops Q S r a' w') Q else (r≠[]→S w)∧z4n P ops Q S r (a.put o.dst undef) w
def lexT (ops:Array Oper)(T g:Nat):Nat→Nat→Array Bool→Bool
 | 0,k,L=>Region.seqB .any ops g k L
 | f+1,k,L=>(Region.ready .any ops L).contains k&&Region.free .any ops L k&&Region.waitsFor .any ops T k&&lexT ops T g f (k+1) (L.setIfInBounds k true)
theorem zaE:∀(l:List Oper) (k:Nat) (L:Array Bool) (a:Act) (w:World),(∀j,l[j]?=ops[k+j]?)→Region.seqB .any ops l.length k L=true→k+l.length=T+1→z4n P ops Q S l a w→anyT P ops Q S T l.length L a w
 | [],k,L,a,w,_,hB,_,h=>⟨by simpa[Region.seqB]using hB,h⟩
 | o::r,k,L,a,w,hl,hB,hk,h=>by
  have h0:ops[k]?=some o:=by simpa using (hl 0).symm
  simp only[zhO,Region.seqB,Bool.and_eq_true,decide_eq_true_eq]at hB;refine⟨fun h1=>(by rw[hB.1]at h1;cases h1),fun i hi=>?_⟩
  rw[hB.1]at hi;have hik:i=k:=by simpa using hi
  subst hik;have hrest:∀a' w',((r≠[]→S w')∧z4n P ops Q S r a' w')→(i≠T→S w')∧anyT P ops Q S T r.length (L.setIfInBounds i true) a' w':=fun a' w' h'=>
   ⟨fun hne=>h'.1 (fun e=>by subst e;simp at hk;exact hne hk),zaE r (i+1) _ a' w' (fun j=>by have:=hl (j+1);simpa[Nat.add_assoc,Nat.add_comm 1 j]using this) hB.2 (by simp at hk;omega) h'.2⟩
  unfold wpOp;simp only[h0];unfold z4n at h;by_cases hw:Region.wanted o (yielded ops a.tmps)=true
  ·rw[if_pos hw]at h ⊢;exact .inl (Oper.wp_mono hrest h)
  ·rw[if_neg hw]at h ⊢;exact hrest _ _ h
theorem zaU {g:Nat}{w:World}{K:Act→Prop}(hns:Region.noSelect ops=true)(hQ:∀c a d v w,Q (.panic c) (Act.put a d v) w→Q (.panic c) a w)(hS:S w):
  ∀(l:List Oper) (k:Nat) (L:Array Bool) (a:Act),(∀j,j<l.length→l[j]?=ops[k+j]?)→lexT ops T g l.length k L=true →
   (∀L' a',Region.seqB .any ops g (k+l.length) L'=true→K a'→anyT P ops Q S T g L' a' w)→z6Y P ops S K l a→anyT P ops Q S T (l.length+g) L a w
 | [],k,L,a,_,hB,hK,h=>by
  rw[zhP,zi8];exact hK L a hB h
 | o::r,k,L,a,hl,hB,hK,h=>by
  have h0:ops[k]?=some o:=by simpa using (hl 0 (by simp)).symm
  simp only[zhO,lexT,Bool.and_eq_true]at hB;obtain⟨⟨⟨h1,h2⟩,h3⟩,h4⟩:=hB;obtain⟨v,hy,h⟩:=h;rw[zhO,show r.length+1+g=(r.length+g)+1 by omega]
  refine zda h0 hns h3 hQ _ L a w (Region.free_spec h0 h2) (by simpa using h1) hy hS ?_
  exact zaU hns hQ hS r (k+1) _ _ (fun j hj=>by have:=hl (j+1) (by simp;omega);simpa[Nat.add_assoc,Nat.add_comm 1 j]using this) h4
   (fun L' a' hs hk=>hK L' a' (by rw[zhO,show k+(r.length+1)=k+1+r.length by omega];exact hs) hk) h
theorem z6e {id:Nat}{a:Act}{w:World}{l:List Oper}(n:Nat)(S:World→Prop)(hm:P.follows .mixedOrders=true)
  (hB:(Region.noSelect l.toArray&&decide (n<l.length)&&lexT l.toArray (l.length - 1) (l.length - n) n 0 (Array.replicate l.length false))=true)
  (hQ1:∀c a t v w,Q (.panic c) (Act.put a (some t) v) w→Q (.panic c) a w) (hS:S w.drew)
  (h:z6Y P l.toArray S (fun a'=>z4n P l.toArray Q S (l.drop n) a' w.drew) (l.take n) a):(Code.region id l.toArray true).wp P Q a w:=by
 have hQ:∀c a d v w,Q (.panic c) (Act.put a d v) w→Q (.panic c) a w:=fun c a d v w h=>by
  cases d with
  | none=>exact h
  | some t=>exact hQ1 c a t v w h
 simp only[Bool.and_eq_true,decide_eq_true_eq]at hB;obtain⟨⟨hns,hn⟩,hB⟩:=hB;have htl:(l.take n).length=n:=by simp;omega
 have hdl:(l.drop n).length=l.length - n:=by simp
 refine wp_region_any hm ?_;have H:=zaU (P:=P) (Q:=Q) (S:=S) (T:=l.length - 1) (g:=l.length - n) (w:=w.drew) hns hQ hS (l.take n) 0 (Array.replicate l.length false) a
  (fun j hj=>by rw[htl]at hj;simp[hj]) (by rw[htl];exact hB)
  (fun L' a' hs hk=>by
   have:=zaE (P:=P) (Q:=Q) (S:=S) (T:=l.length - 1) (l.drop n) n L' a' w.drew (fun j=>by simp[List.getElem?_drop]) (by rw[hdl];rwa [htl,zi8]at hs) (by rw[hdl];omega) hk
   rwa [hdl]at this) h
 rw[htl,show n+(l.length - n)=l.length by omega]at H
 have:=zab _ _ _ _ H
 simpa using this
theorem zd4 {K:Act→Prop}{a:Act}(h:K a):z6Y P ops S K [] a:=h
theorem z4H {K:Act→Prop}{o:Oper}{r:List Oper}{a:Act}(hgd:o.guard=none)(v:Value)(hy:∀w,S w→(execOp a.eval o).run P w=.ok (.value v) w)(h:z6Y P ops S K r (a.put o.dst v)):z6Y P ops S K (o::r) a:=
 ⟨v,.inl ⟨by simp only[Region.wanted,hgd],hy⟩,h⟩
theorem zc5 {K:Act→Prop}{o:Oper}{r:List Oper}{a:Act}(hgd:o.guard=none)(ty:TypeId)(x:Operand)(ho:o.op=.load ty x)(v p:Value)(hx:a.eval x=p)
  (hy:∀w,S w→(Instr.loadAt ty p).run P w=.ok v w) (h:z6Y P ops S K r (a.put o.dst v)):z6Y P ops S K (o::r) a:=
 z4H hgd v (fun w hw=>by unfold execOp;simp only[ho,hx,Sem.run_bind,Sem.run_pure,Result.andThen_ok,hy w hw]) h
theorem zap {K:Act→Prop}{o:Oper}{r:List Oper}{a:Act}(hgd:o.guard=none)(t:TypeId)(parts:Array (Nat × Operand))(ho:o.op=.build t parts)(vs:List (Nat × Value))(hvs:parts.toList.map (fun p=>(p.1,a.eval p.2))=vs)(v:Value)
  (hy:∀w,(Instr.build t vs.toArray).run P w=.ok v w) (h:z6Y P ops S K r (a.put o.dst v)):z6Y P ops S K (o::r) a:=
 z4H hgd v (fun w _=>by
  have e:(parts.map fun (i,x)=>(i,a.eval x))=vs.toArray:=by rw[←hvs];apply Array.toList_inj.1;simp
  unfold execOp;simp only[ho,e,Sem.run_bind,hy w,Result.andThen_ok,Sem.run_pure]) h
theorem z7k {o:Oper}{r:List Oper}{a:Act}{w:World}(h:∀K:Act→World→Prop,(∀a' w',(r≠[]→S w')→z4n P ops Q S r a' w'→K a' w')→if Region.wanted o (yielded ops a.tmps)then o.wp P a w K Q else K (a.put o.dst undef) w):z4n P ops Q S (o::r) a w:=
 h _ fun _ _ h1 h2=>⟨h1,h2⟩
theorem z9i {o:Oper}{r:List Oper}{a:Act}{w w':World}(hgd:o.guard=none)(v:Value)(hrun:(execOp a.eval o).run P w=.ok (.value v) w')(hS:r≠[]→S w')(h:z4n P ops Q S r (a.put o.dst v) w'):z4n P ops Q S (o::r) a w:=by
 refine z7k fun K hK=>?_
 simp only[Region.wanted,hgd,if_true];unfold Oper.wp;rw[hrun];exact hK _ _ hS h
theorem za6 {o:Oper}{r:List Oper}{a:Act}{w w':World}(hgd:o.guard=none)(t:TypeId)(n:Nat)(parts:Array (Nat × Operand))(ho:o.op=.buildSlice t n parts)(vs:List (Nat × Value))(hvs:parts.toList.map (fun p=>(p.1,a.eval p.2))=vs)(v:Value)
  (hrun:(Instr.buildSlice t n vs.toArray).run P w=.ok v w') (hS:r≠[]→S w') (h:z4n P ops Q S r (a.put o.dst v) w'):z4n P ops Q S (o::r) a w:=by
 have e:(parts.map fun (i,x)=>(i,a.eval x))=vs.toArray:=by rw[←hvs];apply Array.toList_inj.1;simp
 exact z9i hgd v (by unfold execOp;simp only[ho,e,Sem.run_bind,hrun,Result.andThen_ok,Sem.run_pure]) hS h
theorem z8R {o:Oper}{r:List Oper}{a:Act}{w w':World}(hgd:o.guard=none)(s x:Operand)(t:TypeId)(ho:o.op=.call { callee:=.builtin .append,args:=#[s,x],argTypes:=#[t,t] })(p q v:Value)(hs:a.eval s=p)(hx:a.eval x=q)
  (hrun:(Builtin.append_ #[t,t] o.type #[p,q]).run P w=.ok v w') (hS:r≠[]→S w') (h:z4n P ops Q S r (a.put o.dst v) w'):z4n P ops Q S (o::r) a w:=
 z9i hgd v (by unfold execOp;simp only[ho,resolve,invoke,builtin,Sem.run_bind,Sem.run_pure,Result.andThen_ok,List.map_toArray,zhY,zhZ,hs,hx,hrun]) hS h
end
section
variable {P:Program}{ops:Array Oper}{Q:Exit→Act→World→Prop}{S:World→Prop}{T:Nat}
def anyS (P:Program)(ops:Array Oper)(Q:Exit→Act→World→Prop)(S:World→Prop)(T:Nat):Nat→Array Bool→Act→World→Prop
 | 0,L,a,w=>Region.ready .any ops L=[]∧Q .normal a w
 | f+1,L,a,w=>(Region.ready .any ops L=[]→Q .normal a w) ∧
  ∀i∈Region.ready .any ops L,wpOp P ops Q i (fun a' w'=>(i<T→S w')∧anyS P ops Q S T f (L.setIfInBounds i true) a' w') a w
theorem z6T (f:Nat):∀(L:Array Bool) (a:Act) (w:World),anyS P ops Q S T f L a w→wpAny P .any ops Q f L a w:=by
 induction f with
 | zero=>exact fun _ _ _ h=>h
 | succ f ih=>exact fun L a w h=>⟨h.1,fun i hi=>wpOp_mono (fun a' w' h'=>ih _ a' w' h'.2) (h.2 i hi)⟩
theorem z7g {i:Nat}{o:Oper}{v:Value}(ho:ops[i]?=some o)(hns:Region.noSelect ops=true)(hT:∀j,T≤j→j<ops.size→Region.waitsFor .any ops j i=true)
  (hQ:∀c a d v w,Q (.panic c) (Act.put a d v) w→Q (.panic c) a w) (f:Nat):
  ∀(L:Array Bool) (a:Act) (w:World),(∀j p,ops[j]?=some p→j≠i→L.getD j true=false→(∀e∈p.after,Region.binds .any e=true→e.on≠i)→o.apart ops p=true) →
   i∈Region.ready .any ops L→YieldsIf P ops S o v a→S w→anyS P ops Q S T f (L.setIfInBounds i true) (a.put o.dst v) w→anyS P ops Q S T (f+1) L a w:=by
 have hsel:=Region.noSelect_spec hns;induction f with
 | zero=>
  intro L a w _ hr hy hS H;refine⟨fun h0=>(by rw[h0]at hr;cases hr),fun j hj=>?_⟩
  by_cases e:j=i
  ·subst e;exact hy.wpOp ho hS ⟨fun _=>hS,H⟩
  ·have:=ready_mono hj e;rw[H.1]at this;cases this
 | succ f ih=>
  intro L a w hfr hr hy hS H;refine⟨fun h0=>(by rw[h0]at hr;cases hr),fun j hj=>?_⟩
  by_cases e:j=i
  ·subst e;exact hy.wpOp ho hS ⟨fun _=>hS,H⟩
  ·have hi0:=getD_both (mem_ready.1 hr).1;obtain⟨hj0,p,hp,hall⟩:=mem_ready.1 hj;have hnw:∀x∈p.after,Region.binds .any x=true→x.on≠i:=fun x hx hb hxi=>by
    have:=hall x hx hb
    rw[hxi,hi0]at this;cases this
   have hjT:j<T:=by
    rcases Nat.lt_or_ge j T with h|h
    ·exact h
    ·exfalso
     have hjs:=(zhW.1 hp).1;obtain⟨q,hq,x,hx,hb,hon⟩:=Region.waitsFor_spec (hT j h hjs);rw[hp]at hq;cases hq;exact hnw x hx hb hon
   have hstep:=wpOp_putIf hp (hfr j p hp e hj0 hnw) (fun cs b=>hsel i o cs b ho) (fun cs b=>hsel j p cs b hp) (fun c a w=>hQ c a o.dst v w) hy (H.2 j (ready_mono hj e))
   refine wpOp_mono (fun a' w' h'=>⟨h'.2.1,?_⟩) hstep
   refine ih (L.setIfInBounds j true) a' w' (fun k q hk hki hk0 hkn=>hfr k q hk hki ?_ hkn) (ready_mono hr (Ne.symm e)) h'.1 (h'.2.1 hjT) ?_
   ·by_cases ejk:j=k
    ·subst ejk;exact hj0
    ·rwa [getD_set_ne true ejk]at hk0
   ·rw[Array.setIfInBounds_comm _ _ e];exact h'.2.2
inductive Mi where
 | take (k:Nat) (o:Oper)
 | one (k:Nat) (o:Oper)
 | par (i:Nat) (o:Oper) (js:List (Nat × Oper))
inductive Ms where
 | take (k:Nat)
 | one (k:Nat)
 | par (i:Nat) (js:List Nat)
def Ms.fill (l:List Oper)(d:Oper):Ms→Mi
 | .take k=>.take k (l.getD k d)
 | .one k=>.one k (l.getD k d)
 | .par i js=>.par i (l.getD i d) (js.map fun j=>(j,l.getD j d))
def z64 (P:Program)(Q:Exit→Act→World→Prop)(S:World→Prop)(K:Act→World→Prop):List (Nat × Oper)→Act→World→Prop
 | [],a,w=>K a w
 | (_,p)::r,a,w=>p.wp P a w (fun a' w'=>S w'∧z64 P Q S K r a' w') Q
def parT (P:Program)(Q:Exit→Act→World→Prop)(S:World→Prop)(K:Act→World→Prop)(o:Oper):List (Nat × Oper)→Act→World→Prop
 | [],a,w=>o.wp P a w (fun a' w'=>S w'∧K a' w') Q
 | (j,p)::r,a,w=>o.wp P a w (fun a' w'=>S w'∧z64 P Q S K ((j,p)::r) a' w') Q∧p.wp P a w (fun a' w'=>S w'∧parT P Q S K o r a' w') Q
def mixT (P:Program)(ops:Array Oper)(Q:Exit→Act→World→Prop)(S:World→Prop)(T:Nat):List Mi→Act→World→Prop
 | [],a,w=>Q .normal a w
 | .take _ o::r,a,w=>∃v,YieldsIf P ops S o v a∧mixT P ops Q S T r (a.put o.dst v) w
 | .one k o::r,a,w=>if Region.wanted o (yielded ops a.tmps)then o.wp P a w (fun a' w'=>(k<T→S w')∧mixT P ops Q S T r a' w') Q else mixT P ops Q S T r (a.put o.dst undef) w
 | .par _ o js::r,a,w=>parT P Q S (fun a' w'=>mixT P ops Q S T r a' w') o js a w
def mixN:List Ms→Nat
 | []=>0
 | .take _::r=>mixN r+1
 | .one _::r=>mixN r+1
 | .par _ js::r=>js.length+(mixN r+1)
def bare (ops:Array Oper)(k:Nat):Bool:=match ops[k]? with|some o=>o.guard.isNone|none=>false
def z7J (L:Array Bool):List Nat→Array Bool
 | []=>L
 | j::r=>z7J (L.setIfInBounds j true) r
def zb7 (ops:Array Oper):List Nat→Array Bool→Bool
 | [],_=>true
 | j::r,L=>bare ops j&&decide (Region.ready .any ops L=[j])&&zb7 ops r (L.setIfInBounds j true)
def parB (ops:Array Oper)(i:Nat):List Nat→Array Bool→Bool
 | [],L=>bare ops i&&decide (Region.ready .any ops L=[i])
 | j::r,L=>bare ops i&&bare ops j&&decide (i≠j)&&decide (Region.ready .any ops L=[i,j]∨Region.ready .any ops L=[j,i])&&zb7 ops (j::r) (L.setIfInBounds i true)&&parB ops i r (L.setIfInBounds j true)
def zdQ (T:Nat)(r:List Ms):Bool:=r.all fun m=>match m with|.one j=>decide (T≤j)|_=>false
def mixB (ops:Array Oper)(T:Nat):List Ms→Array Bool→Bool
 | [],L=>decide (Region.ready .any ops L=[])
 | .take k::r,L=>decide (k<ops.size)&&(Region.ready .any ops L).contains k&&Region.free .any ops L k&&((List.range ops.size).all fun j=>decide (j<T)||Region.waitsFor .any ops j k)&&mixB ops T r (L.setIfInBounds k true)
 | .one k::r,L=>decide (k<ops.size)&&decide (Region.ready .any ops L=[k])&&(decide (k<T)||zdQ T r)&&mixB ops T r (L.setIfInBounds k true)
 | .par i js::r,L=>decide (i<T)&&js.all (fun j=>decide (j<T))&&parB ops i js L&&mixB ops T r (z7J (L.setIfInBounds i true) js)
theorem z1w {i:Nat}{o:Oper}(h0:ops[i]?=some o)(hb:bare ops i=true){K:Act→World→Prop}{a:Act}{w:World}(h:o.wp P a w K Q):wpOp P ops Q i K a w:=by
 unfold bare at hb;rw[h0]at hb;simp only at hb
 have hg:o.guard=none:=by simpa using hb
 unfold wpOp;simp only[h0,Region.wanted,hg,if_true];exact .inl h
theorem z1O {l:List Oper}{d:Oper}{i:Nat}(b1:bare l.toArray i=true):l.toArray[i]?=some (l.getD i d):=by
 unfold bare at b1;cases e:l.toArray[i]? with
 | none=>rw[e]at b1;cases b1
 | some o=>
  have:l[i]?=some o:=by simpa using e
  simp[zhw,this]
theorem z93 {l:List Oper}{d:Oper}{K:Act→World→Prop}{f:Nat}:∀(js:List Nat) (L:Array Bool) (a:Act) (w:World),(∀j∈js,j<T)→zb7 l.toArray js L=true →
  (∀a' w',K a' w'→S w'→anyS P l.toArray Q S T f (z7J L js) a' w')→S w→z64 P Q S K (js.map fun j=>(j,l.getD j d)) a w→anyS P l.toArray Q S T (js.length+f) L a w
 | [],L,a,w,_,_,hK,hS,h=>by rw[zhP,zi8];exact hK a w h hS
 | j::r,L,a,w,hT,hB,hK,hS,h=>by
  simp only[zb7,Bool.and_eq_true,decide_eq_true_eq]at hB;obtain⟨⟨b1,h1⟩,h2⟩:=hB;rw[zhO,show r.length+1+f=(r.length+f)+1 by omega]
  refine⟨fun e=>(by rw[h1]at e;cases e),fun k hk=>?_⟩
  rw[h1]at hk;have hk:k=j:=by simpa using hk
  subst hk;refine z1w (z1O (d:=d) b1) b1 (Oper.wp_mono ?_ h);rintro a' w' ⟨s1,h'⟩;exact⟨fun _=>s1,z93 r _ a' w' (fun m hm=>hT m (by simp[hm])) h2 hK s1 h'⟩
theorem zcT {l:List Oper}{d:Oper}{K:Act→World→Prop}{f i:Nat}(hiT:i<T):∀(js:List Nat) (L:Array Bool) (a:Act) (w:World),(∀j∈js,j<T)→parB l.toArray i js L=true →
  (∀a' w',K a' w'→S w'→anyS P l.toArray Q S T f (z7J (L.setIfInBounds i true) js) a' w')→S w→parT P Q S K (l.getD i d) (js.map fun j=>(j,l.getD j d)) a w→anyS P l.toArray Q S T (js.length+(f+1)) L a w
 | [],L,a,w,_,hB,hK,hS,h=>by
  simp only[parB,Bool.and_eq_true,decide_eq_true_eq]at hB;obtain⟨b1,h1⟩:=hB;rw[zhP,zi8];refine⟨fun e=>(by rw[h1]at e;cases e),fun k hk=>?_⟩
  rw[h1]at hk;have hk:k=i:=by simpa using hk
  subst hk;refine z1w (z1O (d:=d) b1) b1 (Oper.wp_mono ?_ h);rintro a' w' ⟨s1,h'⟩;exact⟨fun _=>s1,hK a' w' h' s1⟩
 | j::r,L,a,w,hT,hB,hK,hS,h=>by
  simp only[parB,Bool.and_eq_true,decide_eq_true_eq]at hB;obtain⟨⟨⟨⟨⟨b1,b2⟩,hij⟩,h1⟩,h2⟩,h3⟩:=hB;obtain⟨H1,H2⟩:=h;rw[zhO,show r.length+1+(f+1)=(r.length+(f+1))+1 by omega]
  have hmem:∀k,k∈Region.ready .any l.toArray L→k=i∨k=j:=fun k hk=>by
   rcases h1 with h1|h1
   ·rw[h1]at hk;simpa using hk
   ·rw[h1]at hk;simpa[or_comm]using hk
  refine⟨fun e=>(by rcases h1 with h1|h1<;>(rw[h1]at e;cases e)),fun k hk=>?_⟩
  rcases hmem k hk with rfl|rfl
  ·refine z1w (z1O (d:=d) b1) b1 (Oper.wp_mono ?_ H1);rintro a' w' ⟨s1,h'⟩;refine⟨fun _=>s1,?_⟩
   have:=z93 (d:=d) (f:=f) (K:=K) (j::r) (L.setIfInBounds k true) a' w' hT h2 hK s1 h'
   rw[zhO,show r.length+1+f=r.length+(f+1) by omega]at this
   exact this
  ·refine z1w (z1O (d:=d) b2) b2 (Oper.wp_mono ?_ H2);rintro a' w' ⟨s1,h'⟩;refine⟨fun _=>s1,zcT hiT r _ a' w' (fun m hm=>hT m (by simp[hm])) h3 (fun a'' w'' k1 k2=>?_) s1 h'⟩
   have:=hK a'' w'' k1 k2
   rw[Array.setIfInBounds_comm _ _ (Ne.symm hij)];exact this
theorem z5E {l:List Oper}{d:Oper}(hns:Region.noSelect l.toArray=true)(hQ:∀c a d v w,Q (.panic c) (Act.put a d v) w→Q (.panic c) a w):
  ∀(ms:List Ms) (L:Array Bool) (a:Act) (w:World),(S w∨zdQ T ms=true)→mixB l.toArray T ms L=true →
   mixT P l.toArray Q S T (ms.map (Ms.fill l d)) a w→anyS P l.toArray Q S T (mixN ms) L a w
 | [],L,a,w,_,hB,h=>by
  simp only[mixB,decide_eq_true_eq]at hB;exact⟨hB,h⟩
 | .take k::r,L,a,w,hS,hB,h=>by
  simp only[mixB,Bool.and_eq_true,List.all_eq_true,Bool.or_eq_true,decide_eq_true_eq,List.mem_range]at hB;obtain⟨⟨⟨⟨h0,h1⟩,h2⟩,h3⟩,h4⟩:=hB;have hS:S w:=hS.resolve_right (by simp[zdQ])
  have h0:l.toArray[k]?=some (l.getD k d):=by
   have h0:k<l.length:=by simpa using h0
   simp[zhw,h0]
  obtain⟨v,hy,h⟩:=h;refine z7g h0 hns (fun j hj hjs=>(h3 j hjs).resolve_left (by omega)) hQ _ L a w (Region.free_spec h0 h2) (by simpa using h1) hy hS ?_
  exact z5E hns hQ r _ _ _ (.inl hS) h4 h
 | .one k::r,L,a,w,hS,hB,h=>by
  simp only[mixB,Bool.and_eq_true,Bool.or_eq_true,decide_eq_true_eq]at hB;obtain⟨⟨⟨h0,h1⟩,h2⟩,h4⟩:=hB;have h0:l.toArray[k]?=some (l.getD k d):=by
   have h0:k<l.length:=by simpa using h0
   simp[zhw,h0]
  refine⟨fun e=>(by rw[h1]at e;cases e),fun i hi=>?_⟩
  rw[h1]at hi;have hik:i=k:=by simpa using hi
  subst hik;have hrest:∀a' w',((i<T→S w')∧mixT P l.toArray Q S T (r.map (Ms.fill l d)) a' w')→(i<T→S w')∧anyS P l.toArray Q S T (mixN r) (L.setIfInBounds i true) a' w':=fun a' w' h'=>
   ⟨h'.1,z5E hns hQ r _ a' w' (h2.imp h'.1 id) h4 h'.2⟩
  unfold wpOp;simp only[h0];have h:if Region.wanted (l.getD i d) (yielded l.toArray a.tmps)then (l.getD i d).wp P a w (fun a' w'=>(i<T→S w')∧mixT P l.toArray Q S T (r.map (Ms.fill l d)) a' w') Q else mixT P l.toArray Q S T (r.map (Ms.fill l d)) (a.put (l.getD i d).dst undef) w:=h
  by_cases hw:Region.wanted (l.getD i d) (yielded l.toArray a.tmps)=true
  ·rw[if_pos hw]at h ⊢;exact .inl (Oper.wp_mono hrest h)
  ·rw[if_neg hw]at h ⊢;refine hrest _ _ ⟨fun hlt=>hS.resolve_right (fun hl=>?_),h⟩
   simp only[zdQ,List.all_cons,Bool.and_eq_true,decide_eq_true_eq]at hl;omega
 | .par i js::r,L,a,w,hS,hB,h=>by
  simp only[mixB,Bool.and_eq_true,decide_eq_true_eq,List.all_eq_true]at hB;obtain⟨⟨⟨hiT,hjT⟩,h1⟩,h4⟩:=hB;have hS:S w:=hS.resolve_right (by simp[zdQ])
  exact zcT (d:=d) hiT js L a w hjT h1 (fun a' w' k1 k2=>z5E hns hQ r _ a' w' (.inl k2) h4 k1) hS h
theorem z06 {id:Nat}{a:Act}{w:World}{o:Oper}{l:List Oper}(ms:List Ms)(T:Nat)(S:World→Prop)(hm:P.follows .mixedOrders=true)
  (hB:(Region.noSelect (o::l).toArray&&decide (mixN ms=(o::l).length)&&mixB (o::l).toArray T ms (Array.replicate (o::l).length false))=true)
  (hQ1:∀c a t v w,Q (.panic c) (Act.put a (some t) v) w→Q (.panic c) a w) (hS:S w.drew)
  (h:mixT P (o::l).toArray Q S T (ms.map (Ms.fill (o::l) o)) a w.drew):(Code.region id (o::l).toArray true).wp P Q a w:=by
 have hQ:∀c a d v w,Q (.panic c) (Act.put a d v) w→Q (.panic c) a w:=fun c a d v w h=>by
  cases d with
  | none=>exact h
  | some t=>exact hQ1 c a t v w h
 simp only[Bool.and_eq_true,decide_eq_true_eq]at hB;obtain⟨⟨hns,hn⟩,hB⟩:=hB;refine wp_region_any hm ?_;have H:=z5E (P:=P) (Q:=Q) (S:=S) (T:=T) hns hQ ms (Array.replicate (o::l).length false) a w.drew (.inl hS) hB h;rw[hn]at H;have:=z6T _ _ _ _ H
 simpa using this
theorem z0f {a:Act}{w:World}(h:Q .normal a w):mixT P ops Q S T [] a w:=h
theorem z04 {k:Nat}{o:Oper}{r:List Mi}{a:Act}{w:World}(hw:Region.wanted o (yielded ops a.tmps)=true)(v:Value)(hy:∀w,S w→(execOp a.eval o).run P w=.ok (.value v) w)(h:mixT P ops Q S T r (a.put o.dst v) w):mixT P ops Q S T (.take k o::r) a w:=
 ⟨v,.inl ⟨hw,hy⟩,h⟩
theorem z0E {k:Nat}{o:Oper}{r:List Mi}{a:Act}{w:World}(hw:Region.wanted o (yielded ops a.tmps)=false)(h:mixT P ops Q S T r (a.put o.dst undef) w):mixT P ops Q S T (.take k o::r) a w:=
 ⟨undef,.inr ⟨hw,rfl⟩,h⟩
theorem z0F {k:Nat}{o:Oper}{r:List Mi}{a:Act}{w:World}(hw:Region.wanted o (yielded ops a.tmps)=false)(h:mixT P ops Q S T r (a.put o.dst undef) w):mixT P ops Q S T (.one k o::r) a w:=by
 show if _ then _ else _
 rw[if_neg (by rw[hw];simp)];exact h
theorem z05 {k:Nat}{o:Oper}{r:List Mi}{a:Act}{w:World}(hw:Region.wanted o (yielded ops a.tmps)=true)(h:∀K:Act→World→Prop,(∀a' w',(k<T→S w')→mixT P ops Q S T r a' w'→K a' w')→o.wp P a w K Q):mixT P ops Q S T (.one k o::r) a w:=by
 show if _ then _ else _
 rw[if_pos hw];exact h _ fun _ _ h1 h2=>⟨h1,h2⟩
theorem z7U {i:Nat}{o:Oper}{js:List (Nat × Oper)}{r:List Mi}{a:Act}{w:World}
 (h:∀K:Act→World→Prop,(∀a' w',mixT P ops Q S T r a' w'→K a' w')→parT P Q S K o js a w):mixT P ops Q S T (.par i o js::r) a w:=h _ fun _ _ h=>h
theorem z2V {K:Act→World→Prop}{o p:Oper}{j:Nat}{r:List (Nat × Oper)}{a:Act}{w:World}
  (h1:∀K':Act→World→Prop,(∀a' w',S w'→z64 P Q S K ((j,p)::r) a' w'→K' a' w')→o.wp P a w K' Q) (h2:∀K':Act→World→Prop,(∀a' w',S w'→parT P Q S K o r a' w'→K' a' w')→p.wp P a w K' Q):parT P Q S K o ((j,p)::r) a w:=
 ⟨h1 _ fun _ _ x y=>⟨x,y⟩,h2 _ fun _ _ x y=>⟨x,y⟩⟩
theorem z8m {K:Act→World→Prop}{o:Oper}{a:Act}{w:World}(h1:∀K':Act→World→Prop,(∀a' w',S w'→K a' w'→K' a' w')→o.wp P a w K' Q):parT P Q S K o [] a w:=
 h1 _ fun _ _ x y=>⟨x,y⟩
theorem z1q {K:Act→World→Prop}{p:Oper}{j:Nat}{r:List (Nat × Oper)}{a:Act}{w:World}(h1:∀K':Act→World→Prop,(∀a' w',S w'→z64 P Q S K r a' w'→K' a' w')→p.wp P a w K' Q):z64 P Q S K ((j,p)::r) a w:=
 h1 _ fun _ _ x y=>⟨x,y⟩
theorem z2u {K:Act→World→Prop}{a:Act}{w:World}(h:K a w):z64 P Q S K [] a w:=h
end
end Go.Proofs.YtejmknghkbobnaaGreatDoor
