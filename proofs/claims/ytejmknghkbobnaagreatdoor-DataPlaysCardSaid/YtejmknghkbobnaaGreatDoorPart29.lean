import Derived.Test.YtejmknghkbobnaaGreatDoorPart28
import Derived.Lib.SlKeysI
import Derived.RangeFuncWrites
import Derived.Sort.MapsRangeIn
import Derived.Shelf.SlIterI.Stops
import Derived.Shelf.SlLaysF0
import Derived.Shelf.SlSortCmp.WholeK
import Derived.Shelf.SlSortCmp.NoneTotal
set_option linter.all false
set_option maxRecDepth 100000
set_option maxHeartbeats 0
namespace Go.Proofs.YtejmknghkbobnaaGreatDoor
open Go.Proofs.Tryz
open Go.RowKit Go.Maps
def DevS.qO (x:DevS):DevS:={ x with power:=-1,taken:=0 }
structure PhaseOk (x z:DevS)(L:List (Int × Fr)):Prop where
 cache:z.cache=[]
 on:z.off=false
 size:z.stable.length=x.stable.length
 new:∀p∈L,z.ge p.1=0/\z.fr p.1=p.2
 far:∀b:Int,0<=b->b<x.stable.length->b∉L.map (·.1)->sameFr x z b
structure PhaseOff (x z:DevS)(L:List (Int × Fr)):Prop where
 off:z.off=true
 sta:z.stable=x.stable
 cac:∃k,z.cache=(L.map zcO).take k
def z7R (z:DevS)(keep:List Nat):Prop:=∀i∈keep,i<z.cache.length
structure Calm (z:DevS)(n:Nat):Prop where
 ok:z.Ok
 cache:z.cache=[]
 on:z.off=false
 size:z.stable.length=n
def Body (z:DevS)(F Z q:Int):Prop:=∀b:Int,F+1<=b->b<F+Z->dI (z.ge b)=false/\(z.ge b=0->(z.fr b).seq<=q)
def Out0 (x z:DevS)(F Z:Int):Prop:=∀b:Int,OutJ F Z x.stable.length b->sameFr x z b
structure InvA (x z:DevS)(F Z q:Int)(l:List Rec):Prop where
 mix:Mixed z F Z q l
 body:Body z F Z (q+1)
 out:Out0 x z F Z
structure InvB (x z:DevS)(F Z q:Int)(l:List Rec):Prop where
 head:HeadAt z F q
 log:LogAt z F q l
 half:Half x z F Z q l
 body:Body z F Z (q+1)
structure InvD (x z:DevS)(F Z q:Int):Prop where
 head:HeadAt z F (q+1)
 body:Body z F Z (q+1)
 out:Out0 x z F Z
structure InvE (x z:DevS)(F Z q:Int)(l:List Rec):Prop where
 head:HeadAt z F (q+1)
 body:Body z F Z (q+1)
 full:Full x z F Z q l
def Inv (x z:DevS)(F Z q:Int)(l:List Rec):Prop:=InvA x z F Z q l\/InvB x z F Z q l\/InvD x z F Z q\/InvE x z F Z q l
section
variable {x z u:DevS}{F Z q:Int}{l:List Rec}{n:Nat}
structure Jn (n:Nat)(F Z q:Int)(l:List Rec):Prop where
 ck:aO F Z=0
 fit:F+Z<=n
 hi:n<=256
 val:ValidL n F Z l
 num:0<=q/\q<4294967000
def headL (F q:Int):List (Int × Fr):=[(F,⟨1,aD q,⟨#[]⟩⟩)]
structure Step_ (z z':DevS)(n m:Nat)(e:Int)(P:DevS->Prop)(C:DevS->Prop):Prop where
 ok:z'.Ok
 taken:z'.taken<=z.taken+m
 size:z'.stable.length=n
 end_ : (e = 0 /\ Calm z' n /\ P z') \/ (e = 13 /\ ∀ keep, z7R z' keep -> C (z'.nN keep))
 runs:∀k:Nat,z.nO (k+m)->e=0/\z'.nO k
def DevS.ac (z:DevS)(F Z q:Int)(l:List Rec):Int × DevS:=if (z.applies q l).1≠0 then z.applies q l else (z.applies q l).2.clear F Z
end
theorem z8N (F q:Int)(l:List Rec):(ef F q l).length=l.length:=by unfold ef;rw[lZ,List.length_zipIdx]
section
variable {x z u:DevS}{F Z q:Int}{l:List Rec}{n:Nat}
end
def DevS.o7 (x:DevS)(F q:Int):Nat->Int × Bool
 | 0=>(0,false)
 | k+1=>if (x.o7 F q k).1≠0 then x.o7 F q k else if dI (x.ge (F+1+k))then (x.ge (F+1+k),false)else
  (0,(x.o7 F q k).2||(x.ge (F+1+k)==0&&(x.fr (F+1+k)).seq==aD q&&((x.fr (F+1+k)).kind==2||(x.fr (F+1+k)).kind==3)))
def DevS.stale (x:DevS)(F Z q:Int):Int × Bool:=x.o7 F q (Z - 1).toNat
def DevS.nZ (x:DevS)(F Z:Int):Int × Int × DevS:=
 if (x.look F Z).1≠0 then (0,(x.look F Z).1,x)else
 if (x.look F Z).2.2.2=true then (if (x.ac F Z (x.look F Z).2.1 (x.look F Z).2.2.1).1≠0 then (0,x.ac F Z (x.look F Z).2.1 (x.look F Z).2.2.1)else ((x.look F Z).2.2.1.length,x.ac F Z (x.look F Z).2.1 (x.look F Z).2.2.1))else
 if (x.stale F Z (x.look F Z).2.1).1≠0 then (0,(x.stale F Z (x.look F Z).2.1).1,x)else
 if (x.stale F Z (x.look F Z).2.1).2=true then (0,x.clear F Z)else (0,0,x)
section
variable {x z u:DevS}{F Z q:Int}{l:List Rec}{n:Nat}
end
def DwAt (w:World)(p:Addr)(q:Int × List Int):Prop:=q.2.length=128/\gz w p (dwV q)
theorem z4Q {P:Program}{o:Oper}{a:Act}{v:Value}{w:World}{xs D:Array Value}(A:BinOp)(t:TypeId)(x y:Operand)(ty:TypeId)(J:o.op=.binOp A t x y ty)(K:a.eval x=.agg xs)(M:a.eval y=.agg D)(I:P.eqGuardType P.depth t=false)
  (c:(binOp A t (.agg xs) (.agg D)).run P w=.ok v w):(execOp a.eval o).run P w=.ok (.value v) w:=by
 unfold execOp;simp only[J,K,M,Sem.run_bind,run_eqGuard_agg w A t x y xs D I,Result.andThen_ok,c,Sem.run_pure]
theorem eqFields3 {P : Program} {w : World} {d : Nat} {xs ys : Array Value} {f0 f1 f2 : Field} {a0 b0 a1 b1 a2 b2 : Value} (n0 : f0.name ≠ "_") (n1 : f1.name ≠ "_") (n2 : f2.name ≠ "_") (h0 : (part f0.type xs f0.offset).run P w = .ok a0 w) (k0 : (part f0.type ys f0.offset).run P w = .ok b0 w)
  (c:(Op.equalIn d f0.type a0 b0).run P w=.ok true w) (I:(part f1.type xs f1.offset).run P w=.ok a1 w) (K:(part f1.type ys f1.offset).run P w=.ok b1 w) (A:(Op.equalIn d f1.type a1 b1).run P w=.ok true w)
  (J:(part f2.type xs f2.offset).run P w=.ok a2 w) (M:(part f2.type ys f2.offset).run P w=.ok b2 w) (D:(Op.equalIn d f2.type a2 b2).run P w=.ok true w):(Op.eqFields d xs ys [f0,f1,f2]).run P w=.ok true w:=by
 simp only[Op.eqFields,ne_eq,n0,n1,n2,not_false_eq_true,if_true,Sem.run_bind,h0,k0,I,K,J,M,Result.andThen_ok,c,A,D,Bool.not_true,Bool.false_eq_true,if_false,Sem.run_pure]
theorem zcB (r:Rec)(w:World):(binOp .neq 118 (.agg (recC r)) (.agg (recC r))).run prog w=.ok (.bool false) w:=by
 have h0:(part 3 (recC r) 0).run prog w=.ok (.int .i64 r.at_) w:=by simp[part,isAgg,run_underlying underlying3,recC]
 have h1:(part 3 (recC r) 1).run prog w=.ok (.int .i64 r.kind) w:=by simp[part,isAgg,run_underlying underlying3,recC]
 have h2:(part 9 (recC r) 2).run prog w=.ok (.string r.data) w:=by simp[part,isAgg,run_underlying underlying9,recC]
 have e0:∀(d:Nat) (a:Int),(Op.equalIn (d+1) 3 (.int .i64 a) (.int .i64 a)).run prog w=.ok true w:=fun d a=>by rw[run_equalIn_int w d 3 .i64 _ _ _ underlying3];simp
 have e2:∀(d:Nat) (a:ByteArray),(Op.equalIn (d+1) 9 (.string a) (.string a)).run prog w=.ok true w:=fun d a=>by rw[run_equalIn_string w d 9 _ _ underlying9];simp
 have hu:=underlying118;have hf:prog.underlying 118=some (.struct (prog.fieldsOf 118)):=by
  unfold Program.fieldsOf;rw[hu]
 rw[run_neq_struct,run_equalIn_struct w 9999 118 _ _ hf Tryz.stoodInHeld118];unfold Program.fieldsOf;rw[hu];have he := eqFields3 (P := prog) (w := w) (d := 9999) (xs := recC r) (ys := recC r) (f0 := { name := "At", type := 3, offset := 0, embedded := false, tag := "", pkgPath := "", byteOffset := 0 }) (f1 := { name := "Kind", type := 3, offset := 1, embedded := false, tag := "", pkgPath := "", byteOffset := 8 }) (f2 := { name := "Data", type := 9, offset := 2, embedded := false, tag := "", pkgPath := "", byteOffset := 16 }) (by decide) (by decide) (by decide) h0 h0 (e0 9998 _) h1 h1 (e0 9998 _) h2 h2 (e2 9998 _)
 exact(congrArg (fun r=>Result.andThen r fun b c=>Result.ok (Value.bool !b) c) he).trans rfl
def TxS.oh (y:TxS):Rec:=⟨1+y.j,5,gn y.now⟩
def TxS.recs (y:TxS):List Rec:=if y.changed then aJ y.writes y.oh else y.writes
structure TxS.Clean (y:TxS):Prop where
 asc:Asc y.writes
 out:∀r∈y.writes,r.at_<1\/1+y.j<r.at_
 small:∀r∈y.writes,r.data.size<=96
 j0:0<=y.j
theorem z4V {l:List Rec}{r:Rec}(h:∀x∈l,x.at_≠r.at_):(aJ l r).Perm (r::l):=by
 induction l with
 | nil=>exact List.Perm.refl _
 | cons x t ih=>
  have A:=h x (by simp)
  unfold aJ;split
  ·exact List.Perm.refl _
  ·split
   ·omega
   ·exact((ih fun y c=>h y (ly _ c)).cons x).trans (List.Perm.swap _ _ _)
theorem z9X {l m:List Rec}(K:Asc l)(M:m.Pairwise (fun a b=>a.at_<=b.at_))(c:m.Perm l):m=l:=by
 induction l generalizing m with
 | nil=>exact c.eq_nil
 | cons x t ih=>
  obtain⟨I,J⟩:=List.pairwise_cons.1 K;cases m with
  | nil=>exact absurd c.symm.eq_nil (by simp)
  | cons y s=>
   obtain⟨O,S⟩:=List.pairwise_cons.1 M;have e:y=x:=by
    have D:y∈x::t:=c.mem_iff.1 (by simp)
    rcases lp.1 D with e|D
    ·exact e
    ·have A:x∈y::s:=c.mem_iff.2 (by simp)
     rcases lp.1 A with e|A
     ·exact e.symm
     ·have:=I y D;have:=O x A;omega
   subst e;rw[ih J S ((List.perm_cons _).1 c)]
theorem zaD {y:TxS}(h:y.Clean):Asc y.recs:=by
 unfold TxS.recs;split
 ·exact kr h.asc _
 ·exact h.asc
theorem z49 {y:TxS}(h:y.Clean):y.recs.Perm (y.writes++if y.changed then [y.oh]else []):=by
 unfold TxS.recs;split
 ·refine(z4V fun x c=>?_).trans ?_
  ·have:=h.out x c;have:=h.j0;show x.at_≠1+y.j;omega
  ·exact(List.perm_append_comm (l₁:=[y.oh]) (l₂:=y.writes))
 ·rw[mp]
theorem z1o {y:TxS}(h:y.Clean):y.recs.length=y.writes.length+if y.changed then 1 else 0:=by
 rw[(z49 h).length_eq,kY];split<;>rfl
theorem z3K {y:TxS}(h:y.Clean){r:Rec}(A:r.at_<1\/1+y.j<r.at_)(D:r.data.size<=96):TxS.Clean { y with writes:=aJ y.writes r }:=
 ⟨kr h.asc r,fun x c=>(i8 c).elim (fun e=>e▸A) (h.out x),fun x c=>(i8 c).elim (fun e=>e▸D) (h.small x),h.j0⟩
theorem TxS.Clean.brk {y:TxS}(h:y.Clean):y.brk.Clean:=⟨h.asc,h.out,h.small,h.j0⟩
theorem TxS.Clean.change {y:TxS}(h:y.Clean)(us:List Bool)(n:Nat):(y.change us n).Clean:=by
 unfold TxS.change;split
 ·exact h
 ·split
  ·exact h
  ·exact⟨h.asc,h.out,h.small,h.j0⟩
theorem TxS.Clean.write {y:TxS}(h:y.Clean)(a k:Int)(d:ByteArray):(y.write a k d).2.Clean:=by
 unfold TxS.write;split
 ·exact h
 ·split
  ·exact h.brk
  ·rename_i c
   unfold TxS.nD at c;split at c
   ·exact absurd (by decide) c
   ·split at c
    ·exact absurd (by decide) c
    ·split at c
     ·exact absurd (by decide) c
     ·exact z3K h (by show a<1\/1+y.j<a;omega) (by show d.size<=96;omega)
theorem TxS.Clean.take {y:TxS}(h:y.Clean)(near many:Int):(y.take near many).2.Clean:=by
 unfold TxS.take;split
 ·exact h
 ·split
  ·exact h.brk
  ·exact h.change _ _
theorem TxS.Clean.free {y:TxS}(h:y.Clean)(l:List Int):(y.free l).2.Clean:=by
 unfold TxS.free;split
 ·exact h
 ·split
  ·exact h.brk
  ·exact h.change _ _
open Go.Shelf Go.Sort
attribute [local go_sem] Oper.semAt_some
structure ValsOf (E:DataW Unit)(rs:List Rec)(left:Lit->Bool)(xs:List Rec):Prop where
 keys:CollectedI E left (xs.map (·.at_))
 mem:∀r∈xs,r∈rs
theorem z8b {l:List Rec}(h:Asc l){r s:Rec}(M:r∈l)(O:s∈l)(K:r.at_=s.at_):r=s:=by
 induction l with
 | nil=>cases M
 | cons x t ih=>
  obtain⟨J,S⟩:=List.pairwise_cons.1 h;rcases lp.1 M with I|A
  ·rcases lp.1 O with D|c
   ·rw[I,D]
   ·have:=J s c;rw[I]at K;omega
  ·rcases lp.1 O with D|c
   ·have:=J r A;rw[D]at K;omega
   ·exact ih S A c
theorem z8c {l:List Rec}(h:Asc l):l.Nodup:=h.imp fun {a b} c A=>by subst A;omega
theorem z3B {l:List Rec}(h:Asc l){r:Rec}(c:r∈l):bf l r.at_=some r:=by
 cases e:bf l r.at_ with
 | none=>exact absurd rfl (z6r e r c)
 | some s=>
  obtain⟨A,D⟩:=z3A e;rw[z8b h A c D]
theorem ValsOf.all {E:DataW Unit}{J:List Rec}{left:Lit->Bool}{xs:List Rec}(h:ValsOf E J left xs)(c:RecMap E J)(S:∀T,left T=false):xs.Perm J:=by
 have I:xs.Nodup:=(List.pairwise_map.1 h.keys.1).imp fun {a b} A D=>A (by rw[D])
 refine(List.perm_ext_iff_of_nodup I (z8c c.asc)).2 fun r=>⟨h.mem r,fun K=>?_⟩
 have O:r.at_∈xs.map (·.at_):=(h.keys.2 _).2 ⟨by rw[c.has_,z3B c.asc K];rfl,S _⟩
 obtain⟨s,M,D⟩:=List.mem_map.1 O;rwa [z8b c.asc (h.mem s M) K D]at M
abbrev encR (r:Rec):Value:=.agg (recC r)
theorem z64 {v:Value}{y:DataW Unit × List MemPlace}(h:iG v=some y):∃r,v=encR r/\y=(kC r,[]):=by
 unfold iG at h;split at h
 ·rename_i a k s
  exact⟨⟨a,k,s⟩,rfl,(Option.some.inj h).symm⟩
 ·cases h
section
variable {F:Fence}{n:Nat}
theorem iK {P:Program}{D:Array Oper}{rest:List Oper}{o:Oper}{a:Act}{w w':World}{Q:Exit->Act->World->Prop}(M:o.guard=none)(ty:TypeId)(x y:Operand)(O:o.op=.store ty x y)(p v:Value)
  (S:a.eval x=p) (T:a.eval y=v) (A:(Instr.storeAt ty p v).run P w=.ok () w') (h:wpListIn F n P D Q rest (a.put o.dst undef) w'):wpListIn F n P D Q (o::rest) a w:=by
 refine wpListIn_plain M fun K I=>?_
 unfold Oper.wpIn;refine⟨?_,?_⟩
 ·simp[Oper.about,O]
 ·rw[Oper.semAt_plain F _ _ (by rw[O];intro c J;cases J)]
  simp[execOp,O,S,T,A,Result.andThen]
  exact I _ _ h
end
theorem zaV (F:Fence)(n:Nat)(hf:F.fn 203)(bC:F.round=none)(hn:1<=n)(l Bm b:Nat)(I:List Rec)(E:DataW Unit)(hE:RecMap E I)(J Jx:List Rec->World->Prop)
  (hY:∀D x W,J D W->D.length<I.length->YieldAt F (n - 1) prog l #[encR x] W fun e Y=>
   (e=.returned (.bool true)/\J (D++[x]) Y/\KeepsWalks W Y)\/(e=.returned (.bool false)/\Jx (D++[x]) Y))
  (W:World) (hJ:AbidesFrom W.heap.size J) (hm:W.cell? ⟨Bm,0,none⟩=some (.map (some b))) (a6:W.ownsMap prog 3 iG b I.length E) (h0:J [] W):
  CallsIn F n prog 203 #[.func (.yield l) #[] #[],.pointer (some ⟨Bm,0,none⟩)] W fun e Y=>(∃v,e=.returned v) /\
   ((∃A,A.Perm I/\J A Y)\/(∃D,True/\Jx D Y)):=by
 refine callsIn_of_wp func203 rfl hf ?_ bC;simp only[ntmps203,List.size_toArray,lr,lH,Nat.reduceAdd,Nat.reduceSub,Array.replicate_succ,Array.replicate_zero,List.push_toArray,List.append_toArray,mo,List.cons_append];gi_wp2_with (first
  | (gi_at_range;refine wpListIn_range_own _ rfl _ 146 rfl 3 118 gw underlying146 _ b I.length _ rfl a6 ?_;intro w0 a7 bq bJ)
  | gi_in)
 go_frame
 gi_loopw [4] (fun _ wr=>∃(left:Lit->Bool) (T:Nat) (A:List Rec),wr.ranges prog 3 iG b W.heap.size I.length E left T/\A.length+T<=Maps.size E/\ValsOf E I left A/\J A wr)
  (fun _ wr=>wr.rangeLeft b W.heap.size)
 case atStart=>
  exact⟨_,_,[],a7,by simp,⟨CollectedI.start E,by simp⟩,hJ [] W w0 none h0 bq (fun r e=>by cases e)⟩
 case round=>
  obtain⟨left,T,A,V,bG,hC,av⟩:=hrel;gi_wp2_with (first
   | (gi_at_next;refine wpListIn_next_ranges _ rfl _ rfl 3 gw iG encZ encR (fun bK kl hk=>by obtain⟨x,hx,_⟩:=Maps.keyOf_i64 underlying3 hk;exact⟨x,hx⟩) (fun v y hv=>by obtain⟨r,hr,_⟩:=z64 hv;exact⟨r,hr⟩) b W.heap.size I.length _ _ _ rfl V ?_ ?_)
   | gi_in)
  ·intro bF bu;gi_wp2
   go_end0
   exact⟨⟨_,rfl⟩,.inl ⟨A,hC.all hE bu,av⟩⟩
  ·intro x c kl yd yp K ab a2 bw hv a1 a8 bB br bD bp;obtain⟨x',ex,rfl,_⟩:=Maps.keyOf_i64 underlying3 a2;obtain rfl:x=x':=encZ_inj ex;have bb:yd=kC c:=by
    obtain⟨r,hr,hy⟩:=z64 hv;have e1:yd=kC r:=(Prod.mk.inj hy).1;have e2:kC c=kC r:=by
     have h3:iG (.agg (recC c))=iG (.agg (recC r)):=congrArg iG hr;rw[z1n c,z1n r]at h3;exact(Prod.mk.inj (Option.some.inj h3)).1
    rw[e1,e2]
   have U:c∈I/\c.at_=x:=by
    have h1:=a1 (.map []);rw[hE.at_,bb]at h1;cases e:bf I x with
    | none=>rw[e]at h1;unfold kC at h1;cases h1
    | some r=>
     rw[e]at h1;have:=z61 h1
     subst this;exact z3A e
   have an:J A K:=hJ A wr K (some W.heap.size) av br (fun r e=>by cases e;exact⟨kE _,V.iter_walk⟩)
   have bA:A.length<I.length:=by have:=hE.size_;omega
   obtain⟨W6,M⟩:=zex ((K.alloc (.cells #[.int .i64 0,.int .i64 0,.string ⟨#[]⟩] 118)).setRow K.heap.size #[.int .i64 c.at_,.int .i64 c.kind,.string c.data]);have b6:Blk W6 K.heap.size 118 #[.int .i64 c.at_,.int .i64 c.kind,.string c.data]:=by rw[M];exact(Blk.new _ _ _).setRow
   have O:Zr K W6:=by rw[M];exact Below.setRow ((kF _ _).alloc (kE _) _) (kE _) _
   have bk:(Instr.storeAt 118 (.pointer (some ⟨K.heap.size,0,none⟩)) (.agg #[.int .i64 c.at_,.int .i64 c.kind,.string c.data])).run prog (K.alloc (.cells #[.int .i64 0,.int .i64 0,.string ⟨#[]⟩] 118))=.ok () W6:=by
    rw[M];exact aF (ty:=118) (vs:=#[.int .i64 c.at_,.int .i64 c.kind,.string c.data]) (Blk.new _ _ _) rfl (by simp[Value.oneCell']) (by kernel_rfl)
   have ao:J A W6:=hJ A K W6 none an ⟨O.os,O.tape,O.output,O.size,fun k hk _=>O.block k hk⟩ (fun r e=>by cases e)
   have ba:=a8.of_walks ⟨O.size,fun k o hk _=>(O.block k (lu.1 hk).1).trans hk⟩
   obtain⟨fn,tmps,assign,body,hy,hR⟩:=hY A c W6 ao bA;have ac:ValsOf E I (fun z=>left z&&!z.sameKey (.int .i64 x)) (A++[c]):=
    ⟨by rw[List.map_append,kR,kS,U.2];exact hC.keys.step bw a1,fun r hr=>(lE.1 hr).elim (hC.mem r) (fun e=>by simp at e;subst e;exact U.1)⟩
   have bc:=kD ac;obtain⟨c6,l6⟩:=b6.zc;dsimp only[encR,recC]at hy bp
   clear bD ac U bb M b6 O an ao;gi_wp2_with (refine iK rfl _ _ _ rfl _ _ rfl rfl bk ?_)
   refine hR.mono ?_;clear c6 l6;rintro e W3 (⟨rfl,bn,bt⟩|⟨rfl,aL⟩)
   ·gi_wp2
    have S:=ba.of_walks bt;go_roundw
    case rel=>exact⟨_,ab,A++[c],S,by simp;omega,bc.out,bn⟩
    case measure=>rw[S.left_eq,V.left_eq];exact bB
   ·gi_wp2
    refine bodyPost_ret (results_none rfl _ _ _) rfl ?_;exact⟨⟨_,rfl⟩,.inr ⟨_,trivial,aL⟩⟩
theorem z7J (F:Fence)(n:Nat)(Y:F.fn 203)(K:F.round=none)(hn:1<=n)(A b:Nat)(D:List Rec)(E:DataW Unit)(T:RecMap E D)(w:World)(I:A<w.heap.size)
  (hm:w.cell? ⟨A,0,none⟩=some (.map (some b))) (c:w.ownsMap prog 3 iG b D.length E):
  SeqStopsK F n prog 203 #[.pointer (some ⟨A,0,none⟩)] (fun r=>#[encR r]) KeepsWalks (fun xs=>xs.Perm D) (fun _=>True) D.length w:=fun l J O W M U _ V S=>
 zaV F n Y K hn l A b D E T J O V W U ((M.cell (p:=⟨A,0,none⟩) I).trans hm) (aU c (M.block b c.lt)) S
theorem z7K (D:Option Nat)(w:World):
  Calls prog 142 #[.map D] w fun e J=>e=.returned (.func (.func 203) #[] #[.pointer (some ⟨w.heap.size,0,none⟩)])/\J=w.alloc (.cells #[.map D] 146):=by
 have I:∀(A:Fn) (first c:Array Value) (w:World),(Instr.makeFunc A first c).run prog w=.ok (.func A first c) w:=fun _ _ _ _=>rfl
 go_enter func142,ntmps142
 go_wp2
 go_ret
 exact⟨rfl,rfl⟩
attribute [local go_sem] Oper.semAt_some
def z2m (B base:Nat)(l:List Rec)(W:World):Prop:=
 ∃v,Boxed W B 48 v/\W.ownsRow base 118 3 v l.length (l.flatMap bE)/\(v=.slice none 0 0↔l=[])
theorem z5j (B base C:Nat):OwnFrom C (fun (l:List Rec) W=>z2m B base l W):=
 Own.from (holdsRow_own base B 48 118 3 (fun l:List Rec=>l.length) (fun l=>l.flatMap bE) (fun l v=>v=.slice none 0 0↔l=[])) C
def z5F (rs:List Rec)(w:World)(e:Ending)(w':World):Prop:=
 ∃v xs,e=.returned v/\xs.Perm rs/\w'.ownsRow w.heap.size 118 3 v xs.length (xs.flatMap bE)/\(v=.slice none 0 0↔xs=[])/\Zr w w'
theorem z4J (C p:Nat)(t:TypeId)(cs:Array Value):OwnFrom C (fun (_:Unit) W=>Blk W p t cs):=fun _ A B M D I K=>by
 refine D.grown I fun e=>?_
 obtain⟨o,c,J⟩:=(K p e.symm).2;rw[D]at c;cases c;cases J
theorem z1G (Bs b:Nat)(rs:List Rec)(bL:rs.length<=1000)(E:DataW Unit)(hE:RecMap E rs)(w:World)(bB:Blk w Bs 146 #[.map (some b)])(ab:w.ownsMap prog 3 iG b rs.length E):
  Calls prog 202 #[.slice none 0 0,.func (.func 203) #[] #[.pointer (some ⟨Bs,0,none⟩)]] w (z5F rs w):=by
 refine gW func202 rfl ?_;simp only[ntmps202,List.size_toArray,lr,lH,Nat.reduceAdd,Nat.reduceSub,Array.replicate_succ,Array.replicate_zero,List.push_toArray,List.append_toArray,mo,List.cons_append];have lB:=bB.lt;obtain⟨U,M⟩:=zex (w.alloc (.cells #[.slice none 0 0] 48));have b1:Blk U Bs 146 #[.map (some b)]:=by rw[M];exact bB.alloc _
 have bp:Boxed U w.heap.size 48 (.slice none 0 0):=by rw[M];exact zbn
 have bN:U.heap.size=w.heap.size+1:=by rw[M];simp
 have B1:Zr w U:=by rw[M];exact(kF _ _).alloc (kE _) _
 have an:U.ownsMap prog 3 iG b rs.length E:=aU ab (B1.block b ab.lt);obtain⟨i0,hi,bw,bC,bA⟩:=info_parts Tryz.o9;have bk:=kD hi;clear hi;go_wp2_with fail
 rw[<-M];clear M;refine kA (n:=6) (fun D W=>W.heap[D]?=some (.deferred (some []))/\w.heap.size+1<=D/\∃xs,xs.Perm rs/\z2m w.heap.size (w.heap.size+1) xs W/\KeepEx (w.heap.size+1) [w.heap.size] U W) ?loop ?after
 case loop=>
  refine wpIn_rangeFunc_ownH rfl (by omega) (gf:=203) (lb:=#[.pointer (some ⟨Bs,0,none⟩)]) rfl trivial (enters_of func203 (by kernel_rfl) rfl)
   (z7J Fence.wide (6 - 1) trivial rfl (by omega) Bs b rs E hE U b1.lt ((b1.cells 0).trans rfl) an)
   walksK_t walksK_b (kF _ _) (fun _=>rfl)
   (fun T W=>z2m w.heap.size (w.heap.size+1) T W/\KeepEx (w.heap.size+1) [w.heap.size] U W)
   (fun _ _ _=>False)
   (OwnFrom.and (z5j _ _ _) (fC (by omega) (by omega)))
   (fun _ _ _ _ _ hs _ _=>hs)
   ⟨⟨_,bp,World.ownsRow_nil _ _ _ _,by simp⟩,KeepEx.refl _ _ _⟩
   (fun x a' W=>∃p,a'={ tmps:=#[.slice none 0 0,.func (.func 203) #[] #[.pointer (some ⟨Bs,0,none⟩)],.pointer (some ⟨w.heap.size,0,none⟩),undef,.slice none 0 0,.pointer (some ⟨p,0,none⟩),.func (.func 203) #[] #[.pointer (some ⟨Bs,0,none⟩)],encR x,undef,undef,undef,undef,undef],defers:=[] }/\Blk W p 118 (recC x))
   (fun x a' u A B bD hs hg hr=>by obtain⟨p,h1,h2⟩:=hs;exact⟨p,h1,z4J _ _ _ _ u A B bD h2 hg hr⟩) ?assign ?body ?done ?stop
  case assign=>
   intro l T x W K hI Y;obtain⟨W5,O⟩:=zex (W.alloc (.cells #[.int .i64 0,.int .i64 0,.string ⟨#[]⟩] 118));have b5:Blk W5 W.heap.size 118 #[.int .i64 0,.int .i64 0,.string ⟨#[]⟩]:=by rw[O];exact zbn
   have aL:=aF (ty:=118) (vs:=recC x) b5 rfl (by simp[recC,Value.oneCell']) (by kernel_rfl)
   have b6:=b5.setRow (cs':=recC x);have a1:z2m w.heap.size (w.heap.size+1) T (W5.setRow W.heap.size (recC x))/\KeepEx (w.heap.size+1) [w.heap.size] U (W5.setRow W.heap.size (recC x)):=by
    obtain⟨⟨v,hv,c,I⟩,a2⟩:=hI;have ba:=a2.size;have bu:w.heap.size<W.heap.size:=by omega
    have J:Zr W (W5.setRow W.heap.size (recC x)):=by rw[O];exact Below.setRow ((kF _ _).alloc (kE _) _) (kE _) _
    exact⟨⟨v,(J.block _ bu).trans hv,aq c J,I⟩,a2.trans (KeepEx.of_below (J.mono (by omega)))⟩
   have a6:KeepsFrom U.heap.size W (W5.setRow W.heap.size (recC x))/\KeepsWalks W (W5.setRow W.heap.size (recC x)):=by
    have J:Zr W (W5.setRow W.heap.size (recC x)):=by rw[O];exact Below.setRow ((kF _ _).alloc (kE _) _) (kE _) _
    exact⟨⟨J.size,fun k o _ hk _=>(J.block k (lu.1 hk).1).trans hk⟩,⟨J.size,fun k o hk _=>(J.block k (lu.1 hk).1).trans hk⟩⟩
   have HH:=kD O;have bn:=kD a1;have ao:=kD a6;have bc:=kD b6;rw[O]at aL;clear O hI a1 a6 b6 b5;gi_wp2_with (refine iK rfl _ _ _ rfl _ _ rfl rfl aL ?_)
   rw[<-HH.out];exact Y _ _ ao.out.1 ao.out.2 bn.out ⟨_,rfl,bc.out⟩
  case body=>
   rintro l T x a' W hl - ⟨⟨v,hv,c,I⟩,Y⟩ ⟨p,rfl,bP⟩ ba;have bG:T.length<=2000:=by omega
   obtain⟨av,cv,rfl⟩:=aw c;have hc:=hv.cell;have hf:=hv.frozen;have bM:=Y.size;replace bP:Blk W p 118 #[.int .i64 x.at_,.int .i64 x.kind,.string x.data]:=bP
   obtain⟨cP,lP⟩:=bP.zc;clear I ba bP;have hi:=bk.out;gi_wp2_with (gi_at_builtin;refine wpListIn_append_own _ rfl _ _ 48 rfl (w.heap.size+1) 118 i0 _ 3 32 underlying48 hi bw bC bA rfl (by decide) _ _ _ rfl (c.alloc _) ⟨W.heap.size,0,none⟩ 1 1 (bE x) rfl rfl (fun j u hu=>by rw[ep,ld,(Blk.new W 118 #[.int .i64 x.at_,.int .i64 x.kind,.string x.data]).cells];simpa[bE]using hu) (by intro u hu;simp[bE]at hu;rcases hu with rfl|rfl|rfl<;>rfl) (by simp only[maxLen];omega) (by omega) (by simp;omega) ?_;intro v' w2 S ac _;obtain⟨g',bF,rfl⟩:=ownsRow_succ S;obtain⟨bb,bt,br,a8,bq⟩:=iN hv c (by omega) (by omega) S ac;have bJ:=bb.cell;have bK:=bb.frozen)
   exact⟨a8.from _,a8.walks,⟨_,bt,by simpa using br,by simp⟩,Y.trans bq⟩
  case done=>
   rintro D xs W hD hp ⟨a7,Y⟩ V;exact⟨.inl rfl,D,rfl,V,by omega,xs,hp,a7,Y⟩
  case stop=>exact fun _ _ _ _ _ _ hF _=>hF.elim
 case after=>
  rintro D W ⟨V,hD,xs,hp,⟨v,hv,c,I⟩,Y⟩;obtain⟨av,cv,rfl⟩:=aw c;have hc:=hv.cell;have hf:=hv.frozen;have HN:=kD I;clear I;go_wp2
  refine jE (.slice av xs.length cv) V (by simp[results,results202,go_sem]) ?_
  refine⟨_,xs,rfl,hp,aI (ownsRow_putObj c _ V rfl) (by omega),HN.out,?_⟩
  have h1:Zr w W:=B1.trans (Y.nK (by omega) (by simp))
  exact z0O h1 (by omega)
theorem z3L (D b:Nat)(A:List Rec)(I:A.length<=1000)(E:DataW Unit)(M:RecMap E A)(w:World)(J:Blk w D 146 #[.map (some b)])(c:w.ownsMap prog 3 iG b A.length E):
  Calls prog 141 #[.func (.func 203) #[] #[.pointer (some ⟨D,0,none⟩)]] w (z5F A w):=by
 have h:=z1G D b A I E M w J c;go_enter func141,ntmps141
 go_wp2_with fail
 refine h.mono ?_;rintro e S ⟨v,O,rfl,K⟩;go_wp2_with fail
 go_ret
 exact⟨v,O,rfl,K⟩
def Tryz.sortRec_ren:Go.Shelf.Ren:=⟨fun | 6=>143 | 15=>205 | 14=>204 | 28=>237 | 29=>238 | 20=>229 | 21=>230 | 22=>231 | 23=>232 | 24=>233 | 25=>234 | 26=>235 | 27=>236 | 46=>247 | 47=>248 | 48=>249 | 49=>250 | 50=>251 | 57=>254|n=>n,fun | 22=>48 | 24=>118 | 25=>227 | 3=>3 | 39=>281 | 0=>0 | 53=>188 | 55=>315 | 4=>4 | 46=>307 | 45=>306 | 50=>311 | 5=>5 | 9=>9 | 66=>319 | 70=>323 | 76=>328 | 77=>329|n=>n,fun|n=>n⟩
theorem Tryz.sortRec:Go.Proofs.SlLaysF0.n6 prog Tryz.sortRec_ren:={
 mixed:=by kernel_rfl
 f6:=⟨Tryz.f143.name,by decide,func143.trans (congrArg some (by kernel_rfl))⟩
 f14:=⟨Tryz.f204.name,by decide,func204.trans (congrArg some (by kernel_rfl))⟩
 f15:=func205.trans (congrArg some (by kernel_rfl))
 f20:=⟨Tryz.f229.name,by decide,func229.trans (congrArg some (by kernel_rfl))⟩
 f21:=⟨Tryz.f230.name,by decide,func230.trans (congrArg some (by kernel_rfl))⟩
 f22:=⟨Tryz.f231.name,by decide,func231.trans (congrArg some (by kernel_rfl))⟩
 f23:=⟨Tryz.f232.name,by decide,func232.trans (congrArg some (by kernel_rfl))⟩
 f24:=⟨Tryz.f233.name,by decide,func233.trans (congrArg some (by kernel_rfl))⟩
 f25:=⟨Tryz.f234.name,by decide,func234.trans (congrArg some (by kernel_rfl))⟩
 f26:=⟨Tryz.f235.name,by decide,func235.trans (congrArg some (by kernel_rfl))⟩
 f27:=⟨Tryz.f236.name,by decide,func236.trans (congrArg some (by kernel_rfl))⟩
 f28:=func237.trans (congrArg some (by kernel_rfl))
 f29:=func238.trans (congrArg some (by kernel_rfl))
 f46:=⟨Tryz.f247.name,by decide,func247.trans (congrArg some (by kernel_rfl))⟩
 f47:=func248.trans (congrArg some (by kernel_rfl))
 f48:=func249.trans (congrArg some (by kernel_rfl))
 f49:=⟨Tryz.f250.name,by decide,func250.trans (congrArg some (by kernel_rfl))⟩
 f50:=⟨Tryz.f251.name,by decide,func251.trans (congrArg some (by kernel_rfl))⟩
 f57:=⟨Tryz.f254.name,by decide,func254.trans (congrArg some (by kernel_rfl))⟩
 t0:=underlying0
 a0:=Tryz.isAgg0
 z0:=Tryz.sizeOf0
 v0:=Tryz.zeroValue0
 t3:=underlying3
 a3:=Tryz.isAgg3
 z3:=Tryz.sizeOf3
 v3:=Tryz.zeroValue3
 t4:=underlying4
 a4:=Tryz.isAgg4
 z4:=Tryz.sizeOf4
 v4:=Tryz.zeroValue4
 t5:=underlying5
 a5:=Tryz.isAgg5
 z5:=Tryz.sizeOf5
 v5:=Tryz.zeroValue5
 t9:=underlying9
 a9:=Tryz.isAgg9
 z9:=Tryz.sizeOf9
 v9:=Tryz.zeroValue9
 t22:=underlying48
 a22:=Tryz.isAgg48
 z22:=Tryz.sizeOf48
 v22:=Tryz.zeroValue48
 t25:=underlying227
 a25:=Tryz.isAgg227
 z25:=Tryz.sizeOf227
 v25:=Tryz.zeroValue227
 t39:=underlying281
 a39:=Tryz.isAgg281
 z39:=Tryz.sizeOf281
 v39:=Tryz.zeroValue281
 t45:=underlying306
 a45:=Tryz.isAgg306
 z45:=Tryz.sizeOf306
 v45:=Tryz.zeroValue306
 t46:=underlying307
 a46:=Tryz.isAgg307
 z46:=Tryz.sizeOf307
 v46:=Tryz.zeroValue307
 t50:=underlying311
 a50:=Tryz.isAgg311
 z50:=Tryz.sizeOf311
 v50:=Tryz.zeroValue311
 t53:=underlying188
 a53:=Tryz.isAgg188
 z53:=Tryz.sizeOf188
 v53:=Tryz.zeroValue188
 t55:=underlying315
 a55:=Tryz.isAgg315
 z55:=Tryz.sizeOf315
 v55:=Tryz.zeroValue315
 t66:=underlying319
 a66:=Tryz.isAgg319
 z66:=Tryz.sizeOf319
 v66:=Tryz.zeroValue319
 t70:=underlying323
 a70:=Tryz.isAgg323
 z70:=Tryz.sizeOf323
 v70:=Tryz.zeroValue323
 t76:=underlying328
 a76:=Tryz.isAgg328
 z76:=Tryz.sizeOf328
 v76:=Tryz.zeroValue328
 t77:=underlying329
 a77:=Tryz.isAgg329
 z77:=Tryz.sizeOf329
 v77:=Tryz.zeroValue329 }
structure BRec where
 val:Rec
 ok:0<=val.at_/\val.at_<=100000
instance:Inhabited BRec:=⟨⟨⟨0,0,⟨#[]⟩⟩,by decide⟩⟩
def encB (x:BRec):List Value:=[.int .i64 x.1.at_,.int .i64 x.1.kind,.string x.1.data]
def cfB (x y:BRec):Int:=x.1.at_ - y.1.at_
theorem swoB:SWO (ltOf cfB) where
 irrefl x:=by unfold ltOf cfB;simp
 trans x y z h1 h2:=by unfold ltOf cfB at *;simp at *;omega
 ntrans x y z h1 h2:=by unfold ltOf cfB at *;simp at *;omega
theorem zbo (x y:BRec)(W:World):Calls prog 144 #[.agg #[.int .i64 x.1.at_,.int .i64 x.1.kind,.string x.1.data],.agg #[.int .i64 y.1.at_,.int .i64 y.1.kind,.string y.1.data]] W fun e A=>e=.returned (.int .i64 (cfB x y))/\∃q c,A=grow (W.drewN q) c:=by
 have I:=x.2;have J:=y.2;have D:IntKind.i64.wrap (x.1.at_ - y.1.at_)=x.1.at_ - y.1.at_:=by rw[kW];omega
 have HC:Hid (cfB x y=x.1.at_ - y.1.at_):=kD rfl;generalize cfB x y=r at *;go_enter func144,ntmps144
 go_wp2_with fail
 go_ret
 exact⟨by rw[HC.out];rfl,0,_,by rw[alloc_eq_grow,alloc_eq_grow,grow_grow];rfl⟩
theorem zab:∀w,(isAgg 118).run prog w=.ok true w:=fun _=>by kernel_rfl
theorem zc7:∀w,(Go.sizeOf 118).run prog w=.ok 3 w:=fun _=>by kernel_rfl
theorem z9B {d c:Array BRec}(U:PermIn 0 d.size d c)(V:SortedIn (ltOf cfB) 0 d.size c):(c.toList.map (·.1)).Perm (d.toList.map (·.1))/\(c.toList.map (·.1)).Pairwise (fun a b:Rec=>a.at_<=b.at_)/\c.size=d.size:=by
 obtain⟨A,-,K⟩:=U;have O:c.extract 0 d.size=c:=by rw[<-A,Array.extract_size]
 have S:d.extract 0 d.size=d:=Array.extract_size;rw[O,S]at K;refine⟨K.map _,?_,A⟩
 refine List.pairwise_map.2 (List.pairwise_iff_getElem.2 fun i j T M I=>?_)
 have h:=V i j (kP _) I (by simpa[A]using M)
 have D:i<c.size:=by simpa using T
 have J:j<c.size:=by simpa using M
 rw[getElem!_pos c i D,getElem!_pos c j J]at h;unfold ltOf cfB at h;simp at h
 simp only[Array.getElem_toList];omega
theorem z18 {w:World}{g:Nat}{cur:Array Value}{e:TypeId}{F:Array Value}(A:w.heap[g]?=some (.cells cur e (0,0)))(I:cur.toList.take F.size=F.toList):Holds id w g 0 F:=by
 intro j D;refine⟨?_,by simp[World.frozen?,A]⟩
 have c:(cur.toList.take F.size)[j]?=F.toList[j]?:=by rw[I]
 rw[List.getElem?_take_of_lt D]at c;simp only[World.cell?,A,ld];simp only[Option.isSome_none,Bool.false_eq_true,if_false];rw[<-Array.getElem?_toList,c];simp[D]
theorem z3W {w:World}{g n:Nat}{os:Array Obj}{cur:Array Value}{e:TypeId}{c:Nat × Nat}(F:Array Value)(A:w.heap[g]?=some (.cells cur e c)):
  (grow (putRow id (Sort.ahead w n) g 0 F) os).heap[g]?=some (.cells (putCells id 0 F cur) e c):=by
 have D:g<w.heap.size:=(lu.1 A).1;rw[heap_grow_old _ _ (by simpa using D)]
 simp[putRow,mapBlock,Sort.ahead,Array.getElem?_modify,A,onCells]
theorem z17 {w:World}{g n:Nat}{os:Array Obj}(F:Array Value):w.grownBy (grow (putRow id (Sort.ahead w n) g 0 F) os) (some g):=by
 refine⟨rfl,rfl,rfl,by simp,fun k A c=>?_⟩
 rw[heap_grow_old _ _ (by simpa using A)]
 have:g≠k:=fun e=>c (by rw[e])
 simp[putRow,mapBlock,Sort.ahead,Array.getElem?_modify,this]
theorem z1L (cur F:Array Value)(h:F.size<=cur.size):(putCells id 0 F cur).toList.take F.size=F.toList:=by
 apply List.ext_getElem?
 intro j;by_cases c:j<F.size
 ·rw[List.getElem?_take_of_lt c,Array.getElem?_toList];simp[putCells,c,show j<cur.size by omega]
 ·rw[List.getElem?_take_eq_none (by omega),List.getElem?_eq_none (by simpa using c)]
theorem jd {α:Type}{f:α->List Value}{m:Nat}:∀ {l:List α},(∀s∈l,(f s).length=m)->(l.flatMap f).length=l.length*m
 | [],_=>by simp
 | x::t,h=>by
  rw[m9,kY,h x (by simp),jd (fun s c=>h s (ly _ c)),lr,Nat.add_mul,Nat.one_mul,Nat.add_comm]
theorem zct (d:Array BRec):(flatK encB 3 d).toList=(d.toList.map (·.1)).flatMap bE:=by
 apply List.ext_getElem?
 intro t;have K:((d.toList.map (·.1)).flatMap bE).length=d.size*3:=by rw[jd (f:=bE) (m:=3) (fun _ _=>rfl)];simp
 by_cases A:t<d.size*3
 ·have D:=get_flatK encB 3 d t A;have c:t / 3<d.size:=by omega
  have J:t<(flatK encB 3 d).size:=by rw[size_flatK];exact A
  rw[getElem!_pos _ t J,getElem!_pos d (t / 3) c]at D;have I:=eb (f:=bE) (m:=3) (fun _ _=>rfl) (i:=t / 3) (j:=t % 3) (by omega) (show t / 3<(d.toList.map (·.1)).length by simpa using c)
  rw[show t / 3*3+t % 3=t by omega]at I
  rw[I,Array.getElem?_toList,Array.getElem?_eq_getElem J,D];have M:t / 3<(d.toList.map (·.1)).length:=by simpa using c
  have e:bE ((d.toList.map (·.1))[t / 3]'M)=encB d[t / 3]:=by simp[encB,bE]
  rw[e,kQ (show t % 3<(encB d[t / 3]).length by show t % 3<3;omega),getElem!_pos]
 ·rw[List.getElem?_eq_none (by simpa using A),List.getElem?_eq_none (by rw[K];omega)]
def z9Q (base g cap:Nat)(xs:List Rec)(w:World)(e:Ending)(w':World):Prop:=
 e=.returned (.tuple #[])/\∃ys:List Rec,ys.Perm xs/\ys.Pairwise (fun a b:Rec=>a.at_<=b.at_)/\w'.ownsRow base 118 3 (.slice (some ⟨g,0,none⟩) ys.length cap) ys.length (ys.flatMap bE)/\w.grownBy w' (some g)
theorem z9C (base g c:Nat)(xs:List Rec)(an:xs.length<=1000)(hx:∀r∈xs,0<=r.at_/\r.at_<=100000)(w:World)(ho:w.ownsRow base 118 3 (.slice (some ⟨g,0,none⟩) xs.length c) xs.length (xs.flatMap bE)):
  Calls prog 143 #[.slice (some ⟨g,0,none⟩) xs.length c,.func (.func 144) #[] #[]] w (z9Q base g c xs w):=by
 obtain⟨d,hd⟩:∃d:Array BRec,d.toList.map (·.1)=xs:=by
  refine⟨(xs.attach.map fun r=>(⟨r.1,hx r.1 r.2⟩:BRec)).toArray,?_⟩
  show List.map (fun x:BRec=>x.1) (xs.attach.map fun r=>(⟨r.1,hx r.1 r.2⟩:BRec))=xs
  rw[List.map_map];exact List.attach_map_subtype_val xs
 have A:d.size=xs.length:=by rw[<-hd];simp
 rcases ho.2 with ⟨h0,_⟩|⟨g',ab,ac,S,J,V,O,Y,M,ht⟩
 ·simp at h0
 simp only[Value.slice.injEq,lx,Addr.mk.injEq,and_true,true_and]at S;obtain⟨rfl,rfl⟩:=S;have hF:(flatK encB 3 d).toList=xs.flatMap bE:=by rw[zct,hd]
 have U:(flatK encB 3 d).size=xs.length*3:=by rw[size_flatK,A]
 have hH:HoldsK encB 3 w g 0 d:=z18 V (by rw[U,hF];exact ht)
 have eg:∀args w,(callFunc 144 args).run prog w=.ok (.enter 144 args) w:=enters_of func144 (by kernel_rfl) rfl
 have K:g<w.heap.size:=(lu.1 V).1;have I:=AnyQ.slices_SortFunc Tryz.sortRec 3 zab zc7 encB (fun _=>rfl) (fun x v S=>by simp[encB]at S;rcases S with rfl|rfl|rfl<;>rfl) cfB swoB 144 #[] g 0 c d w eg (fun _ _ _ _ x y=>zbo x y _) hH K (by omega)
 rw[A]at I;refine Calls.mono I ?_;rintro e w' ⟨rfl,T,n,os,hp,hs,rfl⟩;rw[<-A]at hp hs;obtain⟨k1,k2,k3⟩:=z9B hp hs;rw[hd]at k1;have hl:(T.toList.map (·.1)).length=xs.length:=k1.length_eq;have D:(flatK encB 3 T).size=xs.length*3:=by rw[size_flatK,k3,A]
 refine⟨rfl,T.toList.map (·.1),k1,k2,⟨?_,.inr ⟨g,c,_,by rw[hl],J,z3W _ V,by rw[hl];exact O,Y,by simp[putCells,M],?_⟩⟩,z17 _⟩
 ·rw[jd (f:=bE) (m:=3) (fun _ _=>rfl)]
 ·rw[hl,<-D,z1L _ _ (by rw[D,M];exact Nat.mul_le_mul_right _ O),zct]
theorem z1y {y:TxS}(A:y.Clean){D c:List Rec}(K:D.Perm (y.writes++if y.changed then [y.oh]else []))(I:c.Perm D)(J:c.Pairwise (fun a b:Rec=>a.at_<=b.at_)):c=y.recs:=
 z9X (zaD A) J ((I.trans K).trans (z49 A).symm)
theorem z3o {P:Program}{w w':World}{o:Oper}{a:Act}{K:Act->World->Prop}{Q:Exit->Act->World->Prop}(s x:Operand)(t:TypeId)
  (D:o.op=.call { callee:=.builtin .append,args:=#[s,x],argTypes:=#[t,t] }) (v X A:Value) (I:a.eval s=v) (J:a.eval x=X)
  (c:(Builtin.append_ #[t,t] o.type #[v,X]).run P w=.ok A w') (h:K (a.put o.dst A) w'):o.wp P a w K Q:=by
 unfold Oper.wp execOp;simp only[D,resolve,invoke,builtin,Sem.run_bind,Sem.run_pure,Result.andThen_ok,List.map_toArray,kR,kS,I,J,c];exact h
theorem z3j (D:Value)(E:Int)(w:World)(h:StE w D E)(I:E≠0):
  Calls prog 64 #[D] w fun e K=>e=.returned (.tuple #[.slice none 0 0,.int .i64 E])/\Zr w K:=by
 have A:=dz D E w h;have J:(E != 0)=true:=by simpa using I
 clear h I;go_enter func64,ntmps64
 go_wp2_with fail
 refine A.mono ?_;rintro e M ⟨rfl,c⟩;go_wp2_with fail
 go_ret2
 exact⟨rfl,c⟩
def z5H (y:TxS)(w:World)(e:Ending)(w':World):Prop:=
 ∃v,e=.returned (.tuple #[v,.int .i64 0])/\w'.ownsRow w.heap.size 118 3 v y.recs.length (y.recs.flatMap bE)/\Zr w w'
theorem z6c (base:Nat)(v:Value)(D:List Rec)(T:D.length<=1000)(hz:∀r∈D,0<=r.at_/\r.at_<=100000)(w:World)(S:base<=w.heap.size)(J:w.ownsRow base 118 3 v D.length (D.flatMap bE)):
  Calls prog 143 #[v,.func (.func 144) #[] #[]] w fun e K=>e=.returned (.tuple #[])/\∃I:List Rec,I.Perm D/\I.Pairwise (fun a b:Rec=>a.at_<=b.at_)/\K.ownsRow base 118 3 v I.length (I.flatMap bE)/\Below base w K:=by
 rcases Nat.eq_zero_or_pos D.length with O|O
 ·obtain rfl:=md O;obtain⟨A,c,rfl⟩:=aw J;refine Calls.mono (AnyF.slices_SortFunc_none Tryz.sortRec A c _ w) ?_;rintro e K ⟨rfl,rfl⟩;exact⟨rfl,[],List.Perm.refl _,List.Pairwise.nil,J,kF _ _⟩
 ·obtain⟨g,M,rfl,hg,_⟩:=dA J O;refine(z9C base g M D T hz w J).mono ?_;rintro e K ⟨rfl,I,U,Y,V,h4⟩;refine⟨rfl,I,U,Y,by rw[U.length_eq]at V |-;exact V,(kF base w).grown h4 S (fun k e=>by cases e;exact hg)⟩
theorem z7m (T:Nat)(F:List Nat)(D:Nat)(y:TxS)(w:World)(h:TxAt w T F D y)(hc:y.Clean)(hE:y.mF=0):
  Calls prog 64 #[.pointer (some ⟨T,0,none⟩)] w (z5H y w):=by
 have bn:=dz _ _ w h.st;rw[hE]at bn;obtain⟨ok,⟨M,wv,nv,bT,hT,hM,bX,⟨E,br,hO⟩,hw,⟨A,cn,rfl,bt,hA⟩⟩,lt⟩:=h;have bQ:=de ok.rg;have a1:y.writes.length<=80:=by have:=ok.len;unfold TxS.left TxS.most at this;split at this<;>omega
 have bD:y.now.length<=1000:=by rw[ok.now];have:=(ir ok.rg).2.2.2.2;omega
 have bM:=kD (kw ok);have a2:∀r∈y.writes,0<=r.at_/\r.at_<=100000:=fun r O=>by have:=ok.recs r O;omega
 have an:=kD a2;have bw:0<=y.oh.at_/\y.oh.at_<=100000:=by show 0<=1+y.j/\1+y.j<=100000;omega
 have bL:=kD bw;have bN:=kD bD;have HC:=kD hc;have aL:∀W:World,Zr w W->W.cell? ⟨T,13,none⟩=some (.int .i64 y.s)/\W.cell? ⟨T,14,none⟩=some (.int .i64 y.j)/\W.cell? ⟨T,15,none⟩=some (.int .i64 y.i)/\W.cell? ⟨T,16,none⟩=some (.slice A y.now.length cn):=fun W hb=>⟨((bT.mD hb).cells 13).trans rfl,((bT.mD hb).cells 14).trans rfl,((bT.mD hb).cells 15).trans rfl,((bT.mD hb).cells 16).trans rfl⟩
 have HS:=kD aL;clear aL;clear a2 bw hc hw hA lt ok hE bQ bD;unfold z5H;go_enter func64,ntmps64
 go_wp2_with fail
 refine bn.mono ?_;rintro e w1 ⟨rfl,I⟩;have S:=bT.mD I;have bb:=aU hO (I.block M hO.lt);have bO:w1.cell? ⟨T,17,none⟩=some (.map (some M)):=(S.cells 17).trans rfl;have lT:=S.lt;clear bn hO bT;go_wp2_with fail
 refine(z7K (some M) w1).mono ?_;rintro e w2 ⟨rfl,bp⟩;have bB:Blk w2 w1.heap.size 146 #[.map (some M)]:=by rw[bp];exact zbn
 have B2:Zr w1 w2:=by rw[bp];exact(kF _ _).alloc (kE _) _
 have bq:=aU bb (B2.block M bb.lt);clear bp bO lT;go_wp2_with fail
 refine(z3L w1.heap.size M y.writes (by omega) E br w2 bB bq).mono ?_
 rintro e w3 ⟨v,J,rfl,hp,ho,-,bu⟩;have a7:Zr w1 w3:=B2.trans (bu.mono B2.size);have B3:Zr w w3:=I.trans (a7.mono I.size);have z3:w.heap.size<=w2.heap.size:=kO I.size B2.size;have bc:=aI ho z3;have U:=S.mD a7;have av:=bt.below B3;have bK:J.length=y.writes.length:=hp.length_eq;clear bB bq bb S br ho bu B2 a7 bt;have V:w3.cell? ⟨T,18,none⟩=some (.bool y.changed):=(U.cells 18).trans rfl;have lT:=U.lt;cases hch:y.changed
 ·rw[hch]at V;have HP:Hid (J.Perm (y.writes++if y.changed then [y.oh]else [])):=kD (by rw[hch];simpa using hp)
  have HX:Hid (∀r∈J,0<=r.at_/\r.at_<=100000):=kD fun r O=>an.out r (hp.mem_iff.1 O)
  have bJ:J.length<=80:=by omega
  clear hp bK a1;go_wp2_with fail
  refine(z6c w.heap.size v J (by omega) HX.out w3 B3.size bc).mono ?_
  rintro e w4 ⟨rfl,ys,k1,k2,ab,Y⟩;obtain rfl:=z1y HC.out HP.out k1 k2;have B4:=B3.trans Y;clear V k1 k2;go_wp2_with fail
  go_ret2
  exact⟨v,rfl,ab,B4⟩
 ·have ao:=V;rw[hch]at ao;clear V;have HP:Hid ((J++[y.oh]).Perm (y.writes++if y.changed then [y.oh]else [])):=kD (by rw[hch];exact hp.append_right _)
  have HX:Hid (∀r∈J++[y.oh],0<=r.at_/\r.at_<=100000):=kD fun r O=>by
   rcases lE.1 O with O|O
   ·exact an.out r (hp.mem_iff.1 O)
   ·simp at O;subst O;exact bL.out
  have bJ:J.length<=80:=by omega
  clear hp bK a1;go_wp2_with fail
  clear ao lT;refine zrm [.take 0,.take 1,.take 2,.take 3,.take 4,.take 5,.take 6,.take 7,.one 8,.one 9,.one 10,.one 11] 12 (fun w'=>w'.cell? ⟨T,13,none⟩=some (.int .i64 y.s)/\w'.cell? ⟨T,14,none⟩=some (.int .i64 y.j)/\w'.cell? ⟨T,15,none⟩=some (.int .i64 y.i)/\w'.cell? ⟨T,16,none⟩=some (.slice A y.now.length cn)) (HS.out _ B3.drew) ?_
  simp only[kR,kS,Ms.fill,kT,kV];iterate 8 refine ztk ?_
  refine ah (by rfl) fun K c=>?_
  go_simp;refine(kf T 148 _ (1+y.j) y.s y.j y.i A cn y.now bN.out bM.out w3.drew U.drew rfl (av.below (kF _ _).drew)).mono ?_;rintro e w4 ⟨rfl,Y⟩;have a8:Zr w3 w4:=(kF _ _).drew.trans Y;have B4:Zr w w4:=B3.trans (a8.mono B3.size);have ab:=aq bc a8;refine c _ _ (fun _=>HS.out _ B4) ?_
  clear c K Y bc U av a8;refine ah (by rfl) fun K c=>?_
  go_simp;obtain⟨w5,ac⟩:=zex (w4.alloc (.cells #[.int .i64 (1+y.j),.int .i64 5,.string (gn y.now)] 118));have b5:Blk w5 w4.heap.size 118 #[.int .i64 (1+y.j),.int .i64 5,.string (gn y.now)]:=by rw[ac];exact zbn
  have ba:Zr w4 w5:=by rw[ac];exact(kF _ _).alloc (kE _) _
  rw[<-ac];clear ac;have B5:Zr w w5:=B4.trans (ba.mono B4.size);have bk:=aq ab ba;refine c _ _ (fun _=>HS.out _ B5) ?_
  clear c K ab;refine ah (by rfl) fun K c=>?_
  obtain⟨iD,bR,bU,bS,bC⟩:=info_parts Tryz.o9;obtain⟨v6,w6,a6,bF,bA,-⟩:=run_append_own_at (P:=prog) w5 w.heap.size 48 48 118 iD _ 3 32 underlying48 bR bU bS bC rfl (by omega) _ _ _ bk ⟨w4.heap.size,0,none⟩ 1 1 (bE y.oh) rfl (fun j u hu=>by rw[ep,ld,b5.cells];simpa[bE,TxS.oh]using hu) (by intro u hu;simp[bE]at hu;rcases hu with rfl|rfl|rfl<;>rfl) (by simp only[maxLen];omega) (by omega) B5.size
  have B6:Zr w w6:=B5.grown bA B5.size (fun k hk=>(bk.lt k hk).1)
  refine z3o _ _ 48 rfl _ _ v6 rfl rfl a6 ?_;refine c _ _ (fun _=>HS.out _ B6) ?_
  clear c K a6;refine ah (by rfl) fun K c=>?_
  go_simp;refine c _ _ (fun _=>HS.out _ B6) ?_
  clear c K;refine ax ?_;have bG:w6.ownsRow w.heap.size 118 3 v6 (J++[y.oh]).length ((J++[y.oh]).flatMap bE):=by
   rw[kY,List.flatMap_append];simpa using bF
  clear bF bk bA b5 ba B4 B5;go_wp2_with fail
  refine(z6c w.heap.size v6 (J++[y.oh]) (by simp;omega) HX.out w6 B6.size bG).mono ?_
  rintro e w7 ⟨rfl,ys,k1,k2,bW,bP⟩;obtain rfl:=z1y HC.out HP.out k1 k2;have B8:=B6.trans bP;clear k1 k2 bG;go_wp2_with fail
  go_ret2
  exact⟨v6,rfl,bW,B8⟩
theorem Reads.qm {w:World}{base:Nat}{e:TypeId}{A:Option Addr}{n c:Nat}{xs:List Value}(h:w.ownsRow base e 3 (.slice A n c) n xs):Reads w A xs:=by
 obtain⟨S,J⟩:=h;rcases J with ⟨_,J⟩|⟨g,O,I,M,hg,K,U,V,Y,T⟩
 ·left;subst J;simpa using S
 ·right
  simp only[Value.slice.injEq]at M;refine⟨g,0,M.1,?_,fun j u D=>?_⟩
  ·exact(lu.1 K).1
  ·rw[cell_of_row w g (0+j) I e (0,0) K];rw[<-T,mh]at D;split at D
   ·simpa using D
   ·simp at D
def TxS.ny (y:TxS)(x:DevS):Int × DevS:=if y.recs=[]then (0,x)else x.ny 1 y.j y.recs
def TxS.end_ (y:TxS):TxS:={ y with ended:=true }
def zcf (w:World)(T:Nat)(F:List Nat)(D:Nat)(y:TxS)(B:List Nat)(x:DevS)(e:Ending)(w':World):Prop:=
 e=.returned (.int .i64 (y.ny x).1)/\∃B',TD w' T F D y.end_ B' (y.ny x).2/\Grow w (F++B) w' (F++B')
end Go.Proofs.YtejmknghkbobnaaGreatDoor
