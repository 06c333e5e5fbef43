import Derived.Test.YtejmknghkbobnaaGreatDoorPart00
import Derived.Test.YtejmknghkbobnaaGreatDoorPart36
import Derived.Test.YtejmknghkbobnaaGreatDoorPart20
import Derived.Test.YtejmknghkbobnaaGreatDoorPart11
import Derived.Test.YtejmknghkbobnaaGreatDoorPart15
import Derived.Lib.SlKeysI
import Derived.RangeFuncWrites
import Derived.Sort.MapsRangeIn
import Derived.Shelf.SlIterI.Stops
import Derived.RangeFuncNested
import Derived.Shelf.SlLaysF0
import Derived.Test.YtejmknghkbobnaaGreatDoorProg
import Derived.Shelf.SlSortCmp.WholeK
import Derived.Shelf.SlSortCmp.NoneTotal
set_option linter.unusedVariables false
set_option linter.unusedSimpArgs false
set_option maxRecDepth 100000
set_option maxHeartbeats 8000000
namespace Go.Proofs.YtejmknghkbobnaaGreatDoor
open Go.Proofs.Tryz
open Go.RowKit Go.Maps
def TxS.bmap (y:TxS):Rec:=⟨1+y.j,5,mapS y.now⟩
def TxS.recs (y:TxS):List Rec:=if y.changed then z0s y.writes y.bmap else y.writes
structure TxS.Clean (y:TxS):Prop where
 asc:Asc y.writes
 out:∀r∈y.writes,r.at_<1∨1+y.j<r.at_
 small:∀r∈y.writes,r.data.size≤96
 j0:0≤y.j
theorem za8 {l:List Rec}{r:Rec}(h:∀x∈l,x.at_≠r.at_):(z0s l r).Perm (r::l):=by
 induction l with
 | nil=>exact List.Perm.refl _
 | cons x t ih=>
  have h1:=h x (by simp)
  unfold z0s;split
  ·exact List.Perm.refl _
  ·split
   ·omega
   ·exact((ih fun y hy=>h y (zhJ _ hy)).cons x).trans (List.Perm.swap _ _ _)
theorem zfr {l m:List Rec}(hl:Asc l)(hm:m.Pairwise (fun a b=>a.at_≤b.at_))(hp:m.Perm l):m=l:=by
 induction l generalizing m with
 | nil=>exact hp.eq_nil
 | cons x t ih=>
  obtain⟨h1,h2⟩:=List.pairwise_cons.1 hl;cases m with
  | nil=>exact absurd hp.symm.eq_nil (by simp)
  | cons y s=>
   obtain⟨k1,k2⟩:=List.pairwise_cons.1 hm;have e:y=x:=by
    have hy:y∈x::t:=hp.mem_iff.1 (by simp)
    rcases List.mem_cons.1 hy with e|hy
    ·exact e
    ·have hx:x∈y::s:=hp.mem_iff.2 (by simp)
     rcases List.mem_cons.1 hx with e|hx
     ·exact e.symm
     ·have:=h1 y hy;have:=k1 x hx;omega
   subst e;rw[ih h2 k2 ((List.perm_cons _).1 hp)]
theorem zar {y:TxS}(h:y.Clean):Asc y.recs:=by
 unfold TxS.recs;split
 ·exact z4R h.asc _
 ·exact h.asc
theorem z2C {y:TxS}(h:y.Clean):y.recs.Perm (y.writes++if y.changed then [y.bmap]else []):=by
 unfold TxS.recs;split
 ·refine(za8 fun x hx=>?_).trans ?_
  ·have:=h.out x hx;have:=h.j0;show x.at_≠1+y.j;omega
  ·exact(List.perm_append_comm (l₁:=[y.bmap]) (l₂:=y.writes))
 ·rw[zi5]
theorem z28 {y:TxS}(h:y.Clean):y.recs.length=y.writes.length+if y.changed then 1 else 0:=by
 rw[(z2C h).length_eq,zhF];split<;>rfl
theorem z8F {y:TxS}(h:y.Clean){r:Rec}(h1:r.at_<1∨1+y.j<r.at_)(h2:r.data.size≤96):TxS.Clean { y with writes:=z0s y.writes r }:=
 ⟨z4R h.asc r,fun x hx=>(z3A hx).elim (fun e=>e▸h1) (h.out x),fun x hx=>(z3A hx).elim (fun e=>e▸h2) (h.small x),h.j0⟩
theorem TxS.Clean.brk {y:TxS}(h:y.Clean):y.brk.Clean:=⟨h.asc,h.out,h.small,h.j0⟩
theorem TxS.Clean.change {y:TxS}(h:y.Clean)(us:List Bool)(n:Nat):(y.change us n).Clean:=by
 unfold TxS.change;split
 ·exact h
 ·split
  ·exact h
  ·exact⟨h.asc,h.out,h.small,h.j0⟩
theorem TxS.Clean.write {y:TxS}(h:y.Clean)(a k:Int)(d:ByteArray):(y.write a k d).2.Clean:=by
 unfold TxS.write;split
 ·exact h
 ·split
  ·exact h.brk
  ·rename_i hE
   unfold TxS.writeE at hE;split at hE
   ·exact absurd (by decide) hE
   ·split at hE
    ·exact absurd (by decide) hE
    ·split at hE
     ·exact absurd (by decide) hE
     ·exact z8F h (by show a<1∨1+y.j<a;omega) (by show d.size≤96;omega)
theorem TxS.Clean.take {y:TxS}(h:y.Clean)(near many:Int):(y.take near many).2.Clean:=by
 unfold TxS.take;split
 ·exact h
 ·split
  ·exact h.brk
  ·exact h.change _ _
theorem TxS.Clean.free {y:TxS}(h:y.Clean)(l:List Int):(y.free l).2.Clean:=by
 unfold TxS.free;split
 ·exact h
 ·split
  ·exact h.brk
  ·exact h.change _ _
open Go.Shelf Go.Sort
attribute [local go_sem] Oper.semAt_some
structure ValsOf (E:DataW Unit)(rs:List Rec)(left:Lit→Bool)(xs:List Rec):Prop where
 keys:CollectedI E left (xs.map (·.at_))
 mem:∀r∈xs,r∈rs
theorem zdT {l:List Rec}(h:Asc l){r s:Rec}(hr:r∈l)(hs:s∈l)(he:r.at_=s.at_):r=s:=by
 induction l with
 | nil=>cases hr
 | cons x t ih=>
  obtain⟨h1,h2⟩:=List.pairwise_cons.1 h;rcases List.mem_cons.1 hr with e1|hr2
  ·rcases List.mem_cons.1 hs with e2|hs2
   ·rw[e1,e2]
   ·have:=h1 s hs2;rw[e1]at he;omega
  ·rcases List.mem_cons.1 hs with e2|hs2
   ·have:=h1 r hr2;rw[e2]at he;omega
   ·exact ih h2 hr2 hs2
theorem zd5 {l:List Rec}(h:Asc l):l.Nodup:=h.imp fun {a b} hab he=>by subst he;omega
theorem z9m {l:List Rec}(h:Asc l){r:Rec}(hr:r∈l):z0Y l r.at_=some r:=by
 cases e:z0Y l r.at_ with
 | none=>exact absurd rfl (zbg e r hr)
 | some s=>
  obtain⟨h1,h2⟩:=z8X e;rw[zdT h h1 hr h2]
theorem ValsOf.all {E:DataW Unit}{rs:List Rec}{left:Lit→Bool}{xs:List Rec}(h:ValsOf E rs left xs)(hE:RecMap E rs)(hl:∀kl,left kl=false):xs.Perm rs:=by
 have hnx:xs.Nodup:=(List.pairwise_map.1 h.keys.1).imp fun {a b} hab he=>hab (by rw[he])
 refine(List.perm_ext_iff_of_nodup hnx (zd5 hE.asc)).2 fun r=>⟨h.mem r,fun hr=>?_⟩
 have h1:r.at_∈xs.map (·.at_):=(h.keys.2 _).2 ⟨by rw[hE.has_,z9m hE.asc hr];rfl,hl _⟩
 obtain⟨s,hs,he⟩:=List.mem_map.1 h1;rwa [zdT hE.asc (h.mem s hs) hr he]at hs
abbrev encR (r:Rec):Value:=.agg (recC r)
theorem zaD {v:Value}{y:DataW Unit × List MemPlace}(h:recR v=some y):∃r,v=encR r∧y=(recD r,[]):=by
 unfold recR at h;split at h
 ·rename_i a k s
  exact⟨⟨a,k,s⟩,rfl,(Option.some.inj h).symm⟩
 ·cases h
section
variable {F:Fence}{n:Nat}
theorem z3j {P:Program}{ops:Array Oper}{rest:List Oper}{o:Oper}{a:Act}{w w':World}{Q:Exit→Act→World→Prop}(hgd:o.guard=none)(ty:TypeId)(x y:Operand)(ho:o.op=.store ty x y)(p v:Value)
  (hx:a.eval x=p) (hy:a.eval y=v) (hrun:(Instr.storeAt ty p v).run P w=.ok () w') (h:wpListIn F n P ops Q rest (a.put o.dst undef) w'):wpListIn F n P ops Q (o::rest) a w:=by
 refine wpListIn_plain hgd fun K hK'=>?_
 unfold Oper.wpIn;refine⟨?_,?_⟩
 ·simp[Oper.about,ho]
 ·rw[Oper.semAt_plain F _ _ (by rw[ho];intro c hc';cases hc')]
  simp[execOp,ho,hx,hy,hrun,Result.andThen]
  exact hK' _ _ h
end
theorem zfi (F:Fence)(n:Nat)(hf:F.fn 203)(hro:F.round=none)(hn:1≤n)(l Bm b:Nat)(rs:List Rec)(E:DataW Unit)(hE:RecMap E rs)(J Jx:List Rec→World→Prop)
  (hY:∀pre x W,J pre W→pre.length<rs.length→YieldAt F (n - 1) prog l #[encR x] W fun e W'=>
   (e=.returned (.bool true)∧J (pre++[x]) W'∧KeepsWalks W W')∨(e=.returned (.bool false)∧Jx (pre++[x]) W'))
  (W:World) (hJ:AbidesFrom W.heap.size J) (hm:W.cell? ⟨Bm,0,none⟩=some (.map (some b))) (hown:W.ownsMap prog 3 recR b rs.length E) (h0:J [] W):
  CallsIn F n prog 203 #[.func (.yield l) #[] #[],.pointer (some ⟨Bm,0,none⟩)] W fun e W'=>(∃v,e=.returned v) ∧
   ((∃xs,xs.Perm rs∧J xs W')∨(∃pre,True∧Jx pre W')):=by
 refine callsIn_of_wp func203 rfl hf ?_ hro;simp only[ntmps203,List.size_toArray,zhO,zhP,Nat.reduceAdd,Nat.reduceSub,Array.replicate_succ,Array.replicate_zero,List.push_toArray,List.append_toArray,zi3,List.cons_append];gi_wp2_with (first
  | (gi_at_range;refine wpListIn_range_own _ rfl _ 146 rfl 3 118 z3i underlying146 _ b rs.length _ rfl hown ?_;intro w0 hrg0 hg0 hs0)
  | gi_in)
 go_frame
 gi_loopw [4] (fun _ wr=>∃(left:Lit→Bool) (cnt:Nat) (xs:List Rec),wr.ranges prog 3 recR b W.heap.size rs.length E left cnt∧xs.length+cnt≤Maps.size E∧ValsOf E rs left xs∧J xs wr)
  (fun _ wr=>wr.rangeLeft b W.heap.size)
 case atStart=>
  exact⟨_,_,[],hrg0,by simp,⟨CollectedI.start E,by simp⟩,hJ [] W w0 none h0 hg0 (fun r e=>by cases e)⟩
 case round=>
  obtain⟨left,cnt,xs,hrg,hcs,hC,hJs⟩:=hrel;gi_wp2_with (first
   | (gi_at_next;refine wpListIn_next_ranges _ rfl _ rfl 3 z3i recR encZ encR (fun key kl hk=>by obtain⟨x,hx,_⟩:=Maps.keyOf_i64 underlying3 hk;exact⟨x,hx⟩) (fun v y hv=>by obtain⟨r,hr,_⟩:=zaD hv;exact⟨r,hr⟩) b W.heap.size rs.length _ _ _ rfl hrg ?_ ?_)
   | gi_in)
  ·intro hc0 hl0;gi_wp2
   go_end0
   exact⟨⟨_,rfl⟩,.inl ⟨xs,hC.all hE hl0,hJs⟩⟩
  ·intro x c kl yd yp w2 cnt2 hkey hlk hv hat hrg2 hlt hg2 hs2 hen;obtain⟨x',ex,rfl,_⟩:=Maps.keyOf_i64 underlying3 hkey;obtain rfl:x=x':=encZ_inj ex;have hyd:yd=recD c:=by
    obtain⟨r,hr,hy⟩:=zaD hv;have e1:yd=recD r:=(Prod.mk.inj hy).1;have e2:recD c=recD r:=by
     have h3:recR (.agg (recC c))=recR (.agg (recC r)):=congrArg recR hr;rw[z62 c,z62 r]at h3;exact(Prod.mk.inj (Option.some.inj h3)).1
    rw[e1,e2]
   have hcm:c∈rs∧c.at_=x:=by
    have h1:=hat (.map []);rw[hE.at_,hyd]at h1;cases e:z0Y rs x with
    | none=>rw[e]at h1;unfold recD at h1;cases h1
    | some r=>
     rw[e]at h1;have:=zaK h1
     subst this;exact z8X e
   have hJ2:J xs w2:=hJ xs wr w2 (some W.heap.size) hJs hg2 (fun r e=>by cases e;exact⟨zhT _,hrg.iter_walk⟩)
   have hln:xs.length<rs.length:=by have:=hE.size_;omega
   obtain⟨W6,hW6⟩:∃W6,W6=(w2.alloc (.cells #[.int .i64 0,.int .i64 0,.string ⟨#[]⟩] 118)).setRow w2.heap.size #[.int .i64 c.at_,.int .i64 c.kind,.string c.data]:=⟨_,rfl⟩;have b6:Blk W6 w2.heap.size 118 #[.int .i64 c.at_,.int .i64 c.kind,.string c.data]:=by rw[hW6];exact(Blk.new _ _ _).setRow
   have B6:Below w2.heap.size w2 W6:=by rw[hW6];exact Below.setRow ((zho _ _).alloc (zhT _) _) (zhT _) _
   have HST:(Instr.storeAt 118 (.pointer (some ⟨w2.heap.size,0,none⟩)) (.agg #[.int .i64 c.at_,.int .i64 c.kind,.string c.data])).run prog (w2.alloc (.cells #[.int .i64 0,.int .i64 0,.string ⟨#[]⟩] 118))=.ok () W6:=by
    rw[hW6];exact z1L (ty:=118) (vs:=#[.int .i64 c.at_,.int .i64 c.kind,.string c.data]) (Blk.new _ _ _) rfl (by simp[Value.oneCell']) (by kernel_rfl)
   have hJ6:J xs W6:=hJ xs w2 W6 none hJ2 ⟨B6.os,B6.tape,B6.output,B6.size,fun k hk _=>B6.block k hk⟩ (fun r e=>by cases e)
   have hrg6:=hrg2.of_walks ⟨B6.size,fun k o hk _=>(B6.block k (zhW.1 hk).1).trans hk⟩
   obtain⟨fn,tmps,assign,body,hy,hR⟩:=hY xs c W6 hJ6 hln;have hC2:ValsOf E rs (fun z=>left z&&!z.sameKey (.int .i64 x)) (xs++[c]):=
    ⟨by rw[List.map_append,zhY,zhZ,hcm.2];exact hC.keys.step hlk hat,fun r hr=>(zi0.1 hr).elim (hC.mem r) (fun e=>by simp at e;subst e;exact hcm.1)⟩
   have HC2:=zhs hC2;have c6:=b6.cells;have l6:=b6.lt;dsimp only[encR,recC]at hy hen
   clear hs2 hC2 hcm hyd hW6 b6 B6 hJ2 hJ6;gi_wp2_with (refine z3j rfl _ _ _ rfl _ _ rfl rfl HST ?_)
   refine hR.mono ?_;clear c6 l6;rintro e W3 (⟨rfl,hJ3,hk3⟩|⟨rfl,hJx3⟩)
   ·gi_wp2
    have hrg3:=hrg6.of_walks hk3;go_roundw
    case rel=>exact⟨_,cnt2,xs++[c],hrg3,by simp;omega,HC2.out,hJ3⟩
    case measure=>rw[hrg3.left_eq,hrg.left_eq];exact hlt
   ·gi_wp2
    refine bodyPost_ret (results_none rfl _ _ _) rfl ?_;exact⟨⟨_,rfl⟩,.inr ⟨_,trivial,hJx3⟩⟩
theorem zbL (F:Fence)(n:Nat)(hf:F.fn 203)(hro:F.round=none)(hn:1≤n)(Bm b:Nat)(rs:List Rec)(E:DataW Unit)(hE:RecMap E rs)(w:World)(hBm:Bm<w.heap.size)
  (hm:w.cell? ⟨Bm,0,none⟩=some (.map (some b))) (hown:w.ownsMap prog 3 recR b rs.length E):
  SeqStopsK F n prog 203 #[.pointer (some ⟨Bm,0,none⟩)] (fun r=>#[encR r]) KeepsWalks (fun xs=>xs.Perm rs) (fun _=>True) rs.length w:=fun l J Jx W hW hJ _ hY h0=>
 zfi F n hf hro hn l Bm b rs E hE J Jx hY W hJ ((hW.cell (p:=⟨Bm,0,none⟩) hBm).trans hm) (z0j hown (hW.block b hown.lt)) h0
theorem zcw (mb:Option Nat)(w:World):
  Calls prog 142 #[.map mb] w fun e w'=>e=.returned (.func (.func 203) #[] #[.pointer (some ⟨w.heap.size,0,none⟩)])∧w'=w.alloc (.cells #[.map mb] 146):=by
 have hmf:∀(fn:Fn) (first cap:Array Value) (w:World),(Instr.makeFunc fn first cap).run prog w=.ok (.func fn first cap) w:=fun _ _ _ _=>rfl
 go_enter func142,ntmps142
 go_wp2
 go_ret
 exact⟨rfl,rfl⟩
attribute [local go_sem] Oper.semAt_some
def z7O (B base:Nat)(l:List Rec)(W:World):Prop:=
 ∃v,Boxed W B 48 v∧W.ownsRow base 118 3 v l.length (l.flatMap recV)∧(v=.slice none 0 0↔l=[])
theorem z9D (B base C:Nat):OwnFrom C (fun (l:List Rec) W=>z7O B base l W):=
 Own.from (holdsRow_own base B 48 118 3 (fun l:List Rec=>l.length) (fun l=>l.flatMap recV) (fun l v=>v=.slice none 0 0↔l=[])) C
def zaW (rs:List Rec)(w:World)(e:Ending)(w':World):Prop:=
 ∃v xs,e=.returned v∧xs.Perm rs∧w'.ownsRow w.heap.size 118 3 v xs.length (xs.flatMap recV)∧(v=.slice none 0 0↔xs=[])∧Below w.heap.size w w'
theorem zac (C p:Nat)(t:TypeId)(cs:Array Value):OwnFrom C (fun (_:Unit) W=>Blk W p t cs):=fun _ A B row hs hg hr=>by
 refine hs.grown hg fun e=>?_
 obtain⟨o,ho,hn⟩:=(hr p e.symm).2;rw[hs]at ho;cases ho;cases hn
theorem z73 (Bs b:Nat)(rs:List Rec)(hrs:rs.length≤1000)(E:DataW Unit)(hE:RecMap E rs)(w:World)(bB:Blk w Bs 146 #[.map (some b)])(hown:w.ownsMap prog 3 recR b rs.length E):
  Calls prog 202 #[.slice none 0 0,.func (.func 203) #[] #[.pointer (some ⟨Bs,0,none⟩)]] w (zaW rs w):=by
 refine z2U func202 rfl ?_;simp only[ntmps202,List.size_toArray,zhO,zhP,Nat.reduceAdd,Nat.reduceSub,Array.replicate_succ,Array.replicate_zero,List.push_toArray,List.append_toArray,zi3,List.cons_append];have lB:=bB.lt;obtain⟨W1,hW1⟩:∃W1,W1=w.alloc (.cells #[.slice none 0 0] 48):=⟨_,rfl⟩;have b1:Blk W1 Bs 146 #[.map (some b)]:=by rw[hW1];exact bB.alloc _
 have bL1:Boxed W1 w.heap.size 48 (.slice none 0 0):=by rw[hW1];exact Blk.new _ _ _
 have hz1:W1.heap.size=w.heap.size+1:=by rw[hW1];simp
 have B1:Below w.heap.size w W1:=by rw[hW1];exact(zho _ _).alloc (zhT _) _
 have hown1:W1.ownsMap prog 3 recR b rs.length E:=z0j hown (B1.block b hown.lt);obtain⟨i0,hi,hz0,hzs,hzb⟩:=info_parts Tryz.infoRec;have HHI:=zhs hi;clear hi;go_wp2_with fail
 rw[←hW1];clear hW1;refine z4Q (n:=6) (fun D W=>W.heap[D]?=some (.deferred (some []))∧w.heap.size+1≤D∧∃xs,xs.Perm rs∧z7O w.heap.size (w.heap.size+1) xs W∧KeepEx (w.heap.size+1) [w.heap.size] W1 W) ?loop ?after
 case loop=>
  refine wpIn_rangeFunc_ownH rfl (by omega) (gf:=203) (lb:=#[.pointer (some ⟨Bs,0,none⟩)]) rfl trivial (enters_of func203 (by kernel_rfl) rfl)
   (zbL Fence.wide (6 - 1) trivial rfl (by omega) Bs b rs E hE W1 b1.lt ((b1.cells 0).trans rfl) hown1)
   walksK_t walksK_b (zho _ _) (fun _=>rfl)
   (fun pre W=>z7O w.heap.size (w.heap.size+1) pre W∧KeepEx (w.heap.size+1) [w.heap.size] W1 W)
   (fun _ _ _=>False)
   (OwnFrom.and (z9D _ _ _) (z2i (by omega) (by omega)))
   (fun _ _ _ _ _ hs _ _=>hs)
   ⟨⟨_,bL1,World.ownsRow_nil _ _ _ _,by simp⟩,KeepEx.refl _ _ _⟩
   (fun x a' W=>∃p,a'={ tmps:=#[.slice none 0 0,.func (.func 203) #[] #[.pointer (some ⟨Bs,0,none⟩)],.pointer (some ⟨w.heap.size,0,none⟩),undef,.slice none 0 0,.pointer (some ⟨p,0,none⟩),.func (.func 203) #[] #[.pointer (some ⟨Bs,0,none⟩)],encR x,undef,undef,undef,undef,undef],defers:=[] }∧Blk W p 118 (recC x))
   (fun x a' u A B row hs hg hr=>by obtain⟨p,h1,h2⟩:=hs;exact⟨p,h1,zac _ _ _ _ u A B row h2 hg hr⟩) ?assign ?body ?done ?stop
  case assign=>
   intro l pre x W K hI hK;obtain⟨W5,hW5⟩:∃W5,W5=W.alloc (.cells #[.int .i64 0,.int .i64 0,.string ⟨#[]⟩] 118):=⟨_,rfl⟩;have b5:Blk W5 W.heap.size 118 #[.int .i64 0,.int .i64 0,.string ⟨#[]⟩]:=by rw[hW5];exact Blk.new _ _ _
   have HST:=z1L (ty:=118) (vs:=recC x) b5 rfl (by simp[recC,Value.oneCell']) (by kernel_rfl)
   have b6:=b5.setRow (cs':=recC x);have hI6:z7O w.heap.size (w.heap.size+1) pre (W5.setRow W.heap.size (recC x))∧KeepEx (w.heap.size+1) [w.heap.size] W1 (W5.setRow W.heap.size (recC x)):=by
    obtain⟨⟨v,hv,hrow,hnil⟩,hK1⟩:=hI;have hlt:=hK1.size;have hvl:w.heap.size<W.heap.size:=by omega
    have hb5:Below W.heap.size W (W5.setRow W.heap.size (recC x)):=by rw[hW5];exact Below.setRow ((zho _ _).alloc (zhT _) _) (zhT _) _
    exact⟨⟨v,(hb5.block _ hvl).trans hv,z0a hrow hb5,hnil⟩,hK1.trans (KeepEx.of_below (hb5.mono (by omega)))⟩
   have hKF:KeepsFrom W1.heap.size W (W5.setRow W.heap.size (recC x))∧KeepsWalks W (W5.setRow W.heap.size (recC x)):=by
    have hb5:Below W.heap.size W (W5.setRow W.heap.size (recC x)):=by rw[hW5];exact Below.setRow ((zho _ _).alloc (zhT _) _) (zhT _) _
    exact⟨⟨hb5.size,fun k o _ hk _=>(hb5.block k (zhW.1 hk).1).trans hk⟩,⟨hb5.size,fun k o hk _=>(hb5.block k (zhW.1 hk).1).trans hk⟩⟩
   have HH:=zhs hW5;have HI6:=zhs hI6;have HKF:=zhs hKF;have HB6:=zhs b6;rw[hW5]at HST;clear hW5 hI hI6 hKF b6 b5;gi_wp2_with (refine z3j rfl _ _ _ rfl _ _ rfl rfl HST ?_)
   rw[←HH.out];exact hK _ _ HKF.out.1 HKF.out.2 HI6.out ⟨_,rfl,HB6.out⟩
  case body=>
   rintro l pre x a' W hl - ⟨⟨v,hv,hrow,hnil⟩,hK⟩ ⟨p,rfl,bP⟩ hlt;have hlt2:pre.length≤2000:=by omega
   obtain⟨av,cv,rfl⟩:=z0G hrow;have hc:=hv.cell;have hf:=hv.frozen;have hsz:=hK.size;replace bP:Blk W p 118 #[.int .i64 x.at_,.int .i64 x.kind,.string x.data]:=bP
   have cP:=bP.cells;have lP:=bP.lt;clear hnil hlt bP;have hi:=HHI.out;gi_wp2_with (gi_at_builtin;refine wpListIn_append_own _ rfl _ _ 48 rfl (w.heap.size+1) 118 i0 _ 3 32 underlying48 hi hz0 hzs hzb rfl (by decide) _ _ _ rfl (hrow.alloc _) ⟨W.heap.size,0,none⟩ 1 1 (recV x) rfl rfl (fun j u hu=>by rw[z1P,zi8,(Blk.new W 118 #[.int .i64 x.at_,.int .i64 x.kind,.string x.data]).cells];simpa[recV]using hu) (by intro u hu;simp[recV]at hu;rcases hu with rfl|rfl|rfl<;>rfl) (by simp only[maxLen];omega) (by omega) (by simp;omega) ?_;intro v' w2 hown' hgrow _;obtain⟨g',cap',rfl⟩:=ownsRow_succ hown';obtain⟨hv1,hv2,hr2,hk2,hb2⟩:=z5m hv hrow (by omega) (by omega) hown' hgrow;have hc1:=hv1.cell;have hf1:=hv1.frozen)
   exact⟨hk2.from _,hk2.walks,⟨_,hv2,by simpa using hr2,by simp⟩,hK.trans hb2⟩
  case done=>
   rintro D xs W hD hp ⟨hbox,hK⟩ hKd;exact⟨.inl rfl,D,rfl,hKd,by omega,xs,hp,hbox,hK⟩
  case stop=>exact fun _ _ _ _ _ _ hF _=>hF.elim
 case after=>
  rintro D W ⟨hKd,hD,xs,hp,⟨v,hv,hrow,hnil⟩,hK⟩;obtain⟨av,cv,rfl⟩:=z0G hrow;have hc:=hv.cell;have hf:=hv.frozen;have HN:=zhs hnil;clear hnil;go_wp2
  refine z4G (.slice av xs.length cv) hKd (by simp[results,results202,go_sem]) ?_
  refine⟨_,xs,rfl,hp,z0D (ownsRow_putObj hrow _ hKd rfl) (by omega),HN.out,?_⟩
  have h1:Below w.heap.size w W:=B1.trans (hK.toBelow (by omega) (by simp))
  exact z4d h1 (by omega)
theorem z8H (Bs b:Nat)(rs:List Rec)(hrs:rs.length≤1000)(E:DataW Unit)(hE:RecMap E rs)(w:World)(bB:Blk w Bs 146 #[.map (some b)])(hown:w.ownsMap prog 3 recR b rs.length E):
  Calls prog 141 #[.func (.func 203) #[] #[.pointer (some ⟨Bs,0,none⟩)]] w (zaW rs w):=by
 have h:=z73 Bs b rs hrs E hE w bB hown;go_enter func141,ntmps141
 go_wp2_with fail
 refine h.mono ?_;rintro e w1 ⟨v,xs,rfl,h1⟩;go_wp2_with fail
 go_ret
 exact⟨v,xs,rfl,h1⟩
def Tryz.sortRec_ren:Go.Shelf.Ren:=⟨fun | 6=>143 | 15=>205 | 14=>204 | 28=>237 | 29=>238 | 20=>229 | 21=>230 | 22=>231 | 23=>232 | 24=>233 | 25=>234 | 26=>235 | 27=>236 | 46=>247 | 47=>248 | 48=>249 | 49=>250 | 50=>251 | 57=>254|n=>n,fun | 22=>48 | 24=>118 | 25=>227 | 3=>3 | 39=>281 | 0=>0 | 53=>188 | 55=>315 | 4=>4 | 46=>307 | 45=>306 | 50=>311 | 5=>5 | 9=>9 | 66=>319 | 70=>323 | 76=>328 | 77=>329|n=>n,fun|n=>n⟩
theorem Tryz.sortRec:Go.Proofs.SlLaysF0.n6 prog Tryz.sortRec_ren:={
 mixed:=by kernel_rfl
 f6:=⟨Tryz.f143.name,by decide,func143.trans (congrArg some (by kernel_rfl))⟩
 f14:=⟨Tryz.f204.name,by decide,func204.trans (congrArg some (by kernel_rfl))⟩
 f15:=func205.trans (congrArg some (by kernel_rfl))
 f20:=⟨Tryz.f229.name,by decide,func229.trans (congrArg some (by kernel_rfl))⟩
 f21:=⟨Tryz.f230.name,by decide,func230.trans (congrArg some (by kernel_rfl))⟩
 f22:=⟨Tryz.f231.name,by decide,func231.trans (congrArg some (by kernel_rfl))⟩
 f23:=⟨Tryz.f232.name,by decide,func232.trans (congrArg some (by kernel_rfl))⟩
 f24:=⟨Tryz.f233.name,by decide,func233.trans (congrArg some (by kernel_rfl))⟩
 f25:=⟨Tryz.f234.name,by decide,func234.trans (congrArg some (by kernel_rfl))⟩
 f26:=⟨Tryz.f235.name,by decide,func235.trans (congrArg some (by kernel_rfl))⟩
 f27:=⟨Tryz.f236.name,by decide,func236.trans (congrArg some (by kernel_rfl))⟩
 f28:=func237.trans (congrArg some (by kernel_rfl))
 f29:=func238.trans (congrArg some (by kernel_rfl))
 f46:=⟨Tryz.f247.name,by decide,func247.trans (congrArg some (by kernel_rfl))⟩
 f47:=func248.trans (congrArg some (by kernel_rfl))
 f48:=func249.trans (congrArg some (by kernel_rfl))
 f49:=⟨Tryz.f250.name,by decide,func250.trans (congrArg some (by kernel_rfl))⟩
 f50:=⟨Tryz.f251.name,by decide,func251.trans (congrArg some (by kernel_rfl))⟩
 f57:=⟨Tryz.f254.name,by decide,func254.trans (congrArg some (by kernel_rfl))⟩
 t0:=underlying0
 a0:=Tryz.isAgg0
 z0:=Tryz.sizeOf0
 v0:=Tryz.zeroValue0
 t3:=underlying3
 a3:=Tryz.isAgg3
 z3:=Tryz.sizeOf3
 v3:=Tryz.zeroValue3
 t4:=underlying4
 a4:=Tryz.isAgg4
 z4:=Tryz.sizeOf4
 v4:=Tryz.zeroValue4
 t5:=underlying5
 a5:=Tryz.isAgg5
 z5:=Tryz.sizeOf5
 v5:=Tryz.zeroValue5
 t9:=underlying9
 a9:=Tryz.isAgg9
 z9:=Tryz.sizeOf9
 v9:=Tryz.zeroValue9
 t22:=underlying48
 a22:=Tryz.isAgg48
 z22:=Tryz.sizeOf48
 v22:=Tryz.zeroValue48
 t25:=underlying227
 a25:=Tryz.isAgg227
 z25:=Tryz.sizeOf227
 v25:=Tryz.zeroValue227
 t39:=underlying281
 a39:=Tryz.isAgg281
 z39:=Tryz.sizeOf281
 v39:=Tryz.zeroValue281
 t45:=underlying306
 a45:=Tryz.isAgg306
 z45:=Tryz.sizeOf306
 v45:=Tryz.zeroValue306
 t46:=underlying307
 a46:=Tryz.isAgg307
 z46:=Tryz.sizeOf307
 v46:=Tryz.zeroValue307
 t50:=underlying311
 a50:=Tryz.isAgg311
 z50:=Tryz.sizeOf311
 v50:=Tryz.zeroValue311
 t53:=underlying188
 a53:=Tryz.isAgg188
 z53:=Tryz.sizeOf188
 v53:=Tryz.zeroValue188
 t55:=underlying315
 a55:=Tryz.isAgg315
 z55:=Tryz.sizeOf315
 v55:=Tryz.zeroValue315
 t66:=underlying319
 a66:=Tryz.isAgg319
 z66:=Tryz.sizeOf319
 v66:=Tryz.zeroValue319
 t70:=underlying323
 a70:=Tryz.isAgg323
 z70:=Tryz.sizeOf323
 v70:=Tryz.zeroValue323
 t76:=underlying328
 a76:=Tryz.isAgg328
 z76:=Tryz.sizeOf328
 v76:=Tryz.zeroValue328
 t77:=underlying329
 a77:=Tryz.isAgg329
 z77:=Tryz.sizeOf329
 v77:=Tryz.zeroValue329 }
structure BRec where
 val:Rec
 ok:0≤val.at_∧val.at_≤100000
instance:Inhabited BRec:=⟨⟨⟨0,0,⟨#[]⟩⟩,by decide⟩⟩
def encB (x:BRec):List Value:=[.int .i64 x.1.at_,.int .i64 x.1.kind,.string x.1.data]
def cfB (x y:BRec):Int:=x.1.at_ - y.1.at_
theorem swoB:SWO (ltOf cfB) where
 irrefl x:=by unfold ltOf cfB;simp
 trans x y z h1 h2:=by unfold ltOf cfB at *;simp at *;omega
 ntrans x y z h1 h2:=by unfold ltOf cfB at *;simp at *;omega
theorem zgj (x y:BRec)(W:World):Calls prog 144 #[.agg #[.int .i64 x.1.at_,.int .i64 x.1.kind,.string x.1.data],.agg #[.int .i64 y.1.at_,.int .i64 y.1.kind,.string y.1.data]] W fun e w'=>e=.returned (.int .i64 (cfB x y))∧∃q os',w'=grow (W.drewN q) os':=by
 have hx:=x.2;have hy:=y.2;have hw:IntKind.i64.wrap (x.1.at_ - y.1.at_)=x.1.at_ - y.1.at_:=by rw[IntKind.wrap_i64];omega
 have HC:Hid (cfB x y=x.1.at_ - y.1.at_):=zhs rfl;generalize cfB x y=r at *;go_enter func144,ntmps144
 go_wp2_with fail
 go_ret
 exact⟨by rw[HC.out];rfl,0,_,by rw[alloc_eq_grow,alloc_eq_grow,grow_grow];rfl⟩
theorem zfc:∀w,(isAgg 118).run prog w=.ok true w:=fun _=>by kernel_rfl
theorem zg7:∀w,(Go.sizeOf 118).run prog w=.ok 3 w:=fun _=>by kernel_rfl
theorem ze6 {d d':Array BRec}(hp:PermIn 0 d.size d d')(hs:SortedIn (ltOf cfB) 0 d.size d'):(d'.toList.map (·.1)).Perm (d.toList.map (·.1))∧(d'.toList.map (·.1)).Pairwise (fun a b:Rec=>a.at_≤b.at_)∧d'.size=d.size:=by
 obtain⟨h1,-,h3⟩:=hp;have e1:d'.extract 0 d.size=d':=by rw[←h1,Array.extract_size]
 have e2:d.extract 0 d.size=d:=Array.extract_size;rw[e1,e2]at h3;refine⟨h3.map _,?_,h1⟩
 refine List.pairwise_map.2 (List.pairwise_iff_getElem.2 fun i j hi hj hij=>?_)
 have h:=hs i j (zi9 _) hij (by simpa[h1]using hj)
 have hi':i<d'.size:=by simpa using hi
 have hj':j<d'.size:=by simpa using hj
 rw[getElem!_pos d' i hi',getElem!_pos d' j hj']at h;unfold ltOf cfB at h;simp at h
 simp only[Array.getElem_toList];omega
theorem z5M {w:World}{g:Nat}{cur:Array Value}{e:TypeId}{F:Array Value}(hb:w.heap[g]?=some (.cells cur e (0,0)))(ht:cur.toList.take F.size=F.toList):Holds id w g 0 F:=by
 intro j hj;refine⟨?_,by simp[World.frozen?,hb]⟩
 have h1:(cur.toList.take F.size)[j]?=F.toList[j]?:=by rw[ht]
 rw[List.getElem?_take_of_lt hj]at h1;simp only[World.cell?,hb,zi8];simp only[Option.isSome_none,Bool.false_eq_true,if_false];rw[←Array.getElem?_toList,h1];simp[hj]
theorem z8x {w:World}{g n:Nat}{os:Array Obj}{cur:Array Value}{e:TypeId}{fr:Nat × Nat}(F:Array Value)(hb:w.heap[g]?=some (.cells cur e fr)):
  (grow (putRow id (Sort.ahead w n) g 0 F) os).heap[g]?=some (.cells (putCells id 0 F cur) e fr):=by
 have hg:g<w.heap.size:=(zhW.1 hb).1;rw[heap_grow_old _ _ (by simpa using hg)]
 simp[putRow,mapBlock,Sort.ahead,Array.getElem?_modify,hb,onCells]
theorem z6d {w:World}{g n:Nat}{os:Array Obj}(F:Array Value):w.grownBy (grow (putRow id (Sort.ahead w n) g 0 F) os) (some g):=by
 refine⟨rfl,rfl,rfl,by simp,fun k hk hne=>?_⟩
 rw[heap_grow_old _ _ (by simpa using hk)]
 have:g≠k:=fun e=>hne (by rw[e])
 simp[putRow,mapBlock,Sort.ahead,Array.getElem?_modify,this]
theorem z79 (cur F:Array Value)(h:F.size≤cur.size):(putCells id 0 F cur).toList.take F.size=F.toList:=by
 apply List.ext_getElem?
 intro j;by_cases hj:j<F.size
 ·rw[List.getElem?_take_of_lt hj,Array.getElem?_toList];simp[putCells,hj,show j<cur.size by omega]
 ·rw[List.getElem?_take_eq_none (by omega),List.getElem?_eq_none (by simpa using hj)]
theorem z47 {α:Type}{f:α→List Value}{m:Nat}:∀ {l:List α},(∀s∈l,(f s).length=m)→(l.flatMap f).length=l.length*m
 | [],_=>by simp
 | x::t,h=>by
  rw[zhN,zhF,h x (by simp),z47 (fun s hs=>h s (zhJ _ hs)),zhO,Nat.add_mul,Nat.one_mul,Nat.add_comm]
theorem zgL (d:Array BRec):(flatK encB 3 d).toList=(d.toList.map (·.1)).flatMap recV:=by
 apply List.ext_getElem?
 intro t;have hl:((d.toList.map (·.1)).flatMap recV).length=d.size*3:=by rw[z47 (f:=recV) (m:=3) (fun _ _=>rfl)];simp
 by_cases ht:t<d.size*3
 ·have h1:=get_flatK encB 3 d t ht;have hq:t / 3<d.size:=by omega
  have hs:t<(flatK encB 3 d).size:=by rw[size_flatK];exact ht
  rw[getElem!_pos _ t hs,getElem!_pos d (t / 3) hq]at h1;have h2:=z1r (f:=recV) (m:=3) (fun _ _=>rfl) (i:=t / 3) (j:=t % 3) (by omega) (show t / 3<(d.toList.map (·.1)).length by simpa using hq)
  rw[show t / 3*3+t % 3=t by omega]at h2
  rw[h2,Array.getElem?_toList,Array.getElem?_eq_getElem hs,h1];have hq2:t / 3<(d.toList.map (·.1)).length:=by simpa using hq
  have e:recV ((d.toList.map (·.1))[t / 3]'hq2)=encB d[t / 3]:=by simp[encB,recV]
  rw[e,zhx (show t % 3<(encB d[t / 3]).length by show t % 3<3;omega),getElem!_pos]
 ·rw[List.getElem?_eq_none (by simpa using ht),List.getElem?_eq_none (by rw[hl];omega)]
def zfq (base g cap:Nat)(xs:List Rec)(w:World)(e:Ending)(w':World):Prop:=
 e=.returned (.tuple #[])∧∃ys:List Rec,ys.Perm xs∧ys.Pairwise (fun a b:Rec=>a.at_≤b.at_)∧w'.ownsRow base 118 3 (.slice (some ⟨g,0,none⟩) ys.length cap) ys.length (ys.flatMap recV)∧w.grownBy w' (some g)
theorem zea (base g cap:Nat)(xs:List Rec)(hl0:xs.length≤1000)(hx:∀r∈xs,0≤r.at_∧r.at_≤100000)(w:World)(ho:w.ownsRow base 118 3 (.slice (some ⟨g,0,none⟩) xs.length cap) xs.length (xs.flatMap recV)):
  Calls prog 143 #[.slice (some ⟨g,0,none⟩) xs.length cap,.func (.func 144) #[] #[]] w (zfq base g cap xs w):=by
 obtain⟨d,hd⟩:∃d:Array BRec,d.toList.map (·.1)=xs:=by
  refine⟨(xs.attach.map fun r=>(⟨r.1,hx r.1 r.2⟩:BRec)).toArray,?_⟩
  show List.map (fun x:BRec=>x.1) (xs.attach.map fun r=>(⟨r.1,hx r.1 r.2⟩:BRec))=xs
  rw[List.map_map];exact List.attach_map_subtype_val xs
 have hsz:d.size=xs.length:=by rw[←hd];simp
 rcases ho.2 with ⟨h0,_⟩|⟨g',cap',cur,hv,hbase,hb,hnc,hcm,hcs,ht⟩
 ·simp at h0
 simp only[Value.slice.injEq,Option.some.injEq,Addr.mk.injEq,and_true,true_and]at hv;obtain⟨rfl,rfl⟩:=hv;have hF:(flatK encB 3 d).toList=xs.flatMap recV:=by rw[zgL,hd]
 have hFs:(flatK encB 3 d).size=xs.length*3:=by rw[size_flatK,hsz]
 have hH:HoldsK encB 3 w g 0 d:=z5M hb (by rw[hFs,hF];exact ht)
 have eg:∀args w,(callFunc 144 args).run prog w=.ok (.enter 144 args) w:=enters_of func144 (by kernel_rfl) rfl
 have hblk:g<w.heap.size:=(zhW.1 hb).1;have hcon:=AnyQ.slices_SortFunc Tryz.sortRec 3 zfc zg7 encB (fun _=>rfl) (fun x v hv=>by simp[encB]at hv;rcases hv with rfl|rfl|rfl<;>rfl) cfB swoB 144 #[] g 0 cap d w eg (fun _ _ _ _ x y=>zgj x y _) hH hblk (by omega)
 rw[hsz]at hcon;refine Calls.mono hcon ?_;rintro e w' ⟨rfl,d',n,os,hp,hs,rfl⟩;rw[←hsz]at hp hs;obtain⟨k1,k2,k3⟩:=ze6 hp hs;rw[hd]at k1;have hl:(d'.toList.map (·.1)).length=xs.length:=k1.length_eq;have hFs':(flatK encB 3 d').size=xs.length*3:=by rw[size_flatK,k3,hsz]
 refine⟨rfl,d'.toList.map (·.1),k1,k2,⟨?_,.inr ⟨g,cap,_,by rw[hl],hbase,z8x _ hb,by rw[hl];exact hnc,hcm,by simp[putCells,hcs],?_⟩⟩,z6d _⟩
 ·rw[z47 (f:=recV) (m:=3) (fun _ _=>rfl)]
 ·rw[hl,←hFs',z79 _ _ (by rw[hFs',hcs];exact Nat.mul_le_mul_right _ hnc),zgL]
theorem z6p {y:TxS}(hc:y.Clean){zs ys:List Rec}(hz:zs.Perm (y.writes++if y.changed then [y.bmap]else []))(hp:ys.Perm zs)(hs:ys.Pairwise (fun a b:Rec=>a.at_≤b.at_)):ys=y.recs:=
 zfr (zar hc) hs ((hp.trans hz).trans (z2C hc).symm)
theorem z8k {P:Program}{w w':World}{o:Oper}{a:Act}{K:Act→World→Prop}{Q:Exit→Act→World→Prop}(s x:Operand)(t:TypeId)
  (ho:o.op=.call { callee:=.builtin .append,args:=#[s,x],argTypes:=#[t,t] }) (v X v':Value) (hs:a.eval s=v) (hx:a.eval x=X)
  (hrun:(Builtin.append_ #[t,t] o.type #[v,X]).run P w=.ok v' w') (h:K (a.put o.dst v') w'):o.wp P a w K Q:=by
 unfold Oper.wp execOp;simp only[ho,resolve,invoke,builtin,Sem.run_bind,Sem.run_pure,Result.andThen_ok,List.map_toArray,zhY,zhZ,hs,hx,hrun];exact h
theorem z49 (tv:Value)(E:Int)(w:World)(h:StE w tv E)(hE:E≠0):
  Calls prog 64 #[tv] w fun e w'=>e=.returned (.tuple #[.slice none 0 0,.int .i64 E])∧Below w.heap.size w w':=by
 have hst:=z19 tv E w h;have hE':(E != 0)=true:=by simpa using hE
 clear h hE;go_enter func64,ntmps64
 go_wp2_with fail
 refine hst.mono ?_;rintro e w1 ⟨rfl,hb1⟩;go_wp2_with fail
 go_ret2
 exact⟨rfl,hb1⟩
def zaF (y:TxS)(w:World)(e:Ending)(w':World):Prop:=
 ∃v,e=.returned (.tuple #[v,.int .i64 0])∧w'.ownsRow w.heap.size 118 3 v y.recs.length (y.recs.flatMap recV)∧Below w.heap.size w w'
theorem zaB (base:Nat)(v:Value)(zs:List Rec)(hl0:zs.length≤1000)(hz:∀r∈zs,0≤r.at_∧r.at_≤100000)(w:World)(hbz:base≤w.heap.size)(ho:w.ownsRow base 118 3 v zs.length (zs.flatMap recV)):
  Calls prog 143 #[v,.func (.func 144) #[] #[]] w fun e w'=>e=.returned (.tuple #[])∧∃ys:List Rec,ys.Perm zs∧ys.Pairwise (fun a b:Rec=>a.at_≤b.at_)∧w'.ownsRow base 118 3 v ys.length (ys.flatMap recV)∧Below base w w':=by
 rcases Nat.eq_zero_or_pos zs.length with h0|h0
 ·obtain rfl:=List.eq_nil_of_length_eq_zero h0;obtain⟨A,c,rfl⟩:=z0G ho;refine Calls.mono (AnyF.slices_SortFunc_none Tryz.sortRec A c _ w) ?_;rintro e w' ⟨rfl,rfl⟩;exact⟨rfl,[],List.Perm.refl _,List.Pairwise.nil,ho,zho _ _⟩
 ·obtain⟨g,cap,rfl,hg,_⟩:=z2f ho h0;refine(zea base g cap zs hl0 hz w ho).mono ?_;rintro e w' ⟨rfl,ys,h1,h2,h3,h4⟩;refine⟨rfl,ys,h1,h2,by rw[h1.length_eq]at h3 ⊢;exact h3,(zho base w).grown h4 hbz (fun k e=>by cases e;exact hg)⟩
theorem z7A (T:Nat)(F:List Nat)(D:Nat)(y:TxS)(w:World)(h:TxAt w T F D y)(hc:y.Clean)(hE:y.stateE=0):
  Calls prog 64 #[.pointer (some ⟨T,0,none⟩)] w (zaF y w):=by
 have hst:=z19 _ _ w h.st;rw[hE]at hst;obtain⟨ok,⟨M,wv,nv,bT,hT,hM,hMT,⟨E,hRM,hO⟩,hw,⟨A,cn,rfl,hRd,hA⟩⟩,lt⟩:=h;have hbd:=z10 ok.rg;have hlen:y.writes.length≤80:=by have:=ok.len;unfold TxS.left TxS.most at this;split at this<;>omega
 have hnl:y.now.length≤1000:=by rw[ok.now];have:=(z3R ok.rg).2.2.2.2;omega
 have HCK:=zhs (z7t ok);have hrec:∀r∈y.writes,0≤r.at_∧r.at_≤100000:=fun r hr=>by have:=ok.recs r hr;omega
 have HREC:=zhs hrec;have hbm:0≤y.bmap.at_∧y.bmap.at_≤100000:=by show 0≤1+y.j∧1+y.j≤100000;omega
 have HBM:=zhs hbm;have HNL:=zhs hnl;have HC:=zhs hc;have hSof:∀W:World,Below w.heap.size w W→W.cell? ⟨T,13,none⟩=some (.int .i64 y.s)∧W.cell? ⟨T,14,none⟩=some (.int .i64 y.j)∧W.cell? ⟨T,15,none⟩=some (.int .i64 y.i)∧W.cell? ⟨T,16,none⟩=some (.slice A y.now.length cn):=fun W hb=>⟨((bT.belowAll hb).cells 13).trans rfl,((bT.belowAll hb).cells 14).trans rfl,((bT.belowAll hb).cells 15).trans rfl,((bT.belowAll hb).cells 16).trans rfl⟩
 have HS:=zhs hSof;clear hSof;clear hrec hbm hc hw hA lt ok hE hbd hnl;unfold zaF;go_enter func64,ntmps64
 go_wp2_with fail
 refine hst.mono ?_;rintro e w1 ⟨rfl,hb1⟩;have bT1:=bT.belowAll hb1;have hO1:=z0j hO (hb1.block M hO.lt);have c17:w1.cell? ⟨T,17,none⟩=some (.map (some M)):=(bT1.cells 17).trans rfl;have lT:=bT1.lt;clear hst hO bT;go_wp2_with fail
 refine(zcw (some M) w1).mono ?_;rintro e w2 ⟨rfl,hw2⟩;have bB:Blk w2 w1.heap.size 146 #[.map (some M)]:=by rw[hw2];exact Blk.new _ _ _
 have B2:Below w1.heap.size w1 w2:=by rw[hw2];exact(zho _ _).alloc (zhT _) _
 have hO2:=z0j hO1 (B2.block M hO1.lt);clear hw2 c17 lT;go_wp2_with fail
 refine(z8H w1.heap.size M y.writes (by omega) E hRM w2 bB hO2).mono ?_
 rintro e w3 ⟨v,xs,rfl,hp,ho,-,hb3⟩;have B13:Below w1.heap.size w1 w3:=B2.trans (hb3.mono B2.size);have B3:Below w.heap.size w w3:=hb1.trans (B13.mono hb1.size);have z3:w.heap.size≤w2.heap.size:=zhS hb1.size B2.size;have ho3:=z0D ho z3;have bT3:=bT1.belowAll B13;have hRd3:=hRd.below B3;have hxl:xs.length=y.writes.length:=hp.length_eq;clear bB hO2 hO1 bT1 hRM ho hb3 B2 B13 hRd;have c18:w3.cell? ⟨T,18,none⟩=some (.bool y.changed):=(bT3.cells 18).trans rfl;have lT:=bT3.lt;cases hch:y.changed
 ·rw[hch]at c18;have HP:Hid (xs.Perm (y.writes++if y.changed then [y.bmap]else [])):=zhs (by rw[hch];simpa using hp)
  have HX:Hid (∀r∈xs,0≤r.at_∧r.at_≤100000):=zhs fun r hr=>HREC.out r (hp.mem_iff.1 hr)
  have hx80:xs.length≤80:=by omega
  clear hp hxl hlen;go_wp2_with fail
  refine(zaB w.heap.size v xs (by omega) HX.out w3 B3.size ho3).mono ?_
  rintro e w4 ⟨rfl,ys,k1,k2,ho4,hb4⟩;obtain rfl:=z6p HC.out HP.out k1 k2;have B4:=B3.trans hb4;clear c18 k1 k2;go_wp2_with fail
  go_ret2
  exact⟨v,rfl,ho4,B4⟩
 ·have c18':=c18;rw[hch]at c18';clear c18;have HP:Hid ((xs++[y.bmap]).Perm (y.writes++if y.changed then [y.bmap]else [])):=zhs (by rw[hch];exact hp.append_right _)
  have HX:Hid (∀r∈xs++[y.bmap],0≤r.at_∧r.at_≤100000):=zhs fun r hr=>by
   rcases zi0.1 hr with hr|hr
   ·exact HREC.out r (hp.mem_iff.1 hr)
   ·simp at hr;subst hr;exact HBM.out
  have hx80:xs.length≤80:=by omega
  clear hp hxl hlen;go_wp2_with fail
  clear c18' lT;refine z06 [.take 0,.take 1,.take 2,.take 3,.take 4,.take 5,.take 6,.take 7,.one 8,.one 9,.one 10,.one 11] 12 (fun w'=>w'.cell? ⟨T,13,none⟩=some (.int .i64 y.s)∧w'.cell? ⟨T,14,none⟩=some (.int .i64 y.j)∧w'.cell? ⟨T,15,none⟩=some (.int .i64 y.i)∧w'.cell? ⟨T,16,none⟩=some (.slice A y.now.length cn)) (by kernel_rfl) (by kernel_rfl) (fun _ _ _ _ _ h=>h) (HS.out _ B3.drew) ?_
  simp only[zhY,zhZ,Ms.fill,zhy,zhz];iterate 8 (refine z04 (by rfl) ?_ (fun w' hw'=>?_) ?_;rotate_left;(focus (go_simp;(try with_reducible rfl)));(try simp only[Act.put,zht,zhu,zhv]))
  refine z05 (by rfl) fun K hK=>?_
  go_simp;refine(z51 T 148 _ (1+y.j) y.s y.j y.i A cn y.now HNL.out HCK.out w3.drew bT3.drew rfl (hRd3.below (zho _ _).drew)).mono ?_;rintro e w4 ⟨rfl,hb4⟩;have B34:Below w3.heap.size w3 w4:=(zho _ _).drew.trans hb4;have B4:Below w.heap.size w w4:=B3.trans (B34.mono B3.size);have ho4:=z0a ho3 B34;refine hK _ _ (fun _=>HS.out _ B4) ?_
  clear hK K hb4 ho3 bT3 hRd3 B34;refine z05 (by rfl) fun K hK=>?_
  go_simp;obtain⟨w5,hw5⟩:∃w5,w5=w4.alloc (.cells #[.int .i64 (1+y.j),.int .i64 5,.string (mapS y.now)] 118):=⟨_,rfl⟩;have b5:Blk w5 w4.heap.size 118 #[.int .i64 (1+y.j),.int .i64 5,.string (mapS y.now)]:=by rw[hw5];exact Blk.new _ _ _
  have B45:Below w4.heap.size w4 w5:=by rw[hw5];exact(zho _ _).alloc (zhT _) _
  rw[←hw5];clear hw5;have B5:Below w.heap.size w w5:=B4.trans (B45.mono B4.size);have ho5:=z0a ho4 B45;refine hK _ _ (fun _=>HS.out _ B5) ?_
  clear hK K ho4;refine z05 (by rfl) fun K hK=>?_
  obtain⟨iD,hiD,hiz,his,hib8⟩:=info_parts Tryz.infoRec;obtain⟨v6,w6,hrun,ho6,hg6,-⟩:=run_append_own_at (P:=prog) w5 w.heap.size 48 48 118 iD _ 3 32 underlying48 hiD hiz his hib8 rfl (by omega) _ _ _ ho5 ⟨w4.heap.size,0,none⟩ 1 1 (recV y.bmap) rfl (fun j u hu=>by rw[z1P,zi8,b5.cells];simpa[recV,TxS.bmap]using hu) (by intro u hu;simp[recV]at hu;rcases hu with rfl|rfl|rfl<;>rfl) (by simp only[maxLen];omega) (by omega) B5.size
  have B6:Below w.heap.size w w6:=B5.grown hg6 B5.size (fun k hk=>(ho5.lt k hk).1)
  refine z8k _ _ 48 rfl _ _ v6 rfl rfl hrun ?_;refine hK _ _ (fun _=>HS.out _ B6) ?_
  clear hK K hrun;refine z05 (by rfl) fun K hK=>?_
  go_simp;refine hK _ _ (fun _=>HS.out _ B6) ?_
  clear hK K;refine z0f ?_;have ho7:w6.ownsRow w.heap.size 118 3 v6 (xs++[y.bmap]).length ((xs++[y.bmap]).flatMap recV):=by
   rw[zhF,List.flatMap_append];simpa using ho6
  clear ho6 ho5 hg6 b5 B45 B4 B5;go_wp2_with fail
  refine(zaB w.heap.size v6 (xs++[y.bmap]) (by simp;omega) HX.out w6 B6.size ho7).mono ?_
  rintro e w7 ⟨rfl,ys,k1,k2,ho8,hb8⟩;obtain rfl:=z6p HC.out HP.out k1 k2;have B8:=B6.trans hb8;clear k1 k2 ho7;go_wp2_with fail
  go_ret2
  exact⟨v6,rfl,ho8,B8⟩
theorem z95 (tv:Value)(E:Int)(w:World)(h:StE w tv E)(hE:E≠0):
  Calls prog 16 #[tv] w fun e w'=>e=.returned (.int .i64 E)∧Below w.heap.size w w':=by
 have hst:=z49 tv E w h hE;have hE':(E != 0)=true:=by simpa using hE
 clear h hE;go_enter func16,ntmps16
 go_wp2_with fail
 refine hst.mono ?_;rintro e w1 ⟨rfl,hb1⟩;go_wp2_with fail
 go_ret
 exact⟨rfl,hb1⟩
theorem Reads.of_own3 {w:World}{base:Nat}{e:TypeId}{A:Option Addr}{n c:Nat}{xs:List Value}(h:w.ownsRow base e 3 (.slice A n c) n xs):Reads w A xs:=by
 obtain⟨h1,h2⟩:=h;rcases h2 with ⟨_,h2⟩|⟨g,cap,cur,hv,hg,hh,h3,h4,h5,h6⟩
 ·left;subst h2;simpa using h1
 ·right
  simp only[Value.slice.injEq]at hv;refine⟨g,0,hv.1,?_,fun j u hu=>?_⟩
  ·exact(zhW.1 hh).1
  ·rw[cell_of_row w g (0+j) cur e (0,0) hh];rw[←h6,List.getElem?_take]at hu;split at hu
   ·simpa using hu
   ·simp at hu
def TxS.commit (y:TxS)(x:DevS):Int × DevS:=if y.recs=[]then (0,x)else x.commit 1 y.j y.recs
def TxS.end_ (y:TxS):TxS:={ y with ended:=true }
def z8q (w:World)(T:Nat)(F:List Nat)(D:Nat)(y:TxS)(B:List Nat)(x:DevS)(e:Ending)(w':World):Prop:=
 e=.returned (.int .i64 (y.commit x).1)∧∃B',TD w' T F D y.end_ B' (y.commit x).2∧Grow w (F++B) w' (F++B')
theorem ze4 {y:TxS}(ok:y.Ok)(hc:y.Clean):z37 y.recs:=by
 have hbd:=z10 ok.rg;refine⟨by rw[z28 hc];have:=ok.len;unfold TxS.left TxS.most at this;split at this<;>split<;>omega,fun r hr=>?_⟩
 have hr:=(z2C hc).mem_iff.1 hr;rcases zi0.1 hr with hr|hr
 ·have h1:=ok.recs r hr;have h2:=hc.small r hr;exact⟨by omega,by unfold maxLen;omega⟩
 ·split at hr
  ·simp at hr;subst hr;exact⟨by show -9223372036854775808≤1+y.j∧1+y.j≤9223372036854775807;omega,by show (mapS _).size≤maxLen;rw[z20];unfold maxLen;omega⟩
  ·cases hr
theorem z8V (T:Nat)(F:List Nat)(D:Nat)(y:TxS)(B:List Nat)(x:DevS)(w:World)(h:TD w T F D y B x)(hc:y.Clean)(hE:y.stateE=0):
  Calls prog 16 #[.pointer (some ⟨T,0,none⟩)] w (z8q w T F D y B x):=by
 have hrc:=z7A T F D y w h.tx hc hE;have HOK:=zhs (ze4 h.tx.ok hc);have H0:=zhs h;unfold z8q;go_enter func16,ntmps16
 go_wp2_with fail
 refine hrc.mono ?_;rintro e w1 ⟨v,rfl,ho,hb1⟩;have h1:=h.below hb1;obtain⟨av,cv,rfl⟩:=z0G ho;obtain⟨M,wv,nv,bT,hT,-⟩:=h1.tx.mem;have hTB:T∉B:=h1.dis T hT;have hT0:T≠0:=by have:=(h1.tx.lt T hT).1;omega
 have hTw:T<w.heap.size:=(H0.out.tx.lt T hT).2;have h2:TD (w1.setCell ⟨T,20,none⟩ (.bool true)) T F D y.end_ B x:=⟨h1.tx.ended,h1.dev.set_ hTB hT0 _,h1.dis⟩;have g2:Grow w (F++B) (w1.setCell ⟨T,20,none⟩ (.bool true)) (F++B):=(Grow.of_below hb1 _).trans ⟨KeepEx.setCell _ (.inl (by simp[hT])) _,fun _ h=>.inl h⟩
 have ho2:(w1.setCell ⟨T,20,none⟩ (.bool true)).ownsRow w.heap.size 118 3 (.slice av y.recs.length cv) y.recs.length (y.recs.flatMap recV):=ownsRow_setCell_below ho hTw _;have bT2:Blk (w1.setCell ⟨T,20,none⟩ (.bool true)) T 148 (txC D y.s y.j y.i wv nv M y.changed y.broken true):=bT.set_ 20 (.bool true);have lT:=bT.lt;have fT:=bT.free;have c20:w1.cell? ⟨T,20,none⟩=some (.bool y.ended):=(bT.cells 20).trans rfl;obtain⟨w2,hw2⟩:∃w2,w2=w1.setCell ⟨T,20,none⟩ (.bool true):=⟨_,rfl⟩;rw[←hw2]at h2 g2 ho2 bT2;clear hrc h1 bT hb1 ho hE hc h;by_cases h0:y.recs=[]
 ·have HV:Hid (y.commit x=(0,x)):=zhs (by unfold TxS.commit;rw[if_pos h0])
  have hl:y.recs.length=0:=by rw[h0];rfl
  rw[hl];clear h0;go_wp2_with fail
  go_ret
  rw[←hw2];refine⟨by rw[HV.out];rfl,B,by rw[HV.out];exact h2,g2⟩
 ·have HV:Hid (y.commit x=x.commit 1 y.j y.recs):=zhs (by unfold TxS.commit;rw[if_neg h0])
  have hl:((y.recs.length:Int)==0)=false:=by
   have:y.recs.length≠0:=fun e=>h0 (List.eq_nil_of_length_eq_zero e)
   simp;exact h0
  have hAB:∀ad,av=some ad→ad.block∉B:=fun ad e hm=>by
   subst e;have h3:=(z7w ho2 ad.block rfl).1;have h4:=(H0.out.dev.lt _ hm).2;omega
  have HAB:=zhs hAB;have hS:∀W:World,Below w2.heap.size w2 W→W.cell? ⟨T,0,none⟩=some (.pointer (some ⟨D,0,none⟩)):=fun W hb=>((bT2.belowAll hb).cells 0).trans rfl
  have HS:=zhs hS;clear h0 hAB hS;go_wp2_with fail
  rw[←hw2];clear hw2 lT fT c20 hl;refine z06 [.take 0,.take 1,.take 2,.take 3,.take 4,.take 5,.take 6,.take 7,.take 9,.one 8,.one 10,.one 11] 12 (fun w'=>w'.cell? ⟨T,0,none⟩=some (.pointer (some ⟨D,0,none⟩))) (by kernel_rfl) (by kernel_rfl) (fun _ _ _ _ _ h=>h) (HS.out _ (zho _ _).drew) ?_
  simp only[zhY,zhZ,Ms.fill,zhy,zhz];iterate 9 (refine z04 (by rfl) ?_ (fun w' hw'=>?_) ?_;rotate_left;(focus (go_simp;(try with_reducible rfl)));(try simp only[Act.put,zht,zhu,zhv]))
  refine z05 (by rfl) fun K hK=>?_
  go_simp;refine(z3v T 148 _ y.j 1 w2.drew bT2.drew rfl rfl).mono ?_;rintro e w3 ⟨rfl,hb3⟩;have B23:Below w2.heap.size w2 w3:=(zho _ _).drew.trans hb3;have h3:=h2.below B23;have ho3:=z0a ho2 B23;refine hK _ _ (fun _=>HS.out _ B23) ?_
  clear hK K hb3;refine z05 (by rfl) fun K hK=>?_
  go_simp;refine(z7v D 1 y.j B x av cv y.recs HOK.out w3 h3.dev (Reads.of_own3 ho3) HAB.out).mono ?_;rintro e w4 ⟨rfl,B4,hd4,g4⟩;have h4:TxAt w4 T F D y.end_:=h3.tx.grow g4 h3.dis;have hdis:∀b∈F,b∉B4:=fun b hb=>g4.notin (h3.dis b hb) (h3.tx.lt b hb).2
  have hS4:w4.cell? ⟨T,0,none⟩=some (.pointer (some ⟨D,0,none⟩)):=(World.cell?_of_block (w:=w3) (a:=⟨T,0,none⟩) (g4.keep.block T (by have:=B23.size;have:=bT2.lt;omega) (h3.dis T hT))).trans (HS.out _ B23)
  have HS4:=zhs hS4;refine hK _ _ (fun _=>HS4.out) ?_
  clear hK K hS4;refine z05 (by rfl) fun K hK=>?_
  go_simp;refine hK _ _ (fun _=>HS4.out) ?_
  clear hK K;refine z0f ?_;go_wp2_with fail
  go_ret
  refine⟨by rw[HV.out];rfl,B4,by rw[HV.out];exact⟨h4,hd4,hdis⟩,(g2.trans (Grow.of_below B23 _)).trans ⟨?_,fun b hb=>?_⟩⟩
  ·exact KeepEx.widen g4.keep (fun k hk=>zi0.2 (.inr hk))
  ·rcases zi0.1 hb with hb|hb
   ·exact .inl (zi0.2 (.inl hb))
   ·exact(g4.new b hb).imp (fun h=>zi0.2 (.inr h)) id
end Go.Proofs.YtejmknghkbobnaaGreatDoor
