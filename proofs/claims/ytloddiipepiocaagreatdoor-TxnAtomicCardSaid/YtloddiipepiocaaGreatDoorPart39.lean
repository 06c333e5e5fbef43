/- Parts of the proof, put together by program: IA, IB, IC, IL, ID. -/
import Derived.Test.YtloddiipepiocaaGreatDoorPart38
import Derived.Test.YtloddiipepiocaaGreatDoorPart26
import Derived.Test.YtloddiipepiocaaGreatDoorPart16
import Derived.Test.YtloddiipepiocaaGreatDoorPart20
import Derived.Lib.SlKeysI
import Derived.RangeFuncWrites
import Derived.Sort.MapsRangeIn
import Derived.Shelf.SlIterI.Stops
import Derived.RangeFuncNested
import Derived.Shelf.SlLaysF0
import Derived.Test.YtloddiipepiocaaGreatDoorProg
import Derived.Shelf.SlSortCmp.WholeK
set_option linter.unusedVariables false
set_option linter.unusedSimpArgs false
/- Layer 10: what a transaction writes, in plain words. No program in sight. -/
namespace Go.Proofs.YtloddiipepiocaaGreatDoor
open Go.RowKit Go.Maps

def TxS.bmap (y : TxS) : Rec := ⟨1 + y.j, 5, mapS y.now⟩
/-- What Records returns. -/
def TxS.recs (y : TxS) : List Rec := if y.changed then insRec y.writes y.bmap else y.writes
/-- The records that came by Write. -/
structure TxS.Clean (y : TxS) : Prop where
  asc : Asc y.writes
  out : ∀ r ∈ y.writes, r.at_ < 1 ∨ 1 + y.j < r.at_
  small : ∀ r ∈ y.writes, r.data.size ≤ 96
  j0 : 0 ≤ y.j

theorem insRec_perm {l : List Rec} {r : Rec} (h : ∀ x ∈ l, x.at_ ≠ r.at_) : (insRec l r).Perm (r :: l) := by
  induction l with
  | nil => exact List.Perm.refl _
  | cons x t ih =>
    have h1 := h x (by simp)
    unfold insRec
    split
    · exact List.Perm.refl _
    · split
      · omega
      · exact ((ih fun y hy => h y (List.mem_cons_of_mem _ hy)).cons x).trans (List.Perm.swap _ _ _)
theorem asc_perm {l m : List Rec} (hl : Asc l) (hm : m.Pairwise (fun a b => a.at_ ≤ b.at_)) (hp : m.Perm l) : m = l := by
  induction l generalizing m with
  | nil => exact hp.eq_nil
  | cons x t ih =>
    obtain ⟨h1, h2⟩ := List.pairwise_cons.1 hl
    cases m with
    | nil => exact absurd hp.symm.eq_nil (by simp)
    | cons y s =>
      obtain ⟨k1, k2⟩ := List.pairwise_cons.1 hm
      have e : y = x := by
        have hy : y ∈ x :: t := hp.mem_iff.1 (by simp)
        rcases List.mem_cons.1 hy with e | hy
        · exact e
        · have hx : x ∈ y :: s := hp.mem_iff.2 (by simp)
          rcases List.mem_cons.1 hx with e | hx
          · exact e.symm
          · have := h1 y hy; have := k1 x hx; omega
      subst e
      rw [ih h2 k2 ((List.perm_cons _).1 hp)]
theorem recs_asc {y : TxS} (h : y.Clean) : Asc y.recs := by
  unfold TxS.recs
  split
  · exact insRec_asc h.asc _
  · exact h.asc
theorem recs_perm {y : TxS} (h : y.Clean) : y.recs.Perm (y.writes ++ if y.changed then [y.bmap] else []) := by
  unfold TxS.recs
  split
  · refine (insRec_perm fun x hx => ?_).trans ?_
    · have := h.out x hx; have := h.j0; show x.at_ ≠ 1 + y.j; omega
    · exact (List.perm_append_comm (l₁ := [y.bmap]) (l₂ := y.writes))
  · rw [List.append_nil]
theorem recs_length {y : TxS} (h : y.Clean) : y.recs.length = y.writes.length + if y.changed then 1 else 0 := by
  rw [(recs_perm h).length_eq, List.length_append]
  split <;> rfl

/-! How calls turn it. -/
theorem clean_insRec {y : TxS} (h : y.Clean) {r : Rec} (h1 : r.at_ < 1 ∨ 1 + y.j < r.at_) (h2 : r.data.size ≤ 96) : TxS.Clean { y with writes := insRec y.writes r } :=
  ⟨insRec_asc h.asc r, fun x hx => (insRec_mem hx).elim (fun e => e ▸ h1) (h.out x), fun x hx => (insRec_mem hx).elim (fun e => e ▸ h2) (h.small x), h.j0⟩
theorem TxS.Clean.brk {y : TxS} (h : y.Clean) : y.brk.Clean := ⟨h.asc, h.out, h.small, h.j0⟩
theorem TxS.Clean.change {y : TxS} (h : y.Clean) (us : List Bool) (n : Nat) : (y.change us n).Clean := by
  unfold TxS.change
  split
  · exact h
  · split
    · exact h
    · exact ⟨h.asc, h.out, h.small, h.j0⟩
theorem TxS.Clean.write {y : TxS} (h : y.Clean) (a k : Int) (d : ByteArray) : (y.write a k d).2.Clean := by
  unfold TxS.write
  split
  · exact h
  · split
    · exact h.brk
    · rename_i hE
      unfold TxS.writeE at hE
      split at hE
      · exact absurd (by decide) hE
      · split at hE
        · exact absurd (by decide) hE
        · split at hE
          · exact absurd (by decide) hE
          · exact clean_insRec h (by show a < 1 ∨ 1 + y.j < a; omega) (by show d.size ≤ 96; omega)
theorem TxS.Clean.take {y : TxS} (h : y.Clean) (near many : Int) : (y.take near many).2.Clean := by
  unfold TxS.take
  split
  · exact h
  · split
    · exact h.brk
    · exact h.change _ _
theorem TxS.Clean.free {y : TxS} (h : y.Clean) (l : List Int) : (y.free l).2.Clean := by
  unfold TxS.free
  split
  · exact h
  · split
    · exact h.brk
    · exact h.change _ _

end Go.Proofs.YtloddiipepiocaaGreatDoor
/- Layer 10: the records of a map, by maps.Values and slices.Collect. -/
namespace Go.Proofs.YtloddiipepiocaaGreatDoor
open Go.RowKit Go.Maps Go.Shelf Go.Sort

attribute [local go_sem] Oper.semAt_some

/-- What has come of a map's records. -/
structure ValsOf (E : DataW Unit) (rs : List Rec) (left : Lit → Bool) (xs : List Rec) : Prop where
  keys : CollectedI E left (xs.map (·.at_))
  mem : ∀ r ∈ xs, r ∈ rs
theorem asc_inj {l : List Rec} (h : Asc l) {r s : Rec} (hr : r ∈ l) (hs : s ∈ l) (he : r.at_ = s.at_) : r = s := by
  induction l with
  | nil => cases hr
  | cons x t ih =>
    obtain ⟨h1, h2⟩ := List.pairwise_cons.1 h
    rcases List.mem_cons.1 hr with e1 | hr2
    · rcases List.mem_cons.1 hs with e2 | hs2
      · rw [e1, e2]
      · have := h1 s hs2; rw [e1] at he; omega
    · rcases List.mem_cons.1 hs with e2 | hs2
      · have := h1 r hr2; rw [e2] at he; omega
      · exact ih h2 hr2 hs2
theorem asc_nodup {l : List Rec} (h : Asc l) : l.Nodup := h.imp fun {a b} hab he => by subst he; omega
theorem atRec_of_mem {l : List Rec} (h : Asc l) {r : Rec} (hr : r ∈ l) : atRec l r.at_ = some r := by
  cases e : atRec l r.at_ with
  | none => exact absurd rfl (atRec_none e r hr)
  | some s =>
    obtain ⟨h1, h2⟩ := atRec_mem e
    rw [asc_inj h h1 hr h2]
theorem ValsOf.all {E : DataW Unit} {rs : List Rec} {left : Lit → Bool} {xs : List Rec} (h : ValsOf E rs left xs) (hE : RecMap E rs) (hl : ∀ kl, left kl = false) : xs.Perm rs := by
  have hnx : xs.Nodup := (List.pairwise_map.1 h.keys.1).imp fun {a b} hab he => hab (by rw [he])
  refine (List.perm_ext_iff_of_nodup hnx (asc_nodup hE.asc)).2 fun r => ⟨h.mem r, fun hr => ?_⟩
  have h1 : r.at_ ∈ xs.map (·.at_) := (h.keys.2 _).2 ⟨by rw [hE.has_, atRec_of_mem hE.asc hr]; rfl, hl _⟩
  obtain ⟨s, hs, he⟩ := List.mem_map.1 h1
  rwa [asc_inj hE.asc (h.mem s hs) hr he] at hs

abbrev encR (r : Rec) : Value := .agg (recC r)
theorem recR_val {v : Value} {y : DataW Unit × List MemPlace} (h : recR v = some y) : ∃ r, v = encR r ∧ y = (recD r, []) := by
  unfold recR at h
  split at h
  · rename_i a k s
    exact ⟨⟨a, k, s⟩, rfl, (Option.some.inj h).symm⟩
  · cases h

section
variable {F : Fence} {n : Nat}
theorem wpListIn_storeBy {P : Program} {ops : Array Oper} {rest : List Oper} {o : Oper} {a : Act} {w w' : World} {Q : Exit → Act → World → Prop} (hgd : o.guard = none) (ty : TypeId) (x y : Operand) (ho : o.op = .store ty x y) (p v : Value)
    (hx : a.eval x = p) (hy : a.eval y = v) (hrun : (Instr.storeAt ty p v).run P w = .ok () w') (h : wpListIn F n P ops Q rest (a.put o.dst undef) w') : wpListIn F n P ops Q (o :: rest) a w := by
  refine wpListIn_plain hgd fun K hK' => ?_
  unfold Oper.wpIn
  refine ⟨?_, ?_⟩
  · simp [Oper.about, ho]
  · rw [Oper.semAt_plain F _ _ (by rw [ho]; intro c hc'; cases hc')]
    simp [execOp, ho, hx, hy, hrun, Result.andThen]
    exact hK' _ _ h
end
set_option maxRecDepth 100000 in
set_option maxHeartbeats 1000000 in
theorem vals1_in (F : Fence) (n : Nat) (hf : F.fn 176) (hro : F.round = none) (hn : 1 ≤ n) (l Bm b : Nat) (rs : List Rec) (E : DataW Unit) (hE : RecMap E rs) (J Jx : List Rec → World → Prop)
    (hY : ∀ pre x W, J pre W → pre.length < rs.length → YieldAt F (n - 1) Tryz.prog l #[encR x] W fun e W' =>
      (e = .returned (.bool true) ∧ J (pre ++ [x]) W' ∧ KeepsWalks W W') ∨ (e = .returned (.bool false) ∧ Jx (pre ++ [x]) W'))
    (W : World) (hJ : AbidesFrom W.heap.size J) (hm : W.cell? ⟨Bm, 0, none⟩ = some (.map (some b))) (hown : W.ownsMap Tryz.prog 3 recR b rs.length E) (h0 : J [] W) :
    CallsIn F n Tryz.prog 176 #[.func (.yield l) #[] #[], .pointer (some ⟨Bm, 0, none⟩)] W fun e W' => (∃ v, e = .returned v) ∧
      ((∃ xs, xs.Perm rs ∧ J xs W') ∨ (∃ pre, True ∧ Jx pre W')) := by
  refine callsIn_of_wp Tryz.func176 rfl hf ?_ hro
  simp only [Tryz.ntmps176, List.size_toArray, List.length_cons, List.length_nil, Nat.reduceAdd, Nat.reduceSub, Array.replicate_succ, Array.replicate_zero, List.push_toArray, List.append_toArray, List.nil_append, List.cons_append]
  gi_wp2_with (first
    | (gi_at_range; refine wpListIn_range_own _ rfl _ 124 rfl 3 136 keyInt Tryz.underlying124 _ b rs.length _ rfl hown ?_; intro w0 hrg0 hg0 hs0)
    | gi_in)
  go_frame
  gi_loopw [4] (fun _ wr => ∃ (left : Lit → Bool) (cnt : Nat) (xs : List Rec), wr.ranges Tryz.prog 3 recR b W.heap.size rs.length E left cnt ∧ xs.length + cnt ≤ Maps.size E ∧ ValsOf E rs left xs ∧ J xs wr)
    (fun _ wr => wr.rangeLeft b W.heap.size)
  case atStart =>
    exact ⟨_, _, [], hrg0, by simp, ⟨CollectedI.start E, by simp⟩, hJ [] W w0 none h0 hg0 (fun r e => by cases e)⟩
  case round =>
    obtain ⟨left, cnt, xs, hrg, hcs, hC, hJs⟩ := hrel
    gi_wp2_with (first
      | (gi_at_next; refine wpListIn_next_ranges _ rfl _ rfl 3 keyInt recR encZ encR (fun key kl hk => by obtain ⟨x, hx, _⟩ := Maps.keyOf_i64 Tryz.underlying3 hk; exact ⟨x, hx⟩) (fun v y hv => by obtain ⟨r, hr, _⟩ := recR_val hv; exact ⟨r, hr⟩) b W.heap.size rs.length _ _ _ rfl hrg ?_ ?_)
      | gi_in)
    · intro hc0 hl0
      gi_wp2
      go_end0
      exact ⟨⟨_, rfl⟩, .inl ⟨xs, hC.all hE hl0, hJs⟩⟩
    · intro x c kl yd yp w2 cnt2 hkey hlk hv hat hrg2 hlt hg2 hs2 hen
      obtain ⟨x', ex, rfl, _⟩ := Maps.keyOf_i64 Tryz.underlying3 hkey
      obtain rfl : x = x' := encZ_inj ex
      have hyd : yd = recD c := by
        obtain ⟨r, hr, hy⟩ := recR_val hv
        have e1 : yd = recD r := (Prod.mk.inj hy).1
        have e2 : recD c = recD r := by
          have h3 : recR (.agg (recC c)) = recR (.agg (recC r)) := congrArg recR hr
          rw [recR_mk c, recR_mk r] at h3
          exact (Prod.mk.inj (Option.some.inj h3)).1
        rw [e1, e2]
      have hcm : c ∈ rs ∧ c.at_ = x := by
        have h1 := hat (.map [])
        rw [hE.at_, hyd] at h1
        cases e : atRec rs x with
        | none => rw [e] at h1; unfold recD at h1; cases h1
        | some r =>
          rw [e] at h1
          have := recD_inj h1
          subst this
          exact atRec_mem e
      have hJ2 : J xs w2 := hJ xs wr w2 (some W.heap.size) hJs hg2 (fun r e => by cases e; exact ⟨Nat.le_refl _, hrg.iter_walk⟩)
      have hln : xs.length < rs.length := by have := hE.size_; omega
      obtain ⟨W6, hW6⟩ : ∃ W6, W6 = (w2.alloc (.cells #[.int .i64 0, .int .i64 0, .string ⟨#[]⟩] 136)).setRow w2.heap.size #[.int .i64 c.at_, .int .i64 c.kind, .string c.data] := ⟨_, rfl⟩
      have b6 : Blk W6 w2.heap.size 136 #[.int .i64 c.at_, .int .i64 c.kind, .string c.data] := by rw [hW6]; exact (Blk.new _ _ _).setRow
      have B6 : Below w2.heap.size w2 W6 := by rw [hW6]; exact Below.setRow ((Below.refl _ _).alloc (Nat.le_refl _) _) (Nat.le_refl _) _
      have HST : (Instr.storeAt 136 (.pointer (some ⟨w2.heap.size, 0, none⟩)) (.agg #[.int .i64 c.at_, .int .i64 c.kind, .string c.data])).run Tryz.prog (w2.alloc (.cells #[.int .i64 0, .int .i64 0, .string ⟨#[]⟩] 136)) = .ok () W6 := by
        rw [hW6]; exact storeRow (ty := 136) (vs := #[.int .i64 c.at_, .int .i64 c.kind, .string c.data]) (Blk.new _ _ _) rfl (by simp [Value.oneCell']) (by kernel_rfl)
      have hJ6 : J xs W6 := hJ xs w2 W6 none hJ2 ⟨B6.os, B6.tape, B6.output, B6.size, fun k hk _ => B6.block k hk⟩ (fun r e => by cases e)
      have hrg6 := hrg2.of_walks ⟨B6.size, fun k o hk _ => (B6.block k (Array.getElem?_eq_some_iff.1 hk).1).trans hk⟩
      obtain ⟨fn, tmps, assign, body, hy, hR⟩ := hY xs c W6 hJ6 hln
      have hC2 : ValsOf E rs (fun z => left z && !z.sameKey (.int .i64 x)) (xs ++ [c]) :=
        ⟨by rw [List.map_append, List.map_cons, List.map_nil, hcm.2]; exact hC.keys.step hlk hat, fun r hr => (List.mem_append.1 hr).elim (hC.mem r) (fun e => by simp at e; subst e; exact hcm.1)⟩
      have HC2 := Lib.hid hC2
      have c6 := b6.cells
      have l6 := b6.lt
      dsimp only [encR, recC] at hy hen
      clear hs2 hC2 hcm hyd hW6 b6 B6 hJ2 hJ6
      gi_wp2_with (refine wpListIn_storeBy rfl _ _ _ rfl _ _ rfl rfl HST ?_)
      refine hR.mono ?_
      clear c6 l6
      rintro e W3 (⟨rfl, hJ3, hk3⟩ | ⟨rfl, hJx3⟩)
      · gi_wp2
        have hrg3 := hrg6.of_walks hk3
        go_roundw
        case rel => exact ⟨_, cnt2, xs ++ [c], hrg3, by simp; omega, HC2.out, hJ3⟩
        case measure => rw [hrg3.left_eq, hrg.left_eq]; exact hlt
      · gi_wp2
        refine bodyPost_ret (results_none rfl _ _ _) rfl ?_
        exact ⟨⟨_, rfl⟩, .inr ⟨_, trivial, hJx3⟩⟩

theorem vals_stops (F : Fence) (n : Nat) (hf : F.fn 176) (hro : F.round = none) (hn : 1 ≤ n) (Bm b : Nat) (rs : List Rec) (E : DataW Unit) (hE : RecMap E rs) (w : World) (hBm : Bm < w.heap.size)
    (hm : w.cell? ⟨Bm, 0, none⟩ = some (.map (some b))) (hown : w.ownsMap Tryz.prog 3 recR b rs.length E) :
    SeqStopsK F n Tryz.prog 176 #[.pointer (some ⟨Bm, 0, none⟩)] (fun r => #[encR r]) KeepsWalks (fun xs => xs.Perm rs) (fun _ => True) rs.length w := fun l J Jx W hW hJ _ hY h0 =>
  vals1_in F n hf hro hn l Bm b rs E hE J Jx hY W hJ ((hW.cell (p := ⟨Bm, 0, none⟩) hBm).trans hm) (map_block hown (hW.block b hown.lt)) h0

set_option maxHeartbeats 400000 in
theorem values_any (mb : Option Nat) (w : World) :
    Calls Tryz.prog 132 #[.map mb] w fun e w' => e = .returned (.func (.func 176) #[] #[.pointer (some ⟨w.heap.size, 0, none⟩)]) ∧ w' = w.alloc (.cells #[.map mb] 124) := by
  have hmf : ∀ (fn : Fn) (first cap : Array Value) (w : World), (Instr.makeFunc fn first cap).run Tryz.prog w = .ok (.func fn first cap) w := fun _ _ _ _ => rfl
  go_enter Tryz.func132, Tryz.ntmps132
  go_wp2
  go_ret
  exact ⟨rfl, rfl⟩

end Go.Proofs.YtloddiipepiocaaGreatDoor
/- Layer 10: slices.Collect of a map's records. -/
namespace Go.Proofs.YtloddiipepiocaaGreatDoor
open Go.RowKit Go.Maps Go.Shelf Go.Sort

attribute [local go_sem] Oper.semAt_some

def RecsBox (B base : Nat) (l : List Rec) (W : World) : Prop :=
  ∃ v, Boxed W B 54 v ∧ W.ownsRow base 136 3 v l.length (l.flatMap recV) ∧ (v = .slice none 0 0 ↔ l = [])
theorem recsBox_own (B base C : Nat) : OwnFrom C (fun (l : List Rec) W => RecsBox B base l W) :=
  Own.from (holdsRow_own base B 54 136 3 (fun l : List Rec => l.length) (fun l => l.flatMap recV) (fun l v => v = .slice none 0 0 ↔ l = [])) C

def CollRecs (rs : List Rec) (w : World) (e : Ending) (w' : World) : Prop :=
  ∃ v xs, e = .returned v ∧ xs.Perm rs ∧ w'.ownsRow w.heap.size 136 3 v xs.length (xs.flatMap recV) ∧ (v = .slice none 0 0 ↔ xs = []) ∧ Below w.heap.size w w'

theorem blk_ownFrom (C p : Nat) (t : TypeId) (cs : Array Value) : OwnFrom C (fun (_ : Unit) W => Blk W p t cs) := fun _ A B row hs hg hr => by
  refine hs.grown hg fun e => ?_
  obtain ⟨o, ho, hn⟩ := (hr p e.symm).2
  rw [hs] at ho
  cases ho
  cases hn

set_option maxRecDepth 100000 in
set_option maxHeartbeats 2000000 in
theorem appendSeq_recs (Bs b : Nat) (rs : List Rec) (hrs : rs.length ≤ 1000) (E : DataW Unit) (hE : RecMap E rs) (w : World) (bB : Blk w Bs 124 #[.map (some b)]) (hown : w.ownsMap Tryz.prog 3 recR b rs.length E) :
    Calls Tryz.prog 175 #[.slice none 0 0, .func (.func 176) #[] #[.pointer (some ⟨Bs, 0, none⟩)]] w (CollRecs rs w) := by
  refine calls_of_marks Tryz.func175 rfl ?_
  simp only [Tryz.ntmps175, List.size_toArray, List.length_cons, List.length_nil, Nat.reduceAdd, Nat.reduceSub, Array.replicate_succ, Array.replicate_zero, List.push_toArray, List.append_toArray, List.nil_append, List.cons_append]
  have lB := bB.lt
  obtain ⟨W1, hW1⟩ : ∃ W1, W1 = w.alloc (.cells #[.slice none 0 0] 54) := ⟨_, rfl⟩
  have b1 : Blk W1 Bs 124 #[.map (some b)] := by rw [hW1]; exact bB.alloc _
  have bL1 : Boxed W1 w.heap.size 54 (.slice none 0 0) := by rw [hW1]; exact Blk.new _ _ _
  have hz1 : W1.heap.size = w.heap.size + 1 := by rw [hW1]; simp
  have B1 : Below w.heap.size w W1 := by rw [hW1]; exact (Below.refl _ _).alloc (Nat.le_refl _) _
  have hown1 : W1.ownsMap Tryz.prog 3 recR b rs.length E := map_block hown (B1.block b hown.lt)
  obtain ⟨i0, hi, hz0, hzs, hzb⟩ := info_parts Tryz.infoRec
  have HHI := Lib.hid hi
  clear hi
  go_wp2_with fail
  rw [← hW1]
  clear hW1
  refine range_meet (n := 6) (fun D W => W.heap[D]? = some (.deferred (some [])) ∧ w.heap.size + 1 ≤ D ∧ ∃ xs, xs.Perm rs ∧ RecsBox w.heap.size (w.heap.size + 1) xs W ∧ KeepEx (w.heap.size + 1) [w.heap.size] W1 W) ?loop ?after
  case loop =>
    refine wpIn_rangeFunc_ownH rfl (by omega) (gf := 176) (lb := #[.pointer (some ⟨Bs, 0, none⟩)]) rfl trivial (enters_of Tryz.func176 (by kernel_rfl) rfl)
      (vals_stops Fence.wide (6 - 1) trivial rfl (by omega) Bs b rs E hE W1 b1.lt ((b1.cells 0).trans rfl) hown1)
      walksK_t walksK_b (Below.refl _ _) (fun _ => rfl)
      (fun pre W => RecsBox w.heap.size (w.heap.size + 1) pre W ∧ KeepEx (w.heap.size + 1) [w.heap.size] W1 W)
      (fun _ _ _ => False)
      (OwnFrom.and (recsBox_own _ _ _) (ownFrom_keepEx (by omega) (by omega)))
      (fun _ _ _ _ _ hs _ _ => hs)
      ⟨⟨_, bL1, World.ownsRow_nil _ _ _ _, by simp⟩, KeepEx.refl _ _ _⟩
      (fun x a' W => ∃ p, a' = { tmps := #[.slice none 0 0, .func (.func 176) #[] #[.pointer (some ⟨Bs, 0, none⟩)], .pointer (some ⟨w.heap.size, 0, none⟩), undef, .slice none 0 0, .pointer (some ⟨p, 0, none⟩), .func (.func 176) #[] #[.pointer (some ⟨Bs, 0, none⟩)], encR x, undef, undef, undef, undef, undef], defers := [] } ∧ Blk W p 136 (recC x))
      (fun x a' u A B row hs hg hr => by obtain ⟨p, h1, h2⟩ := hs; exact ⟨p, h1, blk_ownFrom _ _ _ _ u A B row h2 hg hr⟩) ?assign ?body ?done ?stop
    case assign =>
      intro l pre x W K hI hK
      obtain ⟨W5, hW5⟩ : ∃ W5, W5 = W.alloc (.cells #[.int .i64 0, .int .i64 0, .string ⟨#[]⟩] 136) := ⟨_, rfl⟩
      have b5 : Blk W5 W.heap.size 136 #[.int .i64 0, .int .i64 0, .string ⟨#[]⟩] := by rw [hW5]; exact Blk.new _ _ _
      have HST := storeRow (ty := 136) (vs := recC x) b5 rfl (by simp [recC, Value.oneCell']) (by kernel_rfl)
      have b6 := b5.setRow (cs' := recC x)
      have hI6 : RecsBox w.heap.size (w.heap.size + 1) pre (W5.setRow W.heap.size (recC x)) ∧ KeepEx (w.heap.size + 1) [w.heap.size] W1 (W5.setRow W.heap.size (recC x)) := by
        obtain ⟨⟨v, hv, hrow, hnil⟩, hK1⟩ := hI
        have hlt := hK1.size
        have hvl : w.heap.size < W.heap.size := by omega
        have hb5 : Below W.heap.size W (W5.setRow W.heap.size (recC x)) := by rw [hW5]; exact Below.setRow ((Below.refl _ _).alloc (Nat.le_refl _) _) (Nat.le_refl _) _
        exact ⟨⟨v, (hb5.block _ hvl).trans hv, own_below hrow hb5, hnil⟩, hK1.trans (KeepEx.of_below (hb5.mono (by omega)))⟩
      have hKF : KeepsFrom W1.heap.size W (W5.setRow W.heap.size (recC x)) ∧ KeepsWalks W (W5.setRow W.heap.size (recC x)) := by
        have hb5 : Below W.heap.size W (W5.setRow W.heap.size (recC x)) := by rw [hW5]; exact Below.setRow ((Below.refl _ _).alloc (Nat.le_refl _) _) (Nat.le_refl _) _
        exact ⟨⟨hb5.size, fun k o _ hk _ => (hb5.block k (Array.getElem?_eq_some_iff.1 hk).1).trans hk⟩, ⟨hb5.size, fun k o hk _ => (hb5.block k (Array.getElem?_eq_some_iff.1 hk).1).trans hk⟩⟩
      have HH := Lib.hid hW5
      have HI6 := Lib.hid hI6
      have HKF := Lib.hid hKF
      have HB6 := Lib.hid b6
      rw [hW5] at HST
      clear hW5 hI hI6 hKF b6 b5
      gi_wp2_with (refine wpListIn_storeBy rfl _ _ _ rfl _ _ rfl rfl HST ?_)
      rw [← HH.out]
      exact hK _ _ HKF.out.1 HKF.out.2 HI6.out ⟨_, rfl, HB6.out⟩
    case body =>
      rintro l pre x a' W hl - ⟨⟨v, hv, hrow, hnil⟩, hK⟩ ⟨p, rfl, bP⟩ hlt
      have hlt2 : pre.length ≤ 2000 := by omega
      obtain ⟨av, cv, rfl⟩ := own_slice hrow
      have hc := hv.cell
      have hf := hv.frozen
      have hsz := hK.size
      replace bP : Blk W p 136 #[.int .i64 x.at_, .int .i64 x.kind, .string x.data] := bP
      have cP := bP.cells
      have lP := bP.lt
      clear hnil hlt bP
      have hi := HHI.out
      gi_wp2_with (gi_at_builtin; refine wpListIn_append_own _ rfl _ _ 54 rfl (w.heap.size + 1) 136 i0 _ 3 32 Tryz.underlying54 hi hz0 hzs hzb rfl (by decide) _ _ _ rfl (hrow.alloc _) ⟨W.heap.size, 0, none⟩ 1 1 (recV x) rfl rfl (fun j u hu => by rw [addr_add, Nat.zero_add, (Blk.new W 136 #[.int .i64 x.at_, .int .i64 x.kind, .string x.data]).cells]; simpa [recV] using hu) (by intro u hu; simp [recV] at hu; rcases hu with rfl | rfl | rfl <;> rfl) (by simp only [maxLen]; omega) (by omega) (by simp; omega) ?_; intro v' w2 hown' hgrow _; obtain ⟨g', cap', rfl⟩ := ownsRow_succ hown'; obtain ⟨hv1, hv2, hr2, hk2, hb2⟩ := box_appended hv hrow (by omega) (by omega) hown' hgrow; have hc1 := hv1.cell; have hf1 := hv1.frozen)
      exact ⟨hk2.from _, hk2.walks, ⟨_, hv2, by simpa using hr2, by simp⟩, hK.trans hb2⟩
    case done =>
      rintro D xs W hD hp ⟨hbox, hK⟩ hKd
      exact ⟨.inl rfl, D, rfl, hKd, by omega, xs, hp, hbox, hK⟩
    case stop => exact fun _ _ _ _ _ _ hF _ => hF.elim
  case after =>
    rintro D W ⟨hKd, hD, xs, hp, ⟨v, hv, hrow, hnil⟩, hK⟩
    obtain ⟨av, cv, rfl⟩ := own_slice hrow
    have hc := hv.cell
    have hf := hv.frozen
    have HN := Lib.hid hnil
    clear hnil
    go_wp2
    refine marks_ret (.slice av xs.length cv) hKd (by simp [results, Tryz.results175, go_sem]) ?_
    refine ⟨_, xs, rfl, hp, own_base (ownsRow_putObj hrow _ hKd rfl) (by omega), HN.out, ?_⟩
    have h1 : Below w.heap.size w W := B1.trans (hK.toBelow (by omega) (by simp))
    exact below_put h1 (by omega)

theorem collect_recs (Bs b : Nat) (rs : List Rec) (hrs : rs.length ≤ 1000) (E : DataW Unit) (hE : RecMap E rs) (w : World) (bB : Blk w Bs 124 #[.map (some b)]) (hown : w.ownsMap Tryz.prog 3 recR b rs.length E) :
    Calls Tryz.prog 131 #[.func (.func 176) #[] #[.pointer (some ⟨Bs, 0, none⟩)]] w (CollRecs rs w) := by
  have h := appendSeq_recs Bs b rs hrs E hE w bB hown
  go_enter Tryz.func131, Tryz.ntmps131
  go_wp2_with fail
  refine h.mono ?_
  rintro e w1 ⟨v, xs, rfl, h1⟩
  go_wp2_with fail
  go_ret
  exact ⟨v, xs, rfl, h1⟩

end Go.Proofs.YtloddiipepiocaaGreatDoor
/- The kit's contract of slices.SortFunc at records, laid over this program (written by the kit's lay-plain). -/
namespace Go.Proofs.YtloddiipepiocaaGreatDoor
open Go.Shelf
def Tryz.sortRec_ren : Go.Shelf.Ren := ⟨fun | 6 => 133 | 15 => 178 | 14 => 177 | 28 => 198 | 29 => 199 | 20 => 190 | 21 => 191 | 22 => 192 | 23 => 193 | 24 => 194 | 25 => 195 | 26 => 196 | 27 => 197 | 46 => 203 | 47 => 204 | 48 => 205 | 49 => 206 | 50 => 207 | 57 => 208 | n => n, fun | 22 => 54 | 24 => 136 | 25 => 212 | 3 => 3 | 39 => 170 | 0 => 0 | 53 => 24 | 55 => 81 | 4 => 4 | 46 => 257 | 45 => 256 | 50 => 252 | 5 => 5 | 9 => 9 | 66 => 267 | 70 => 271 | 76 => 275 | 77 => 276 | n => n, fun | n => n⟩
theorem Tryz.sortRec : Go.Proofs.SlLaysF0.n6 Tryz.prog Tryz.sortRec_ren := {
  mixed := by kernel_rfl
  f6 := ⟨Tryz.f133.name, by decide, Tryz.func133.trans (congrArg some (by kernel_rfl))⟩
  f14 := ⟨Tryz.f177.name, by decide, Tryz.func177.trans (congrArg some (by kernel_rfl))⟩
  f15 := Tryz.func178.trans (congrArg some (by kernel_rfl))
  f20 := ⟨Tryz.f190.name, by decide, Tryz.func190.trans (congrArg some (by kernel_rfl))⟩
  f21 := ⟨Tryz.f191.name, by decide, Tryz.func191.trans (congrArg some (by kernel_rfl))⟩
  f22 := ⟨Tryz.f192.name, by decide, Tryz.func192.trans (congrArg some (by kernel_rfl))⟩
  f23 := ⟨Tryz.f193.name, by decide, Tryz.func193.trans (congrArg some (by kernel_rfl))⟩
  f24 := ⟨Tryz.f194.name, by decide, Tryz.func194.trans (congrArg some (by kernel_rfl))⟩
  f25 := ⟨Tryz.f195.name, by decide, Tryz.func195.trans (congrArg some (by kernel_rfl))⟩
  f26 := ⟨Tryz.f196.name, by decide, Tryz.func196.trans (congrArg some (by kernel_rfl))⟩
  f27 := ⟨Tryz.f197.name, by decide, Tryz.func197.trans (congrArg some (by kernel_rfl))⟩
  f28 := Tryz.func198.trans (congrArg some (by kernel_rfl))
  f29 := Tryz.func199.trans (congrArg some (by kernel_rfl))
  f46 := ⟨Tryz.f203.name, by decide, Tryz.func203.trans (congrArg some (by kernel_rfl))⟩
  f47 := Tryz.func204.trans (congrArg some (by kernel_rfl))
  f48 := Tryz.func205.trans (congrArg some (by kernel_rfl))
  f49 := ⟨Tryz.f206.name, by decide, Tryz.func206.trans (congrArg some (by kernel_rfl))⟩
  f50 := ⟨Tryz.f207.name, by decide, Tryz.func207.trans (congrArg some (by kernel_rfl))⟩
  f57 := ⟨Tryz.f208.name, by decide, Tryz.func208.trans (congrArg some (by kernel_rfl))⟩
  t0 := Tryz.underlying0
  a0 := Tryz.isAgg0
  z0 := Tryz.sizeOf0
  v0 := Tryz.zeroValue0
  t3 := Tryz.underlying3
  a3 := Tryz.isAgg3
  z3 := Tryz.sizeOf3
  v3 := Tryz.zeroValue3
  t4 := Tryz.underlying4
  a4 := Tryz.isAgg4
  z4 := Tryz.sizeOf4
  v4 := Tryz.zeroValue4
  t5 := Tryz.underlying5
  a5 := Tryz.isAgg5
  z5 := Tryz.sizeOf5
  v5 := Tryz.zeroValue5
  t9 := Tryz.underlying9
  a9 := Tryz.isAgg9
  z9 := Tryz.sizeOf9
  v9 := Tryz.zeroValue9
  t22 := Tryz.underlying54
  a22 := Tryz.isAgg54
  z22 := Tryz.sizeOf54
  v22 := Tryz.zeroValue54
  t25 := Tryz.underlying212
  a25 := Tryz.isAgg212
  z25 := Tryz.sizeOf212
  v25 := Tryz.zeroValue212
  t39 := Tryz.underlying170
  a39 := Tryz.isAgg170
  z39 := Tryz.sizeOf170
  v39 := Tryz.zeroValue170
  t45 := Tryz.underlying256
  a45 := Tryz.isAgg256
  z45 := Tryz.sizeOf256
  v45 := Tryz.zeroValue256
  t46 := Tryz.underlying257
  a46 := Tryz.isAgg257
  z46 := Tryz.sizeOf257
  v46 := Tryz.zeroValue257
  t50 := Tryz.underlying252
  a50 := Tryz.isAgg252
  z50 := Tryz.sizeOf252
  v50 := Tryz.zeroValue252
  t53 := Tryz.underlying24
  a53 := Tryz.isAgg24
  z53 := Tryz.sizeOf24
  v53 := Tryz.zeroValue24
  t55 := Tryz.underlying81
  a55 := Tryz.isAgg81
  z55 := Tryz.sizeOf81
  v55 := Tryz.zeroValue81
  t66 := Tryz.underlying267
  a66 := Tryz.isAgg267
  z66 := Tryz.sizeOf267
  v66 := Tryz.zeroValue267
  t70 := Tryz.underlying271
  a70 := Tryz.isAgg271
  z70 := Tryz.sizeOf271
  v70 := Tryz.zeroValue271
  t76 := Tryz.underlying275
  a76 := Tryz.isAgg275
  z76 := Tryz.sizeOf275
  v76 := Tryz.zeroValue275
  t77 := Tryz.underlying276
  a77 := Tryz.isAgg276
  z77 := Tryz.sizeOf276
  v77 := Tryz.zeroValue276 }
end Go.Proofs.YtloddiipepiocaaGreatDoor
/- Layer 10: the records sorted by their sectors. -/
namespace Go.Proofs.YtloddiipepiocaaGreatDoor
open Go.RowKit Go.Maps Go.Shelf Go.Sort

/-- A record on a sector of a device. -/
structure BRec where
  val : Rec
  ok : 0 ≤ val.at_ ∧ val.at_ ≤ 100000
instance : Inhabited BRec := ⟨⟨⟨0, 0, ⟨#[]⟩⟩, by decide⟩⟩
def encB (x : BRec) : List Value := [.int .i64 x.1.at_, .int .i64 x.1.kind, .string x.1.data]
def cfB (x y : BRec) : Int := x.1.at_ - y.1.at_
theorem swoB : SWO (ltOf cfB) where
  irrefl x := by unfold ltOf cfB; simp
  trans x y z h1 h2 := by unfold ltOf cfB at *; simp at *; omega
  ntrans x y z h1 h2 := by unfold ltOf cfB at *; simp at *; omega

set_option maxHeartbeats 1000000 in
theorem cmp_rec (x y : BRec) (W : World) : Calls Tryz.prog 134 #[.agg #[.int .i64 x.1.at_, .int .i64 x.1.kind, .string x.1.data], .agg #[.int .i64 y.1.at_, .int .i64 y.1.kind, .string y.1.data]] W fun e w' => e = .returned (.int .i64 (cfB x y)) ∧ ∃ q os', w' = grow (W.drewN q) os' := by
  have hx := x.2
  have hy := y.2
  have hw : IntKind.i64.wrap (x.1.at_ - y.1.at_) = x.1.at_ - y.1.at_ := by rw [IntKind.wrap_i64]; omega
  have HC : Hid (cfB x y = x.1.at_ - y.1.at_) := Lib.hid rfl
  generalize cfB x y = r at *
  go_enter Tryz.func134, Tryz.ntmps134
  go_wp2_with fail
  go_ret
  exact ⟨by rw [HC.out]; rfl, 0, _, by rw [alloc_eq_grow, alloc_eq_grow, grow_grow]; rfl⟩

theorem isAggRec : ∀ w, (isAgg 136).run Tryz.prog w = .ok true w := fun _ => by kernel_rfl
theorem sizeRec : ∀ w, (Go.sizeOf 136).run Tryz.prog w = .ok 3 w := fun _ => by kernel_rfl

/-- The list of a row, as the sort has it. -/
theorem sort_list {d d' : Array BRec} (hp : PermIn 0 d.size d d') (hs : SortedIn (ltOf cfB) 0 d.size d') : (d'.toList.map (·.1)).Perm (d.toList.map (·.1)) ∧ (d'.toList.map (·.1)).Pairwise (fun a b : Rec => a.at_ ≤ b.at_) ∧ d'.size = d.size := by
  obtain ⟨h1, -, h3⟩ := hp
  have e1 : d'.extract 0 d.size = d' := by rw [← h1, Array.extract_size]
  have e2 : d.extract 0 d.size = d := Array.extract_size
  rw [e1, e2] at h3
  refine ⟨h3.map _, ?_, h1⟩
  refine List.pairwise_map.2 (List.pairwise_iff_getElem.2 fun i j hi hj hij => ?_)
  have h := hs i j (Nat.zero_le _) hij (by simpa [h1] using hj)
  have hi' : i < d'.size := by simpa using hi
  have hj' : j < d'.size := by simpa using hj
  rw [getElem!_pos d' i hi', getElem!_pos d' j hj'] at h
  unfold ltOf cfB at h
  simp at h
  simp only [Array.getElem_toList]
  omega

end Go.Proofs.YtloddiipepiocaaGreatDoor
