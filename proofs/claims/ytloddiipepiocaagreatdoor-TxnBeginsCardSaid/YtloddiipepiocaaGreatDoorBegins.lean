/- Parts of the proof, put together by program: TR, NP, NQ, CK, CL. -/
import Derived.Test.YtloddiipepiocaaGreatDoorRows
import Derived.Test.YtloddiipepiocaaGreatDoorCards
import Derived.Test.YtloddiipepiocaaGreatDoorTie
import Derived.Test.YtloddiipepiocaaGreatDoorPart42
import Derived.ProofKit
import Derived.Lib.LaidTab
import Derived.Lib.SmallJoins
import Derived.LaidMore
import Derived.OpenShut
import Derived.Stop.Joined
import Derived.SevenTiedAt
import Derived.Test.YtloddiipepiocaaGreatDoorPart02
import Derived.Test.YtloddiipepiocaaGreatDoorProg
import Derived.Deep.Slices
import Derived.Test.YtloddiipepiocaaGreatDoorPart09
import Derived.Test.YtloddiipepiocaaGreatDoorPart32
set_option linter.unusedVariables false
set_option linter.unusedSimpArgs false
/- The laws of layer 10: what all their rows share. -/
namespace Go.Proofs.YtloddiipepiocaaGreatDoor
open Go.ChangeShapes Go.WideShapes Go.ChangeAt Go.RowKit Go.Joins

theorem Tryz.own : ownKnob Tryz.prog.godebug = none := by kernel_rfl
theorem Tryz.laidOut : laidOutB Tryz.prog = true := by kernel_rfl
theorem gHalf : Tryz.prog.globalNamed "limewash/sums.half" = some 0 := by kernel_rfl
def half1 : List (String × DataW Unit) := [("limewash/sums.half", Rows.laid_limewash_sums_half)]

/-- The heap that the program's start leaves meets the condition. -/
theorem door_met (os : Os) (args : Array Value) : laidMetH Tryz.prog half1 ((World.doorLaid Tryz.prog 400 os).forCall (fun _ _ => 0) ⟨#[], args, []⟩).memory :=
  laidMetH_of_parts3 (fuel := 8) (laidMet_of_run' 8 (by kernel_rfl) (by kernel_rfl)) (by kernel_rfl) (by kernel_rfl)

theorem gHalfType : (Tryz.prog.globals[0]?).map (·.type) = some 274 := by kernel_rfl
theorem half_of_laid {W : World} (h : laidMetH Tryz.prog half1 W) : HalfAt W := by
  rw [MakeChecks.laidMetH_plain _ _ _ (by kernel_rfl)] at h
  have hT : Lib.TabIs Tryz.prog W "limewash/sums.half" .u32 halfL := Lib.tabIs_of_head (n := 16) (e := 24) gHalf gHalfType (by kernel_rfl) (by kernel_rfl) (by kernel_rfl) (by kernel_rfl) h
  have hc : ∀ j, j < 16 → W.cell? ⟨0, j, none⟩ = some (.int .u32 (halfL.getD j 0)) := fun j hj => hT.cell gHalf j hj
  exact ⟨block_lt_of_cell (hc 0 (by omega)), hc⟩
end Go.Proofs.YtloddiipepiocaaGreatDoor
/- Arguments opened: a slice of one-cell elements as a list. -/
namespace Go.Proofs.YtloddiipepiocaaGreatDoor
open Go.ChangeShapes Go.WideShapes Go.ChangeAt Go.RowKit Go.Deep

theorem list_of {α : Type} (q : Nat → α → Prop) (n : Nat) (h : ∀ i, i < n → ∃ a, q i a) : ∃ xs : List α, xs.length = n ∧ ∀ i (hi : i < xs.length), q i xs[i] := by
  induction n with
  | zero => exact ⟨[], rfl, fun i hi => by simp at hi⟩
  | succ n ih =>
    obtain ⟨xs, hl, hx⟩ := ih (fun i hi => h i (by omega))
    obtain ⟨a, ha⟩ := h n (by omega)
    refine ⟨xs ++ [a], by simp [hl], fun i hi => ?_⟩
    by_cases hin : i < xs.length
    · rw [List.getElem_append_left hin]; exact hx i hin
    · have : i = n := by simp at hi; omega
      subst this
      rw [List.getElem_append_right (by omega)]
      simpa [hl] using ha

/-- A slice of one-cell elements that came in. -/
theorem open_cells {H : Type} {enc : TypeId × Value → H} {P : Program} {W : World} {α : Type} (mk : α → Value) {t e : TypeId} {fuel : Nat} {v : Value} {x : DataW H × List MemPlace} (ht : P.underlying t = some (.slice e)) (hC : P.cellsOf e = 1)
    (hel : ∀ n cs x, DataW.trod enc P W 0 (fun _ => true) true n e cs = some x → ∃ a, cs = [mk a])
    (h : DataW.trod enc P W 0 (fun _ => true) true fuel t [v] = some x) :
    ∃ (A : Option Addr) (n c : Nat) (xs : List α), v = .slice A n c ∧ xs.length = n ∧ Reads W A (xs.map mk) ∧ n ≤ c ∧ c ≤ maxLen ∧ (A = none → n = 0 ∧ c = 0) := by
  rcases open_slice ht h with ⟨h0, _⟩ | ⟨a, len, cap, m, n, D, Pl, hcs, hb, hl, hm, hmm, hx, hi⟩
  · simp only [List.cons.injEq, and_true] at h0
    subst h0
    exact ⟨none, 0, 0, [], rfl, rfl, Reads.nil, Nat.le_refl _, Nat.zero_le _, fun _ => ⟨rfl, rfl⟩⟩
  · simp only [List.cons.injEq, and_true] at hcs
    subst hcs
    simp only [if_true] at hmm
    have hat : ∀ i, i < len → ∃ u : α, W.cell? (a.add i) = some (mk u) := by
      intro i hi'
      obtain ⟨cs', hc, ht'⟩ := hi i (by omega)
      rw [hC, Nat.mul_one] at hc
      obtain ⟨u, rfl⟩ := hel n cs' _ ht'
      obtain ⟨_, _, hat⟩ := World.cells?_some hc
      have := hat 0 (by omega)
      refine ⟨u, ?_⟩
      simpa [Addr.add] using this
    obtain ⟨xs, hxl, hxs⟩ := list_of (fun i u => W.cell? (a.add i) = some (mk u)) len hat
    refine ⟨some a, len, cap, xs, rfl, hxl, ?_, hl, hm, fun h => by cases h⟩
    rcases Nat.eq_zero_or_pos len with h0 | h0
    · left
      have : xs = [] := List.eq_nil_of_length_eq_zero (by omega)
      simp [this]
    · right
      obtain ⟨b, off, spot⟩ := a
      have h1 := hxs 0 (by omega)
      have hspot : spot = none := by simpa [Addr.add] using World.cell?_spot h1
      subst hspot
      refine ⟨b, off, rfl, ?_, fun j u hu => ?_⟩
      · have := World.block_lt_of_cell? W _ h1
        simpa [Addr.add] using this
      · rw [List.getElem?_map] at hu
        by_cases hj : j < xs.length
        · rw [List.getElem?_eq_getElem hj, Option.map_some, Option.some.injEq] at hu
          subst hu
          have := hxs j hj
          unfold Addr.add at this
          split at this
          · rename_i hj0; subst hj0; simpa using this
          · exact this
        · rw [List.getElem?_eq_none (by omega)] at hu; simp at hu

end Go.Proofs.YtloddiipepiocaaGreatDoor
/- Arguments opened: a slice of structs as a list. -/
namespace Go.Proofs.YtloddiipepiocaaGreatDoor
open Go.ChangeShapes Go.WideShapes Go.ChangeAt Go.RowKit Go.Deep

/-- A slice of elements of k cells that came in. -/
theorem open_rows {H : Type} {enc : TypeId × Value → H} {P : Program} {W : World} {α : Type} (mk : α → List Value) (good : α → Prop) (k : Nat) (hk : 0 < k) {t e : TypeId} {fuel : Nat} {v : Value} {x : DataW H × List MemPlace} (ht : P.underlying t = some (.slice e)) (hC : P.cellsOf e = k)
    (hel : ∀ n cs x, cs.length = k → DataW.trod enc P W 0 (fun _ => true) true n e cs = some x → ∃ a, cs = mk a ∧ good a)
    (h : DataW.trod enc P W 0 (fun _ => true) true fuel t [v] = some x) :
    ∃ (A : Option Addr) (n c : Nat) (xs : List α), v = .slice A n c ∧ xs.length = n ∧ Reads W A (xs.flatMap mk) ∧ (∀ a ∈ xs, (mk a).length = k ∧ good a) ∧ n ≤ c ∧ c ≤ maxLen ∧ (A = none → n = 0 ∧ c = 0) := by
  rcases open_slice ht h with ⟨h0, _⟩ | ⟨a, len, cap, m, n, D, Pl, hcs, hb, hl, hm, hmm, hx, hi⟩
  · simp only [List.cons.injEq, and_true] at h0
    subst h0
    exact ⟨none, 0, 0, [], rfl, rfl, Reads.nil, fun _ h => (by cases h), Nat.le_refl _, Nat.zero_le _, fun _ => ⟨rfl, rfl⟩⟩
  · simp only [List.cons.injEq, and_true] at hcs
    subst hcs
    simp only [if_true] at hmm
    have hat : ∀ i, i < len → ∃ u : α, (mk u).length = k ∧ good u ∧ ∀ j, j < k → W.cell? (a.add (i * k + j)) = (mk u)[j]? := by
      intro i hi'
      obtain ⟨cs', hc, ht'⟩ := hi i (by omega)
      rw [hC] at hc
      obtain ⟨_, hlen, hat⟩ := World.cells?_some hc
      obtain ⟨u, rfl, hg⟩ := hel n cs' _ hlen ht'
      exact ⟨u, hlen, hg, fun j hj => by rw [← Go.Deep.add_add]; exact hat j hj⟩
    obtain ⟨xs, hxl, hxs⟩ := list_of (fun i u => (mk u).length = k ∧ good u ∧ ∀ j, j < k → W.cell? (a.add (i * k + j)) = (mk u)[j]?) len hat
    have hgd : ∀ u ∈ xs, (mk u).length = k ∧ good u := fun u hu => by
      obtain ⟨i, hi', rfl⟩ := List.mem_iff_getElem.1 hu
      exact ⟨(hxs i hi').1, (hxs i hi').2.1⟩
    refine ⟨some a, len, cap, xs, rfl, hxl, ?_, hgd, hl, hm, fun h => by cases h⟩
    rcases Nat.eq_zero_or_pos len with h0 | h0
    · left
      have : xs = [] := List.eq_nil_of_length_eq_zero (by omega)
      simp [this]
    · right
      obtain ⟨b, off, spot⟩ := a
      have h1 := (hxs 0 (by omega)).2.2 0 hk
      have hv0 : ∃ u, (mk (xs[0]'(by omega)))[0]? = some u := ⟨_, List.getElem?_eq_getElem (by rw [(hxs 0 (by omega)).1]; exact hk)⟩
      obtain ⟨u0, hu0⟩ := hv0
      rw [hu0] at h1
      have hspot : spot = none := by simpa [Addr.add] using World.cell?_spot h1
      subst hspot
      refine ⟨b, off, rfl, ?_, fun j u hu => ?_⟩
      · have := World.block_lt_of_cell? W _ h1
        simpa [Addr.add] using this
      · have hjl : j < xs.length * k := by
          have hlt := (List.getElem?_eq_some_iff.1 hu).1
          have : (xs.flatMap mk).length = xs.length * k := by
            clear hu hlt hxl hxs hu0 h1
            induction xs with
            | nil => simp
            | cons y t ih => rw [List.flatMap_cons, List.length_append, (hgd y (by simp)).1, ih (fun u hu => hgd u (List.mem_cons_of_mem _ hu)), List.length_cons, Nat.add_mul, Nat.one_mul, Nat.add_comm]
          rwa [this] at hlt
        have hq : j / k < xs.length := by rw [Nat.div_lt_iff_lt_mul hk]; exact hjl
        have hr : j % k < k := Nat.mod_lt _ hk
        have e := flat_get (f := mk) (m := k) (fun s hs => (hgd s hs).1) hr hq
        have hj : j / k * k + j % k = j := by rw [Nat.mul_comm]; exact Nat.div_add_mod j k
        rw [hj, hu] at e
        have h2 := (hxs (j / k) hq).2.2 (j % k) hr
        rw [hj, ← e] at h2
        unfold Addr.add at h2
        split at h2
        · rename_i hj0; subst hj0; simpa using h2
        · exact h2

end Go.Proofs.YtloddiipepiocaaGreatDoor
/- P10: TxnBegins, walked. -/
namespace Go.Proofs.YtloddiipepiocaaGreatDoor
open Go.RowKit Go.Maps

/-- What the law asks of the bitmap's sector. -/
def inB (E M : Int) (n : Nat) : Bool := (E == 0) && decide (M < n)
/-- Does the loop go on? -/
def rawB (E : Int) (n k : Nat) : Bool := (E != 0) && decide (k < n) && decide (k < 128)
theorem rawB_true {E : Int} {n k : Nat} (h : rawB E n k = true) : k < n ∧ k < 128 := by
  unfold rawB at h
  simp only [Bool.and_eq_true, decide_eq_true_eq] at h
  exact ⟨h.1.2, h.2⟩
theorem inB_true {E M : Int} {n : Nat} (h : inB E M n = true) : E = 0 ∧ M < n := by
  unfold inB at h
  simp only [Bool.and_eq_true, decide_eq_true_eq, beq_iff_eq] at h
  exact h
theorem bytes_set {xs : List Int} (h : Bytes xs) (k : Nat) {v : Int} (hv : 0 ≤ v ∧ v < 256) : Bytes (xs.set k v) := by
  intro x hx
  rcases List.mem_or_eq_of_mem_set hx with hx | rfl
  · exact h x hx
  · exact hv

set_option maxRecDepth 100000 in
set_option maxHeartbeats 2000000 in
theorem txnBegins_any (k8 : Int) (hk8 : 0 ≤ k8 ∧ k8 ≤ 255) (s j i kd q : Int) (hq : 0 ≤ q ∧ q < 4294967296) (d : ByteArray) (hd : d.size ≤ maxLen) (A : Option Addr) (ca : Nat) (raw : List Int) (hraw : Bytes raw) (w : World) (hH : HalfAt w) (hR : Reads w A (raw.map (.int .u8))) :
    Calls Tryz.prog 3 #[.agg #[.int .u8 k8, .int .i64 s, .int .i64 j, .int .i64 i, .int .i64 kd, .int .u32 q, .string d, .slice A raw.length ca]] w fun e w' => e = .returned (.bool true) ∧ Below w.heap.size w w' := by
  obtain ⟨n, hn, hnq⟩ : ∃ n : Nat, (64 ≤ n ∧ n ≤ 256) ∧ (64 : Int) + k8 % 193 = n := ⟨(64 + k8 % 193).toNat, by omega, by omega⟩
  have g1 : k8.tmod 193 = k8 % 193 := Int.tmod_eq_emod_of_nonneg hk8.1
  obtain ⟨w0, hw0⟩ : ∃ w0, w0 = w.alloc (.cells #[.int .u8 k8, .int .i64 s, .int .i64 j, .int .i64 i, .int .i64 kd, .int .u32 q, .string d, .slice A raw.length ca] 29) := ⟨_, rfl⟩
  have bY : Blk w0 w.heap.size 29 #[.int .u8 k8, .int .i64 s, .int .i64 j, .int .i64 i, .int .i64 kd, .int .u32 q, .string d, .slice A raw.length ca] := by rw [hw0]; exact (by (repeat' (first | (with_reducible assumption) | exact Blk.new' (by simp) | refine Blk.alloc ?_ _)))
  have B0 : Below w.heap.size w w0 := by rw [hw0]; (repeat' (first | (with_reducible exact Below.refl _ _) | (with_reducible assumption) | (with_reducible refine Below.alloc ?_ ?_ _) | (with_reducible refine Below.drew ?_) | (with_reducible refine below_drewN' ?_ _) | (with_reducible refine Below.setCell ?_ ?_ _) | (with_reducible exact Nat.le_refl _) | omega | (simp; done) | (simp; omega)))
  have HH := Lib.hid hH
  have HRR := Lib.hid hR
  have HRW := Lib.hid hraw
  have hz := zeroSector
  have hp0 := hH.1
  clear hH hR hraw
  go_enter Tryz.func3, Tryz.ntmps3
  go_upto_region 1 with fail
  rw [← hw0]
  clear hw0
  go_cut [3, 4, 5] from 23 to 28 (fun s3 s4 s5 wx => ∃ bl bf, s3 = .pointer (some ⟨bl, 0, none⟩) ∧ s4 = .pointer (some ⟨bf, 0, none⟩) ∧ s5 = .slice A raw.length ca ∧ Blk wx bl 23 #[.int .i64 s, .int .i64 j, .int .i64 i] ∧ Blk wx bf 26 #[.int .i64 kd, .int .u32 q, .string d] ∧ Below w0.heap.size w0 wx)
  case first =>
    as_aux_lemma =>
      have hS : ∀ W, Below w0.heap.size w0 W → W.cell? ⟨w.heap.size, 0, none⟩ = some (.int .u8 k8) ∧ W.cell? ⟨w.heap.size, 1, none⟩ = some (.int .i64 s) ∧ W.cell? ⟨w.heap.size, 2, none⟩ = some (.int .i64 j) ∧ W.cell? ⟨w.heap.size, 3, none⟩ = some (.int .i64 i) ∧ W.cell? ⟨w.heap.size, 4, none⟩ = some (.int .i64 kd) ∧ W.cell? ⟨w.heap.size, 5, none⟩ = some (.int .u32 q) ∧ W.cell? ⟨w.heap.size, 6, none⟩ = some (.string d) ∧ W.cell? ⟨w.heap.size, 7, none⟩ = some (.slice A raw.length ca) := fun W hW => by
        have c := (bY.belowAll hW).cells
        exact ⟨(c 0).trans rfl, (c 1).trans rfl, (c 2).trans rfl, (c 3).trans rfl, (c 4).trans rfl, (c 5).trans rfl, (c 6).trans rfl, (c 7).trans rfl⟩
      have HS := Lib.hid hS
      clear hS
      refine wp_region_tree (Tr.takes [0, 1, 2, 3, 4, 5] (.fork 6 7 (.one 7 (.one 8 (.one 9 (.take 10 .done)))) (.one 6 (.one 8 (.one 9 (.take 10 .done)))))) (fun W => W.cell? ⟨w.heap.size, 0, none⟩ = some (.int .u8 k8) ∧ W.cell? ⟨w.heap.size, 1, none⟩ = some (.int .i64 s) ∧ W.cell? ⟨w.heap.size, 2, none⟩ = some (.int .i64 j) ∧ W.cell? ⟨w.heap.size, 3, none⟩ = some (.int .i64 i) ∧ W.cell? ⟨w.heap.size, 4, none⟩ = some (.int .i64 kd) ∧ W.cell? ⟨w.heap.size, 5, none⟩ = some (.int .u32 q) ∧ W.cell? ⟨w.heap.size, 6, none⟩ = some (.string d) ∧ W.cell? ⟨w.heap.size, 7, none⟩ = some (.slice A raw.length ca)) (by kernel_rfl) (by kernel_rfl) (fun _ _ _ _ _ h => h) (HS.out _ (Below.refl _ _).drew) ?_
      simp only [Tr.takes, Tr.fill, List.getD_cons_zero, List.getD_cons_succ]
      iterate 6 (refine tree_take (by rfl) ?_ (fun w' hw' => ?_) ?_; rotate_left; (focus (go_simp; (try with_reducible rfl))); (try simp only [Act.put, List.setIfInBounds_toArray, List.set_cons_zero, List.set_cons_succ]))
      refine tree_fork (fun K hK => ?_) (fun K hK => ?_)
      · obtain ⟨X, hX⟩ : ∃ X, X = w0.drew.alloc (.cells #[.int .i64 0, .int .i64 0, .int .i64 0] 23) := ⟨_, rfl⟩
        have bX : Blk X w0.heap.size 23 #[.int .i64 0, .int .i64 0, .int .i64 0] := by rw [hX]; exact Blk.new w0.drew _ _
        have DX : Below w0.heap.size w0 X := by rw [hX]; exact ((Below.refl _ _).drew).alloc (Nat.le_refl _) _
        have HX := Lib.hid (show w0.drew.alloc (.cells #[.int .i64 0, .int .i64 0, .int .i64 0] 23) = X from hX.symm)
        have HX2 := Lib.hid (show (w0.alloc (.cells #[.int .i64 0, .int .i64 0, .int .i64 0] 23)).drew = X from hX.symm)
        clear hX
        go_simp
        first | rw [HX.out] | rw [HX2.out]
        refine hK _ _ (HS.out _ DX) ?_
        clear hK K HX HX2
        obtain ⟨Y, hY⟩ : ∃ Y, Y = X.alloc (.cells #[Value.int .i64 0, Value.int .u32 0, Value.string ⟨#[]⟩] 26) := ⟨_, rfl⟩
        have bZ : Blk Y X.heap.size 26 #[Value.int .i64 0, Value.int .u32 0, Value.string ⟨#[]⟩] := by rw [hY]; exact Blk.new _ _ _
        have bX2 : Blk Y w0.heap.size 23 #[.int .i64 0, .int .i64 0, .int .i64 0] := by rw [hY]; exact bX.alloc _
        have DY : Below w0.heap.size w0 Y := by rw [hY]; exact DX.alloc DX.size _
        have hne : X.heap.size ≠ w0.heap.size := by have := bX.lt; omega
        have hle := DX.size
        refine tree_one fun K hK => ?_
        go_simp
        rw [← hY]
        refine hK _ _ (HS.out _ DY) ?_
        clear hK K hY
        have hst := storeRow (ty := 23) (vs := #[.int .i64 s, .int .i64 j, .int .i64 i]) bX2 rfl (by simp [Value.oneCell']) (by kernel_rfl)
        have D3 := Below.setRow DY (Nat.le_refl _) #[.int .i64 s, .int .i64 j, .int .i64 i]
        refine tree_one fun K hK => ?_
        refine op_storeBy _ _ _ rfl _ _ rfl rfl hst ?_
        refine hK _ _ (HS.out _ D3) ?_
        clear hK K hst
        have bX3 := bX2.setRow (cs' := #[.int .i64 s, .int .i64 j, .int .i64 i])
        have bZ3 := bZ.rowFar (cs' := #[.int .i64 s, .int .i64 j, .int .i64 i]) hne
        have hst := storeRow (ty := 26) (vs := #[.int .i64 kd, .int .u32 q, .string d]) bZ3 rfl (by simp [Value.oneCell']) (by kernel_rfl)
        have D4 := Below.setRow D3 hle #[.int .i64 kd, .int .u32 q, .string d]
        refine tree_one fun K hK => ?_
        refine op_storeBy _ _ _ rfl _ _ rfl rfl hst ?_
        refine hK _ _ (HS.out _ D4) ?_
        clear hK K hst
        have HF := Lib.hid (And.intro (bX3.rowFar (cs' := #[.int .i64 kd, .int .u32 q, .string d]) hne.symm) (And.intro (bZ3.setRow (cs' := #[.int .i64 kd, .int .u32 q, .string d])) D4))
        clear bX bX2 bX3 bZ bZ3 DX DY D3 D4 hne hle
        refine tree_take (by rfl) ?_ (fun w' hw' => ?_) ?_; rotate_left; (focus (go_simp; (try with_reducible rfl))); (try simp only [Act.put, List.setIfInBounds_toArray, List.set_cons_zero, List.set_cons_succ])
        refine tree_done ?_
        go_wp2_with fail
        go_meet
        case rel => exact ⟨_, _, rfl, rfl, rfl, HF.out.1, HF.out.2.1, HF.out.2.2⟩
      · obtain ⟨X, hX⟩ : ∃ X, X = w0.drew.alloc (.cells #[Value.int .i64 0, Value.int .u32 0, Value.string ⟨#[]⟩] 26) := ⟨_, rfl⟩
        have bX : Blk X w0.heap.size 26 #[Value.int .i64 0, Value.int .u32 0, Value.string ⟨#[]⟩] := by rw [hX]; exact Blk.new w0.drew _ _
        have DX : Below w0.heap.size w0 X := by rw [hX]; exact ((Below.refl _ _).drew).alloc (Nat.le_refl _) _
        have HX := Lib.hid (show w0.drew.alloc (.cells #[Value.int .i64 0, Value.int .u32 0, Value.string ⟨#[]⟩] 26) = X from hX.symm)
        have HX2 := Lib.hid (show (w0.alloc (.cells #[Value.int .i64 0, Value.int .u32 0, Value.string ⟨#[]⟩] 26)).drew = X from hX.symm)
        clear hX
        go_simp
        first | rw [HX.out] | rw [HX2.out]
        refine hK _ _ (HS.out _ DX) ?_
        clear hK K HX HX2
        obtain ⟨Y, hY⟩ : ∃ Y, Y = X.alloc (.cells #[.int .i64 0, .int .i64 0, .int .i64 0] 23) := ⟨_, rfl⟩
        have bZ : Blk Y X.heap.size 23 #[.int .i64 0, .int .i64 0, .int .i64 0] := by rw [hY]; exact Blk.new _ _ _
        have bX2 : Blk Y w0.heap.size 26 #[Value.int .i64 0, Value.int .u32 0, Value.string ⟨#[]⟩] := by rw [hY]; exact bX.alloc _
        have DY : Below w0.heap.size w0 Y := by rw [hY]; exact DX.alloc DX.size _
        have hne : X.heap.size ≠ w0.heap.size := by have := bX.lt; omega
        have hle := DX.size
        refine tree_one fun K hK => ?_
        go_simp
        rw [← hY]
        refine hK _ _ (HS.out _ DY) ?_
        clear hK K hY
        have hst := storeRow (ty := 23) (vs := #[.int .i64 s, .int .i64 j, .int .i64 i]) bZ rfl (by simp [Value.oneCell']) (by kernel_rfl)
        have D3 := Below.setRow DY hle #[.int .i64 s, .int .i64 j, .int .i64 i]
        refine tree_one fun K hK => ?_
        refine op_storeBy _ _ _ rfl _ _ rfl rfl hst ?_
        refine hK _ _ (HS.out _ D3) ?_
        clear hK K hst
        have bZ3 := bZ.setRow (cs' := #[.int .i64 s, .int .i64 j, .int .i64 i])
        have bX3 := bX2.rowFar (cs' := #[.int .i64 s, .int .i64 j, .int .i64 i]) hne.symm
        have hst := storeRow (ty := 26) (vs := #[.int .i64 kd, .int .u32 q, .string d]) bX3 rfl (by simp [Value.oneCell']) (by kernel_rfl)
        have D4 := Below.setRow D3 (Nat.le_refl _) #[.int .i64 kd, .int .u32 q, .string d]
        refine tree_one fun K hK => ?_
        refine op_storeBy _ _ _ rfl _ _ rfl rfl hst ?_
        refine hK _ _ (HS.out _ D4) ?_
        clear hK K hst
        have HF := Lib.hid (And.intro (bZ3.rowFar (cs' := #[.int .i64 kd, .int .u32 q, .string d]) hne) (And.intro (bX3.setRow (cs' := #[.int .i64 kd, .int .u32 q, .string d])) D4))
        clear bX bX2 bX3 bZ bZ3 DX DY D3 D4 hne hle
        refine tree_take (by rfl) ?_ (fun w' hw' => ?_) ?_; rotate_left; (focus (go_simp; (try with_reducible rfl))); (try simp only [Act.put, List.setIfInBounds_toArray, List.set_cons_zero, List.set_cons_succ])
        refine tree_done ?_
        go_wp2_with fail
        go_meet
        case rel => exact ⟨_, _, rfl, rfl, rfl, HF.out.1, HF.out.2.1, HF.out.2.2⟩
  case rest =>
    as_aux_lemma =>
      obtain ⟨bl, bf, rfl, rfl, rfl, bL, bF, hB1⟩ := hcut
      have B1 := B0.trans (hB1.mono B0.size)
      have hwc := B1.size
      have bY1 := bY.belowAll hB1
      have cY := bY1.cells
      have lY := bY1.lt
      have hbl := bL.lt
      clear bY hB1 B0
      have hq8 : 0 ≤ k8 % 193 ∧ k8 % 193 ≤ 192 := by omega
      generalize k8 % 193 = qq at *
      go_wp2_with fail
      refine (rnew_any n hn wc).mono ?_
      rintro e w2 ⟨S, hS0, rfl, own2, hb2⟩
      have B2 := B1.trans (hb2.mono B1.size)
      have bL2 := bL.belowAll hb2
      have bF2 := bF.belowAll hb2
      have hSl : S < w2.heap.size := (own_lt own2 S rfl).2
      clear cY lY bL bF bY1 hb2 g1 hq8 hnq B1
      unfold stateC
      obtain ⟨PB, hPB⟩ : ∃ PB, PB = w2.heap.size := ⟨_, rfl⟩
      obtain ⟨w3, hw3⟩ : ∃ w3, w3 = w2.alloc (.cells #[.slice (some ⟨S, 0, none⟩) n n, .slice none 0 0, .int .i64 0, .int .i64 (-1), .bool false] 33) := ⟨_, rfl⟩
      have bP3 : Blk w3 PB 33 #[.slice (some ⟨S, 0, none⟩) n n, .slice none 0 0, .int .i64 0, .int .i64 (-1), .bool false] := by rw [hw3, hPB]; exact Blk.new _ _ _
      have hb3 : Below w2.heap.size w2 w3 := by rw [hw3]; exact (Below.refl _ _).alloc (Nat.le_refl _) _
      have bL3 := bL2.belowAll hb3
      have bF3 := bF2.belowAll hb3
      have own3 := own_below own2 hb3
      have B3 := B2.trans (hb3.mono B2.size)
      have hSP : S < PB := by rw [hPB]; exact hSl
      have cL := bL2.cells
      have lL := bL2.lt
      go_wp2_with fail
      rw [← hw3, ← hPB]
      clear hw3 hPB cL lL bL2 bF2 own2 hb3 B2 hSl
      refine (regionsR_any s j i w3).mono ?_
      rintro e w4 ⟨rfl, hb4⟩
      obtain ⟨a1, M, a3, a4, a5, hv, hM⟩ : ∃ a1 M a3 a4 a5 : Int, rgV s j i = .agg #[.int .i64 a1, .int .i64 M, .int .i64 a3, .int .i64 a4, .int .i64 a5] ∧ (rgE s j i = 0 → M = 1 + j ∧ 8 ≤ j) := ⟨_, _, _, _, _, rfl, fun h => ⟨(rg_ok h).2.1, (rg_bds h).2.2.1⟩⟩
      rw [hv]
      obtain ⟨E, hE⟩ : ∃ E, rgE s j i = E := ⟨_, rfl⟩
      have HE := Lib.hid hE
      rw [hE] at hM ⊢
      have HM := Lib.hid hM
      clear hv hE hM
      obtain ⟨RB, hRB⟩ : ∃ RB, RB = w4.heap.size := ⟨_, rfl⟩
      obtain ⟨w5, hw5⟩ : ∃ w5, w5 = w4.alloc (.cells #[.int .i64 a1, .int .i64 M, .int .i64 a3, .int .i64 a4, .int .i64 a5] 38) := ⟨_, rfl⟩
      have bR5 : Blk w5 RB 38 #[.int .i64 a1, .int .i64 M, .int .i64 a3, .int .i64 a4, .int .i64 a5] := by rw [hw5, hRB]; exact Blk.new _ _ _
      have hb45 : Below w4.heap.size w4 w5 := by rw [hw5]; exact (Below.refl _ _).alloc (Nat.le_refl _) _
      have hb5 : Below w3.heap.size w3 w5 := hb4.trans (hb45.mono hb4.size)
      have bP5 := bP3.belowAll hb5
      have bL5 := bL3.belowAll hb5
      have bF5 := bF3.belowAll hb5
      have own5 := own_below own3 hb5
      have B5 := B3.trans (hb5.mono B3.size)
      go_upto_region 5 with fail
      rw [← hw5, ← hRB]
      have hPR : PB < RB := by rw [hRB]; exact Nat.lt_of_lt_of_le bP3.lt hb4.size
      clear hw5 hRB hb4 hb45 hb5 bP3 bL3 bF3 own3 B3
      go_cut [51] from 44 to 50 (fun s51 wx => s51 = .bool (inB E M n) ∧ wx = w5)
      case first =>
        as_aux_lemma =>
          have cR := bR5.cells
          have lR := bR5.lt
          by_cases hE : E = 0
          · have hd : (E == 0) = true := by simpa using hE
            go_wp2_with fail
            go_meet
            case rel => exact ⟨by unfold inB; rw [hd]; simp, rfl⟩
          · have hd : (E == 0) = false := by simpa using hE
            go_wp2_with fail
            go_meet
            case rel => exact ⟨by unfold inB; rw [hd]; simp, rfl⟩
      case rest =>
        obtain ⟨rfl, hwx⟩ := hcut
        replace hwx := hwx.symm
        subst hwx
        go_upto_if 51 with fail
        go_cut [11, 12, 13] from 51 to 89 (fun s11 s12 s13 wx => ∃ (l : List (List Int)) (u11 u12 u13 : Value), u11 = s11 ∧ u12 = s12 ∧ u13 = s13 ∧ Secs l n ∧ wx.ownsRow 0 42 128 (.slice (some ⟨S, 0, none⟩) n n) n (l.flatMap secV) ∧ Below w.heap.size w wx ∧ Blk wx PB 33 #[.slice (some ⟨S, 0, none⟩) n n, .slice none 0 0, .int .i64 0, .int .i64 (-1), .bool false] ∧ Blk wx bl 23 #[.int .i64 s, .int .i64 j, .int .i64 i])
        case first =>
          obtain ⟨bb, hbb⟩ : ∃ bb, bb = inB E M n := ⟨_, rfl⟩
          rw [← hbb]
          cases bb
          · as_aux_lemma =>
              clear hbb
              go_wp2_with fail
              go_meet
              case rel => exact ⟨List.replicate n zsec, _, _, _, rfl, rfl, rfl, zeros_secs hn, own_base own5 (Nat.zero_le _), B5, bP5, bL5⟩
          · as_aux_lemma =>
              obtain ⟨hE0, hMn⟩ := inB_true hbb.symm
              obtain ⟨hM1, hj8⟩ := HM.out hE0
              obtain ⟨pn, hpn⟩ := Int.eq_ofNat_of_zero_le (a := M) (by omega)
              clear hbb HM hE0 hM1
              subst hpn
              have hpl : pn < n := by omega
              clear hMn hj8
              have cR := bR5.cells
              have lR := bR5.lt
              have cF := bF5.cells
              have lF := bF5.lt
              go_wp2_with fail
              refine (rseal_any pn kd q d hd hq w5).mono ?_
              rintro e w6 ⟨hb6, rfl⟩
              obtain ⟨xs0, hxs⟩ : ∃ xs0, xs0 = if sealE pn kd d.size = 0 then sealL pn kd q d else zsec := ⟨_, rfl⟩
              have hx0 : xs0.length = 128 ∧ Bytes xs0 := by
                rw [hxs]
                split
                · rename_i h0
                  have h112 : d.size ≤ 112 := by
                    unfold sealE at h0
                    split at h0
                    · omega
                    · split at h0 <;> omega
                  exact ⟨sealL_length _ _ _ _ h112, sealL_bytes q h0⟩
                · exact ⟨zsec_length, zsec_bytes⟩
              rw [← hxs]
              clear hxs
              generalize sealE pn kd d.size = sE
              have bP6 := bP5.belowAll hb6
              have bL6 := bL5.belowAll hb6
              have bR6 := bR5.belowAll hb6
              have own6 := own_below own5 hb6
              have B6 := B5.trans (hb6.mono B5.size)
              have hz6 := B6.size
              clear cR lR cF lF hb6 bP5 bL5 bR5 bF5 own5 B5
              have bT : Blk (w6.alloc (.cells (bytesV zsec) 42)) w6.heap.size 42 (bytesV zsec) := Blk.new _ _ _
              go_wp2_with (refine wpList_storeSec rfl _ _ rfl w6.heap.size xs0 rfl rfl bT zsec_length hx0.1 ?_)
              obtain ⟨w7, hw7⟩ : ∃ w7, w7 = World.setRow (w6.alloc (.cells (bytesV zsec) 42)) w6.heap.size (bytesV xs0) := ⟨_, rfl⟩
              have hb7 : Below w6.heap.size w6 w7 := by rw [hw7]; exact Below.setRow ((Below.refl _ _).alloc (Nat.le_refl _) _) (Nat.le_refl _) _
              have bX7 : Blk w7 w6.heap.size 42 (bytesV xs0) := by rw [hw7]; exact bT.setRow
              rw [← hw7]
              clear hw7 bT
              go_loopw [13] (fun q wr => ∃ (k : Nat) (xs : List Int), k ≤ 128 ∧ q = .int .i64 k ∧ xs.length = 128 ∧ Bytes xs ∧ Blk wr w6.heap.size 42 (bytesV xs) ∧ Below w6.heap.size w6 wr) (fun q _ => 128 - (RowKit.intOf q).toNat)
              case atStart => exact ⟨0, xs0, by omega, rfl, hx0.1, hx0.2, bX7, hb7⟩
              case round =>
                obtain ⟨k, xs, hk, rfl, hxl, hxb, bX, hB⟩ := hrel
                clear hb7 bX7
                go_upto_region 8 with fail
                go_cut [75] from 64 to 74 (fun s75 wx => s75 = .bool (rawB sE raw.length k) ∧ wx = wr)
                case first =>
                  as_aux_lemma =>
                    by_cases h1 : sE = 0
                    · have d1 : (sE != 0) = false := by simpa using h1
                      go_wp2_with fail
                      go_meet
                      case rel => exact ⟨by unfold rawB; rw [d1]; rfl, rfl⟩
                    · have d1 : (sE != 0) = true := by simpa using h1
                      by_cases h2 : (k : Int) < raw.length
                      · have e2 : decide (k < raw.length) = true := decide_eq_true (by omega)
                        have e3 : decide ((k : Int) < 128) = decide (k < 128) := by rw [decide_eq_decide]; omega
                        clear h1
                        go_wp2_with fail
                        go_meet
                        case rel => exact ⟨by unfold rawB; rw [d1, e2]; simp, rfl⟩
                      · have e2 : decide (k < raw.length) = false := decide_eq_false (by omega)
                        clear h1
                        go_wp2_with fail
                        go_meet
                        case rel => exact ⟨by unfold rawB; rw [d1, e2]; rfl, rfl⟩
                case rest =>
                  obtain ⟨rfl, hwx⟩ := hcut
                  replace hwx := hwx.symm
                  subst hwx
                  obtain ⟨bb, hbb⟩ : ∃ bb, bb = rawB sE raw.length k := ⟨_, rfl⟩
                  rw [← hbb]
                  cases bb
                  rotate_left
                  · as_aux_lemma =>
                      obtain ⟨hkr, hk128⟩ := rawB_true hbb.symm
                      clear hbb
                      obtain ⟨b, off, rfl, hbr, hc⟩ := (HRR.out.below (B6.trans (hB.mono hz6))).at_ (k := k) (by simpa using hkr)
                      rw [List.getElem_map] at hc
                      have hv := HRW.out _ (List.getElem_mem hkr)
                      generalize raw[k] = v at hc hv
                      have fX := bX.free
                      have lX := bX.lt
                      have hcK : wr.cell? ⟨w6.heap.size, k, none⟩ = some (.int .u8 (xs.getD k 0)) := by rw [bX.cells]; exact bytesV_get (by omega)
                      go_wp2_with fail
                      go_roundw
                      case rel => exact ⟨k + 1, xs.set k v, by omega, by go_num, by rw [List.length_set]; exact hxl, bytes_set hxb k hv, by rw [← bytesV_set]; exact bX.set_ _ _, hB.setCell (p := ⟨w6.heap.size, k, none⟩) (Nat.le_refl _) _⟩
                      case measure => simp [RowKit.intOf]; omega
                  · as_aux_lemma =>
                      clear hbb
                      have bPr := bP6.belowAll hB
                      have bLr := bL6.belowAll hB
                      have bRr := bR6.belowAll hB
                      have ownr := own_below own6 hB
                      have Br := B6.trans (hB.mono hz6)
                      have hsx : (secV xs).length = 128 := by rw [secV_length, hxl]
                      obtain ⟨cur, bS, hfit, own'⟩ := own_setRow ownr (pn * 128) (secV xs) (by rw [hsx]; omega)
                      have hst2 := run_storeAt_row (P := Tryz.prog) (w := wr) (ty := 42) bS hfit (secV_one xs) (by rw [hsx]; exact sizeSec _)
                      have Bf := Below.setRow Br (g := S) (by omega) (cur.toList.take (pn * 128) ++ secV xs ++ cur.toList.drop (pn * 128 + (secV xs).length)).toArray
                      have bPf := bPr.rowFar (cs' := (cur.toList.take (pn * 128) ++ secV xs ++ cur.toList.drop (pn * 128 + (secV xs).length)).toArray) (show PB ≠ S by omega)
                      have bLf := bLr.rowFar (cs' := (cur.toList.take (pn * 128) ++ secV xs ++ cur.toList.drop (pn * 128 + (secV xs).length)).toArray) (show bl ≠ S by omega)
                      obtain ⟨W3, hW3⟩ : ∃ W3, W3 = wr.setRow S (cur.toList.take (pn * 128) ++ secV xs ++ cur.toList.drop (pn * 128 + (secV xs).length)).toArray := ⟨_, rfl⟩
                      rw [← hW3] at hst2 own' Bf bPf bLf
                      clear hW3 bS hfit
                      have ownf : W3.ownsRow 0 42 128 (.slice (some ⟨S, 0, none⟩) n n) n (((List.replicate n zsec).set pn xs).flatMap secV) := by
                        rw [flat_set (f := secV) (m := 128) (fun s hs => by obtain rfl := List.eq_of_mem_replicate hs; rw [secV_length, zsec_length]) hsx (by rw [List.length_replicate]; exact hpl)]
                        exact own_base own' (Nat.zero_le _)
                      have HF := Lib.hid ownf
                      have cP := bPr.cells
                      have lP := bPr.lt
                      have cR := bRr.cells
                      have lR := bRr.lt
                      clear own' ownf ownr own6 bP6 bL6 bR6 hB B6
                      go_wp2_with (first | (refine wpList_loadSec rfl _ rfl w6.heap.size rfl bX hxl ?_) | (refine wpList_storeBy rfl _ _ _ rfl _ _ rfl rfl hst2 ?_))
                      go_meet
                      case rel => exact ⟨(List.replicate n zsec).set pn xs, _, _, _, rfl, rfl, rfl, (zeros_secs hn).set pn ⟨hxl, hxb⟩, HF.out, Bf, bPf, bLf⟩
        case rest =>
          as_aux_lemma =>
            obtain ⟨l, u11, u12, u13, rfl, rfl, rfl, hsec, own, B, bP, bL⟩ := hcut
            clear bR5 bP5 bL5 bF5 own5 B5 HM HRR HRW hSP hPR hS0 hbl hwc
            have cP := bP.cells
            have lP := bP.lt
            go_wp2_with fail
            refine (load_plain hsec S n wc (HH.out.below B hp0) own).mono ?_
            rintro e v1 ⟨D, F, rfl, hd1, hb1, hF1⟩
            have bP1 := bP.belowAll hb1
            have bL1 := bL.belowAll hb1
            have own1 := own_below own hb1
            have B1 := B.trans (hb1.mono B.size)
            clear cP lP bP bL own B hb1 hF1
            have cL := bL1.cells
            have lL := bL1.lt
            go_wp2_with fail
            refine (begin_ptr hsec D s j i F v1 hd1).mono ?_
            rintro e v2 ⟨hb2, E1, p, hE1, rfl, hp⟩
            have bP2 := bP1.belowAll hb2
            have bL2 := bL1.belowAll hb2
            have own2 := own_below own1 hb2
            have B2 := B1.trans (hb2.mono B1.size)
            have hd2 := hd1.below hb2
            clear cL lL bP1 bL1 own1 B1 hb2 hd1
            have cP := bP2.cells
            have lP := bP2.lt
            have cL := bL2.cells
            have lL := bL2.lt
            go_wp2_with fail
            refine (rbegin_plain hsec S n s j i v2 own2).mono ?_
            rintro e v3 ⟨hb3, E2, cs, hE2, hcs, hone, rfl⟩
            obtain rfl := beginE_det hE1 hE2
            have bP3 := bP2.belowAll hb3
            have bL3 := bL2.belowAll hb3
            have own3 := own_below own2 hb3
            have B3 := B2.trans (hb3.mono B2.size)
            have hd3 := hd2.below hb3
            clear cP lP cL lL bP2 bL2 own2 B2 hb3 hd2 hE1 hE2
            have bX : Blk (v3.alloc (.cells txZ 56)) v3.heap.size 56 txZ := Blk.new _ _ _
            have hst := storeRow' (ty := 56) (vs := cs) bX (by rw [hcs]; rfl) hone (by rw [hcs]; kernel_rfl)
            obtain ⟨v4, hv4⟩ : ∃ v4, v4 = (v3.alloc (.cells txZ 56)).setRow v3.heap.size cs := ⟨_, rfl⟩
            have hb4 : Below v3.heap.size v3 v4 := by rw [hv4]; exact Below.setRow ((Below.refl _ _).alloc (Nat.le_refl _) _) (Nat.le_refl _) _
            rw [← hv4] at hst
            have bP4 := bP3.belowAll hb4
            have bL4 := bL3.belowAll hb4
            have own4 := own_below own3 hb4
            have B4 := B3.trans (hb4.mono B3.size)
            have hd4 := hd3.below hb4
            clear hv4 bP3 bL3 own3 B3 hb4 hd3 bX hcs hone
            go_wp2_with (refine wpList_storeBy rfl _ _ _ rfl _ _ rfl rfl hst ?_)
            clear hst
            go_cut [127] from 107 to 126 (fun s127 wx => s127 = .bool false ∧ Below v4.heap.size v4 wx)
            case first =>
              have hS : ∀ W, Below v4.heap.size v4 W → W.cell? ⟨PB, 0, none⟩ = some (.slice (some ⟨S, 0, none⟩) n n) ∧ W.cell? ⟨PB, 1, none⟩ = some (.slice none 0 0) ∧ W.cell? ⟨PB, 2, none⟩ = some (.int .i64 0) ∧ W.cell? ⟨PB, 3, none⟩ = some (.int .i64 (-1)) ∧ W.cell? ⟨PB, 4, none⟩ = some (.bool false) := fun W hW => by
                have c := (bP4.belowAll hW).cells
                exact ⟨(c 0).trans rfl, (c 1).trans rfl, (c 2).trans rfl, (c 3).trans rfl, (c 4).trans rfl⟩
              have HS := Lib.hid hS
              clear hS
              rcases hp with ⟨h0, rfl⟩ | ⟨rfl, T, rfl⟩
              rotate_left
              · as_aux_lemma =>
                  refine wp_region_mix [.take 0, .take 1, .take 2, .take 3, .take 4, .take 5, .take 6, .take 7, .take 8, .take 9, .take 10, .take 11, .take 12, .take 13, .take 14, .take 15, .take 17, .one 16, .one 18, .take 19, .take 20] 21 (fun W => W.cell? ⟨PB, 0, none⟩ = some (.slice (some ⟨S, 0, none⟩) n n) ∧ W.cell? ⟨PB, 1, none⟩ = some (.slice none 0 0) ∧ W.cell? ⟨PB, 2, none⟩ = some (.int .i64 0) ∧ W.cell? ⟨PB, 3, none⟩ = some (.int .i64 (-1)) ∧ W.cell? ⟨PB, 4, none⟩ = some (.bool false)) (by kernel_rfl) (by kernel_rfl) (fun _ _ _ _ _ h => h) (HS.out _ (Below.refl _ _).drew) ?_
                  simp only [List.map_cons, List.map_nil, Ms.fill, List.getD_cons_zero, List.getD_cons_succ]
                  iterate 17 (refine mixT_take (by rfl) ?_ (fun w' hw' => ?_) ?_; rotate_left; (focus (go_simp; (try with_reducible rfl))); (try simp only [Act.put, List.setIfInBounds_toArray, List.set_cons_zero, List.set_cons_succ]))
                  refine mixT_step (by rfl) fun K hK => ?_
                  go_simp
                  refine (save_plain hsec D F v4.drew (hd4.below (Below.refl _ _).drew)).mono ?_
                  rintro e v5 ⟨sv, cv, rfl, o1, o2, hb5'⟩
                  have hb5 : Below v4.heap.size v4 v5 := (Below.refl _ _).drew.trans hb5'
                  refine hK _ _ (fun _ => HS.out _ hb5) ?_
                  clear hK K hb5'
                  refine mixT_step (by rfl) fun K hK => ?_
                  go_simp
                  refine (same_plain hsec S n _ sv cv v5 (own_below own4 hb5) o1 o2).mono ?_
                  rintro e v6 ⟨rfl, hb6⟩
                  have B6 := hb5.trans (hb6.mono hb5.size)
                  refine hK _ _ (fun _ => HS.out _ B6) ?_
                  clear hK K hb6 hb5 o1 o2
                  iterate 2 (refine mixT_take (by rfl) ?_ (fun w' hw' => ?_) ?_; rotate_left; (focus (go_simp; (try with_reducible rfl))); (try simp only [Act.put, List.setIfInBounds_toArray, List.set_cons_zero, List.set_cons_succ]))
                  refine mixT_nil ?_
                  go_wp2_with fail
                  go_meet
                  case rel => exact ⟨rfl, B6⟩
              have h0' : (E1 != 0) = true := by simpa using h0
              clear h0
              · as_aux_lemma =>
                  refine wp_region_mix [.take 0, .take 1, .take 2, .take 3, .take 4, .take 5, .take 6, .take 7, .take 8, .take 9, .take 10, .take 11, .take 12, .take 13, .take 14, .take 15, .take 17, .one 16, .one 18, .take 19, .take 20] 21 (fun W => W.cell? ⟨PB, 0, none⟩ = some (.slice (some ⟨S, 0, none⟩) n n) ∧ W.cell? ⟨PB, 1, none⟩ = some (.slice none 0 0) ∧ W.cell? ⟨PB, 2, none⟩ = some (.int .i64 0) ∧ W.cell? ⟨PB, 3, none⟩ = some (.int .i64 (-1)) ∧ W.cell? ⟨PB, 4, none⟩ = some (.bool false)) (by kernel_rfl) (by kernel_rfl) (fun _ _ _ _ _ h => h) (HS.out _ (Below.refl _ _).drew) ?_
                  simp only [List.map_cons, List.map_nil, Ms.fill, List.getD_cons_zero, List.getD_cons_succ]
                  iterate 17 (refine mixT_take (by rfl) ?_ (fun w' hw' => ?_) ?_; rotate_left; (focus (go_simp; (try with_reducible rfl))); (try simp only [Act.put, List.setIfInBounds_toArray, List.set_cons_zero, List.set_cons_succ]))
                  refine mixT_step (by rfl) fun K hK => ?_
                  go_simp
                  refine (save_plain hsec D F v4.drew (hd4.below (Below.refl _ _).drew)).mono ?_
                  rintro e v5 ⟨sv, cv, rfl, o1, o2, hb5'⟩
                  have hb5 : Below v4.heap.size v4 v5 := (Below.refl _ _).drew.trans hb5'
                  refine hK _ _ (fun _ => HS.out _ hb5) ?_
                  clear hK K hb5'
                  refine mixT_step (by rfl) fun K hK => ?_
                  go_simp
                  refine (same_plain hsec S n _ sv cv v5 (own_below own4 hb5) o1 o2).mono ?_
                  rintro e v6 ⟨rfl, hb6⟩
                  have B6 := hb5.trans (hb6.mono hb5.size)
                  refine hK _ _ (fun _ => HS.out _ B6) ?_
                  clear hK K hb6 hb5 o1 o2
                  iterate 2 (refine mixT_take (by rfl) ?_ (fun w' hw' => ?_) ?_; rotate_left; (focus (go_simp; (try with_reducible rfl))); (try simp only [Act.put, List.setIfInBounds_toArray, List.set_cons_zero, List.set_cons_succ]))
                  refine mixT_nil ?_
                  go_wp2_with fail
                  go_meet
                  case rel => exact ⟨rfl, B6⟩
            case rest =>
              obtain ⟨rfl, hb5⟩ := hcut
              have B5 := B4.trans (hb5.mono B4.size)
              have bL5 := bL4.belowAll hb5
              clear bP4 bL4 own4 B4 hd4 hb5
              have cL := bL5.cells
              have lL := bL5.lt
              go_wp2_with fail
              refine (begin_nil s j i _).mono ?_
              rintro e v6 ⟨rfl, hb6⟩
              have B6 := B5.trans (hb6.mono B5.size)
              have bL6 := bL5.belowAll hb6
              clear cL lL bL5 B5 hb6
              have cL := bL6.cells
              have lL := bL6.lt
              have htf := tformat_nil s j i v6
              obtain ⟨NE, hNE⟩ : ∃ NE, nilE s j i = NE := ⟨_, rfl⟩
              have hdef : nilE s j i = if rgE s j i = 0 then 1 else rgE s j i := rfl
              rw [HE.out, hNE] at hdef
              rw [hNE] at htf ⊢
              clear hNE
              by_cases hE0 : E = 0
              · rw [if_pos hE0] at hdef
                subst hdef
                have d0 : (E == 0) = true := by simpa using hE0
                clear hE0 HE
                go_wp2_with fail
                refine htf.mono ?_
                rintro e v7 ⟨rfl, hb7⟩
                have B7 := B6.trans (hb7.mono B6.size)
                clear htf
                go_wp2_with fail
                refine (awake10_any v7 (HH.out.below B7 hp0)).mono ?_
                rintro e v8 ⟨rfl, hb8⟩
                go_wp2_with fail
                go_ret
                exact ⟨rfl, B7.trans (hb8.mono B7.size)⟩
              · rw [if_neg hE0] at hdef
                subst hdef
                have d0 : (NE == 0) = false := by simpa using hE0
                clear hE0 HE
                go_wp2_with fail
                refine htf.mono ?_
                rintro e v7 ⟨rfl, hb7⟩
                have B7 := B6.trans (hb7.mono B6.size)
                clear htf
                go_wp2_with fail
                refine (awake10_any v7 (HH.out.below B7 hp0)).mono ?_
                rintro e v8 ⟨rfl, hb8⟩
                go_wp2_with fail
                go_ret
                exact ⟨rfl, B7.trans (hb8.mono B7.size)⟩

end Go.Proofs.YtloddiipepiocaaGreatDoor
/- P10.2: TxnBegins: the row proved, and its tied card. -/
namespace Go.Proofs.YtloddiipepiocaaGreatDoor
open Go.ChangeShapes Go.WideShapes Go.ChangeAt Go.RowKit Go.Joins Go.Deep

theorem Tryz.cellsIntB : Tryz.prog.cellsOf 3 = 1 := by kernel_rfl
theorem Tryz.cellsU8B : Tryz.prog.cellsOf 5 = 1 := by kernel_rfl
theorem Tryz.cellsU32B : Tryz.prog.cellsOf 24 = 1 := by kernel_rfl
theorem Tryz.cellsStrB : Tryz.prog.cellsOf 9 = 1 := by kernel_rfl
theorem Tryz.cellsBytesB : Tryz.prog.cellsOf 27 = 1 := by kernel_rfl
theorem Tryz.cellsLayB : Tryz.prog.cellsOf 23 = 3 := by kernel_rfl
theorem Tryz.cellsFrB : Tryz.prog.cellsOf 26 = 3 := by kernel_rfl
theorem Tryz.cellsBitmap : Tryz.prog.cellsOf 29 = 8 := by kernel_rfl
theorem wfB_u8 {f : Int} (h : (Lit.int .u8 f).wf = true) : 0 ≤ f ∧ f ≤ 255 := by
  simp [Lit.wf, IntKind.min, IntKind.max, IntKind.bits, IntKind.signed] at h; omega
theorem wfB_u32 {f : Int} (h : (Lit.int .u32 f).wf = true) : 0 ≤ f ∧ f < 4294967296 := by
  simp [Lit.wf, IntKind.min, IntKind.max, IntKind.bits, IntKind.signed] at h; omega

section
variable {H : Type} {enc : TypeId × Value → H} {W : World}
set_option maxRecDepth 100000 in
theorem open_bytesB {fuel : Nat} {v : Value} {x : DataW H × List MemPlace} (h : DataW.trod enc Tryz.prog W 0 (fun _ => true) true fuel 27 [v] = some x) :
    ∃ (A : Option Addr) (c : Nat) (xs : List Int), v = .slice A xs.length c ∧ Reads W A (xs.map (.int .u8)) ∧ Bytes xs := by
  obtain ⟨A, n, c, xs, h1, h2, h3, h4, h5, h6, -⟩ := open_rows (fun a : Int => [Value.int .u8 a]) (fun a => 0 ≤ a ∧ a < 256) 1 (by omega) Tryz.underlying27 Tryz.cellsU8B (fun n cs x _ hx => by
    obtain ⟨z, rfl, _, w⟩ := DataW.trod_int Tryz.underlying5 hx
    exact ⟨z, rfl, by have := wfB_u8 w; omega⟩) h
  subst h2
  have e : xs.flatMap (fun a : Int => [Value.int .u8 a]) = xs.map (.int .u8) := by
    clear h1 h3 h4 h5 h6
    induction xs with
    | nil => rfl
    | cons a t ih => rw [List.flatMap_cons, ih]; rfl
  rw [e] at h3
  exact ⟨A, c, xs, h1, h3, fun a ha => (h4 a ha).2⟩
set_option maxRecDepth 100000 in
theorem open_layB {fuel : Nat} {cs : List Value} (hsz : cs.length = 3) {x : DataW H × List MemPlace} (h : DataW.trod enc Tryz.prog W 0 (fun _ => true) true fuel 23 cs = some x) :
    ∃ s j i : Int, cs = [.int .i64 s, .int .i64 j, .int .i64 i] := by
  match cs, hsz with
  | [c0, c1, c2], _ =>
    obtain ⟨xs, n, _, _, _, hlen, hg⟩ := DataW.trod_struct Tryz.underlying23 h
    have g0 : DataW.trod enc Tryz.prog W 0 (fun _ => true) true n 3 [c0] = xs[0]? := by have := hg 0 _ rfl; simpa [Tryz.cellsIntB, Value.cells] using this
    have g1 : DataW.trod enc Tryz.prog W 0 (fun _ => true) true n 3 [c1] = xs[1]? := by have := hg 1 _ rfl; simpa [Tryz.cellsIntB, Value.cells] using this
    have g2 : DataW.trod enc Tryz.prog W 0 (fun _ => true) true n 3 [c2] = xs[2]? := by have := hg 2 _ rfl; simpa [Tryz.cellsIntB, Value.cells] using this
    clear hg
    match xs, hlen with
    | [y0, y1, y2], _ =>
      simp only [List.getElem?_cons_zero, List.getElem?_cons_succ] at g0 g1 g2
      obtain ⟨a0, e0, _, _⟩ := DataW.trod_int Tryz.underlying3 g0
      obtain ⟨a1, e1, _, _⟩ := DataW.trod_int Tryz.underlying3 g1
      obtain ⟨a2, e2, _, _⟩ := DataW.trod_int Tryz.underlying3 g2
      simp at e0 e1 e2
      subst e0 e1 e2
      exact ⟨a0, a1, a2, rfl⟩
set_option maxRecDepth 100000 in
theorem open_frB {fuel : Nat} {cs : List Value} (hsz : cs.length = 3) {x : DataW H × List MemPlace} (h : DataW.trod enc Tryz.prog W 0 (fun _ => true) true fuel 26 cs = some x) :
    ∃ (k q : Int) (d : ByteArray), cs = [.int .i64 k, .int .u32 q, .string d] ∧ (0 ≤ q ∧ q < 4294967296) ∧ d.size ≤ maxLen := by
  match cs, hsz with
  | [c0, c1, c2], _ =>
    obtain ⟨xs, n, _, _, _, hlen, hg⟩ := DataW.trod_struct Tryz.underlying26 h
    have g0 : DataW.trod enc Tryz.prog W 0 (fun _ => true) true n 3 [c0] = xs[0]? := by have := hg 0 _ rfl; simpa [Tryz.cellsIntB, Value.cells] using this
    have g1 : DataW.trod enc Tryz.prog W 0 (fun _ => true) true n 24 [c1] = xs[1]? := by have := hg 1 _ rfl; simpa [Tryz.cellsU32B, Value.cells] using this
    have g2 : DataW.trod enc Tryz.prog W 0 (fun _ => true) true n 9 [c2] = xs[2]? := by have := hg 2 _ rfl; simpa [Tryz.cellsStrB, Value.cells] using this
    clear hg
    match xs, hlen with
    | [y0, y1, y2], _ =>
      simp only [List.getElem?_cons_zero, List.getElem?_cons_succ] at g0 g1 g2
      obtain ⟨a0, e0, _, _⟩ := DataW.trod_int Tryz.underlying3 g0
      obtain ⟨a1, e1, _, w1⟩ := DataW.trod_int Tryz.underlying24 g1
      obtain ⟨a2, e2, _, w2⟩ := DataW.trod_string Tryz.underlying9 g2
      simp at e0 e1 e2
      subst e0 e1 e2
      exact ⟨a0, a1, a2, rfl, wfB_u32 w1, w2⟩
set_option maxRecDepth 100000 in
theorem open_bitmap {r : Reach} {b0 : Nat} {v : Value} {dd : DataW H} {p : List MemPlace} (hv : Value.okWide Tryz.prog W r b0 29 v) (h : DataW.Trod enc Tryz.prog W 0 (fun _ => true) true 29 v dd p) :
    ∃ (k8 s j i kd q : Int) (d : ByteArray) (A : Option Addr) (ca : Nat) (raw : List Int), v = .agg #[.int .u8 k8, .int .i64 s, .int .i64 j, .int .i64 i, .int .i64 kd, .int .u32 q, .string d, .slice A raw.length ca] ∧ (0 ≤ k8 ∧ k8 ≤ 255) ∧ (0 ≤ q ∧ q < 4294967296) ∧ d.size ≤ maxLen ∧ Bytes raw ∧ Reads W A (raw.map (.int .u8)) := by
  obtain ⟨cs, rfl, hsz⟩ := okWide_struct Tryz.underlying29 hv
  rw [Tryz.cellsBitmap] at hsz
  obtain ⟨l0⟩ := cs
  obtain ⟨fuel, hf⟩ := h
  have hf2 : DataW.trod enc Tryz.prog W 0 (fun _ => true) true fuel 29 l0 = some (dd, p) := by simpa [Value.cells] using hf
  match l0, hsz with
  | [c0, c1, c2, c3, c4, c5, c6, c7], _ =>
    obtain ⟨xs, n, _, _, _, hlen, hg⟩ := DataW.trod_struct Tryz.underlying29 hf2
    have g0 : DataW.trod enc Tryz.prog W 0 (fun _ => true) true n 5 [c0] = xs[0]? := by have := hg 0 _ rfl; simpa [Tryz.cellsU8B, Value.cells] using this
    have g1 : DataW.trod enc Tryz.prog W 0 (fun _ => true) true n 23 [c1, c2, c3] = xs[1]? := by have := hg 1 _ rfl; simpa [Tryz.cellsLayB, Tryz.cellsU8B, Value.cells] using this
    have g2 : DataW.trod enc Tryz.prog W 0 (fun _ => true) true n 26 [c4, c5, c6] = xs[2]? := by have := hg 2 _ rfl; simpa [Tryz.cellsFrB, Value.cells] using this
    have g3 : DataW.trod enc Tryz.prog W 0 (fun _ => true) true n 27 [c7] = xs[3]? := by have := hg 3 _ rfl; simpa [Tryz.cellsBytesB, Value.cells] using this
    clear hg
    match xs, hlen with
    | [y0, y1, y2, y3], _ =>
      simp only [List.getElem?_cons_zero, List.getElem?_cons_succ] at g0 g1 g2 g3
      obtain ⟨a0, e0, _, w0⟩ := DataW.trod_int Tryz.underlying5 g0
      simp at e0
      subst e0
      obtain ⟨s, j, i, e1⟩ := open_layB rfl g1
      obtain ⟨kd, q, d, e2, hq, hd⟩ := open_frB rfl g2
      obtain ⟨A, ca, raw, rfl, hR, hB⟩ := open_bytesB g3
      simp only [List.cons.injEq, and_true] at e1 e2
      obtain ⟨rfl, rfl, rfl⟩ := e1
      obtain ⟨rfl, rfl, rfl⟩ := e2
      exact ⟨a0, s, j, i, kd, q, d, A, ca, raw, rfl, wfB_u8 w0, hq, hd, hB, hR⟩
end

set_option maxRecDepth 100000 in
theorem txnBegins_lifted (os : Os) (started : os.Started) (H : Type) (enc : TypeId × Value → H) :
    ReturnsInHanded {} Tryz.checked os 3 .any (fun w args => (Rows.txnBeginsSpec.pre enc Tryz.prog Tryz.f3 [] false w args ∧ laidMetH Tryz.prog half1 w) ∧ sizedMet enc Tryz.prog Tryz.f3 (OpenSpec.ofChange Rows.txnBeginsSpec) false w args)
      (Rows.txnBeginsSpec.post enc Tryz.prog Tryz.f3 false true false false) := by
  refine returnsInHanded_of_change_and (C := Tryz.checked) (X := fun w _ => laidMetH Tryz.prog half1 w) (fun _ _ _ hh h => h.of_heap hh) Tryz.own started (by kernel_rfl) Tryz.func3
    (ChangeSpec.witness_shaped (enc := enc) (C := Tryz.checked) (os := os) (X := fun w _ => laidMetH Tryz.prog half1 w) false (World.doorLaid Tryz.prog 400 os) #[.agg #[.int .u8 0, .int .i64 0, .int .i64 0, .int .i64 0, .int .i64 0, .int .u32 0, .string ⟨#[]⟩, .slice none 0 0]] 8 rfl (World.shaped_of_RefB (by kernel_rfl) (by kernel_rfl)) (by kernel_rfl) (by kernel_rfl) (by kernel_rfl) (door_met os _)) ?_
  intro W base args ds gs before hval0 hW _ _ hL _
  have hval : ∀ (j : Nat) t v, Tryz.f3.params[j]? = some t → args[j]? = some v → Value.okWide Tryz.prog W .any base t v := hval0
  have hW' := hW
  obtain ⟨p, q, hA0, hV, rfl, hfz, hnd⟩ := hW
  have hA : DataW.TrodAll enc Tryz.prog W 0 (fun _ => true) true Tryz.f3.params.toList args.toList ds p := hA0
  rw [Tryz.params3] at hA hval
  obtain ⟨v0, d0, rfl, rfl, h0⟩ := trodAll_one hA
  obtain ⟨rfl, rfl⟩ := trodVars_none hV
  have hH := half_of_laid hL
  have h0k := h0
  clear hA0 hval0
  simp only [List.append_nil] at hW'
  have hlt0 : ∀ x ∈ p, x.block < W.heap.size := fun x hx => by simpa using hW'.lt x (by simpa using hx)
  obtain ⟨k8, s, j, i, kd, fq, d, A, ca, raw, rfl, h8, hfq, hd, hB, hR⟩ := open_bitmap (hval 0 29 v0 rfl rfl) h0
  refine (txnBegins_any k8 h8 s j i kd fq hfq d hd A ca raw hB W hH hR).mono fun e W' ⟨he, hnx⟩ => ?_
  subst he
  refine ⟨_, rfl, _, _, _, [], p, [], hW', ?_, ?_, rfl, hnx.frame _, fun h => by cases h⟩
  · exact trodAll_mk1 (shut_bool Tryz.underlying4 true)
  · exact trodAll_mk1 (Below.trod Tryz.laidOut (by kernel_rfl) (of_decide_eq_true (by kernel_rfl)) h0k hnx hlt0)

theorem txnBegins_holds : Rows.TxnBeginsSaid :=
  OpenClaim.holds_of_wide 3 Tryz.f3 rfl rfl rfl rfl rfl rfl rfl ⟨rfl, rfl, rfl, rfl, rfl⟩ rfl rfl rfl rfl rfl (by kernel_rfl) Tryz.func3 (by kernel_rfl)
    (of_decide_eq_true (by kernel_rfl)) (by unfold Func.isWrapper; first | (rw [if_pos (by decide +kernel)]; kernel_rfl) | (rw [if_neg (by decide +kernel)]; exact ⟨rfl, rfl⟩))
    (fun os started H enc _ => txnBegins_lifted os started H enc)

theorem txnBeginsCard_holds : Rows.TxnBeginsCardSaid :=
  Claim7.holds_tied_plain_at .later [] [.data] true (true, "99fd337e20665d0c70c332cf449ba0241daa6b4c50fcbe9616be7e8ae9377a8f") false
    txnBegins_holds (fun _ h => by cases h) (by kernel_rfl) (fun _ h => by cases h) txnBegins_row_tie rfl ⟨rfl, rfl⟩ (by kernel_rfl) rfl
    (fun f fn hf hfn => by
      obtain rfl : f = 3 := Option.some.inj ((show Tryz.prog.funcNamed "limewash/limewashlaw10.TxnBegins" = some 3 by kernel_rfl).symm.trans hf) |>.symm
      obtain rfl : fn = Tryz.f3 := (Option.some.inj (Tryz.func3.symm.trans hfn)).symm
      exact ⟨by kernel_rfl, fun j t ht => by
        rw [Tryz.params3] at ht
        have hm : t ∈ [29] := by simpa using Array.mem_of_getElem? ht
        have hall : ([29].all fun u => !Tryz.prog.wantsStandIn u) = true := by kernel_rfl
        exact (show Tryz.prog.wantsStandIn t = false by simpa using List.all_eq_true.1 hall t hm)⟩)
    (by kernel_rfl)

#print axioms txnBeginsCard_holds
end Go.Proofs.YtloddiipepiocaaGreatDoor
