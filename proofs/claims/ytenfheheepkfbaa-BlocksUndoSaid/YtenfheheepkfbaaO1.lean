/- Arguments opened: a slice of one-cell elements as a list; a state. -/
import Derived.Test.YtenfheheepkfbaaL2
import Derived.Test.YtenfheheepkfbaaProg
import Derived.ProofKit
import Derived.Deep.Slices
namespace Go.Proofs.Ytenfheheepkfbaa
open Go.ChangeShapes Go.WideShapes Go.ChangeAt Go.RowKit Go.Deep

theorem list_of {α : Type} (q : Nat → α → Prop) (n : Nat) (h : ∀ i, i < n → ∃ a, q i a) : ∃ xs : List α, xs.length = n ∧ ∀ i (hi : i < xs.length), q i xs[i] := by
  induction n with
  | zero => exact ⟨[], rfl, fun i hi => by simp at hi⟩
  | succ n ih =>
    obtain ⟨xs, hl, hx⟩ := ih (fun i hi => h i (by omega))
    obtain ⟨a, ha⟩ := h n (by omega)
    refine ⟨xs ++ [a], by simp [hl], fun i hi => ?_⟩
    by_cases hin : i < xs.length
    · rw [List.getElem_append_left hin]; exact hx i hin
    · have : i = n := by simp at hi; omega
      subst this
      rw [List.getElem_append_right (by omega)]
      simpa [hl] using ha

/-- A slice of one-cell elements that came in. -/
theorem open_cells {H : Type} {enc : TypeId × Value → H} {P : Program} {W : World} {α : Type} (mk : α → Value) {t e : TypeId} {fuel : Nat} {v : Value} {x : DataW H × List MemPlace} (ht : P.underlying t = some (.slice e)) (hC : P.cellsOf e = 1)
    (hel : ∀ n cs x, DataW.trod enc P W 0 (fun _ => true) true n e cs = some x → ∃ a, cs = [mk a])
    (h : DataW.trod enc P W 0 (fun _ => true) true fuel t [v] = some x) :
    ∃ (A : Option Addr) (n c : Nat) (xs : List α), v = .slice A n c ∧ xs.length = n ∧ Reads W A (xs.map mk) ∧ n ≤ c ∧ c ≤ maxLen ∧ (A = none → n = 0 ∧ c = 0) := by
  rcases open_slice ht h with ⟨h0, _⟩ | ⟨a, len, cap, m, n, D, Pl, hcs, hb, hl, hm, hmm, hx, hi⟩
  · simp only [List.cons.injEq, and_true] at h0
    subst h0
    exact ⟨none, 0, 0, [], rfl, rfl, Reads.nil, Nat.le_refl _, Nat.zero_le _, fun _ => ⟨rfl, rfl⟩⟩
  · simp only [List.cons.injEq, and_true] at hcs
    subst hcs
    simp only [if_true] at hmm
    have hat : ∀ i, i < len → ∃ u : α, W.cell? (a.add i) = some (mk u) := by
      intro i hi'
      obtain ⟨cs', hc, ht'⟩ := hi i (by omega)
      rw [hC, Nat.mul_one] at hc
      obtain ⟨u, rfl⟩ := hel n cs' _ ht'
      obtain ⟨_, _, hat⟩ := World.cells?_some hc
      have := hat 0 (by omega)
      refine ⟨u, ?_⟩
      simpa [Addr.add] using this
    obtain ⟨xs, hxl, hxs⟩ := list_of (fun i u => W.cell? (a.add i) = some (mk u)) len hat
    refine ⟨some a, len, cap, xs, rfl, hxl, ?_, hl, hm, fun h => by cases h⟩
    rcases Nat.eq_zero_or_pos len with h0 | h0
    · left
      have : xs = [] := List.eq_nil_of_length_eq_zero (by omega)
      simp [this]
    · right
      obtain ⟨b, off, spot⟩ := a
      have h1 := hxs 0 (by omega)
      have hspot : spot = none := by simpa [Addr.add] using World.cell?_spot h1
      subst hspot
      refine ⟨b, off, rfl, ?_, fun j u hu => ?_⟩
      · have := World.block_lt_of_cell? W _ h1
        simpa [Addr.add] using this
      · rw [List.getElem?_map] at hu
        by_cases hj : j < xs.length
        · rw [List.getElem?_eq_getElem hj, Option.map_some, Option.some.injEq] at hu
          subst hu
          have := hxs j hj
          unfold Addr.add at this
          split at this
          · rename_i hj0; subst hj0; simpa using this
          · exact this
        · rw [List.getElem?_eq_none (by omega)] at hu; simp at hu

theorem Try.cellsBool : Try.prog.cellsOf 4 = 1 := by kernel_rfl
theorem Try.cellsInt : Try.prog.cellsOf 3 = 1 := by kernel_rfl
theorem Try.cellsU8 : Try.prog.cellsOf 5 = 1 := by kernel_rfl
theorem Try.cellsLayout : Try.prog.cellsOf 23 = 3 := by kernel_rfl
theorem Try.cellsState : Try.prog.cellsOf 26 = 4 := by kernel_rfl
theorem Try.cellsBools : Try.prog.cellsOf 24 = 1 := by kernel_rfl

section
variable {H : Type} {enc : TypeId × Value → H} {W : World}

theorem open_bools {fuel : Nat} {v : Value} {x : DataW H × List MemPlace} (h : DataW.trod enc Try.prog W 0 (fun _ => true) true fuel 24 [v] = some x) :
    ∃ (A : Option Addr) (n c : Nat) (xs : List Bool), v = .slice A n c ∧ xs.length = n ∧ Reads W A (xs.map Value.bool) ∧ n ≤ c ∧ c ≤ maxLen ∧ (A = none → n = 0 ∧ c = 0) :=
  open_cells Value.bool Try.underlying24 Try.cellsBool (fun n cs x hx => by obtain ⟨b, rfl, _⟩ := DataW.trod_bool Try.underlying4 hx; exact ⟨b, rfl⟩) h

/-- A state that came in. -/
theorem open_state {r : Reach} {b0 : Nat} {v : Value} {d : DataW H} {p : List MemPlace} (hv : Value.okWide Try.prog W r b0 26 v) (h : DataW.Trod enc Try.prog W 0 (fun _ => true) true 26 v d p) :
    ∃ (s j i : Int) (A : Option Addr) (n c : Nat) (us : List Bool), v = .agg #[.int .i64 s, .int .i64 j, .int .i64 i, .slice A n c] ∧ us.length = n ∧ Reads W A (us.map Value.bool) ∧ n ≤ c ∧ c ≤ maxLen ∧ (A = none → n = 0 ∧ c = 0) := by
  obtain ⟨cs, rfl, hsz⟩ := okWide_struct Try.underlying26 hv
  rw [Try.cellsState] at hsz
  obtain ⟨l⟩ := cs
  match l, hsz with
  | [c0, c1, c2, c3], _ =>
    obtain ⟨fuel, hf⟩ := h
    obtain ⟨xs, n, _, _, _, hlen, hg⟩ := DataW.trod_struct Try.underlying26 hf
    have g0 : DataW.trod enc Try.prog W 0 (fun _ => true) true n 23 [c0, c1, c2] = xs[0]? := by have := hg 0 _ rfl; simpa [Try.cellsLayout, Value.cells] using this
    have g1 : DataW.trod enc Try.prog W 0 (fun _ => true) true n 24 [c3] = xs[1]? := by have := hg 1 _ rfl; simpa [Try.cellsBools, Value.cells] using this
    clear hg
    match xs, hlen with
    | [y0, y1], _ =>
      simp only [List.getElem?_cons_zero, List.getElem?_cons_succ] at g0 g1
      obtain ⟨ys, m, _, _, _, hlen2, hg2⟩ := DataW.trod_struct Try.underlying23 g0
      have k0 : DataW.trod enc Try.prog W 0 (fun _ => true) true m 3 [c0] = ys[0]? := by have := hg2 0 _ rfl; simpa [Try.cellsInt] using this
      have k1 : DataW.trod enc Try.prog W 0 (fun _ => true) true m 3 [c1] = ys[1]? := by have := hg2 1 _ rfl; simpa [Try.cellsInt] using this
      have k2 : DataW.trod enc Try.prog W 0 (fun _ => true) true m 3 [c2] = ys[2]? := by have := hg2 2 _ rfl; simpa [Try.cellsInt] using this
      clear hg2
      match ys, hlen2 with
      | [z0, z1, z2], _ =>
        simp only [List.getElem?_cons_zero, List.getElem?_cons_succ] at k0 k1 k2
        obtain ⟨s, e0, _, _⟩ := DataW.trod_int Try.underlying3 k0
        obtain ⟨j, e1, _, _⟩ := DataW.trod_int Try.underlying3 k1
        obtain ⟨i, e2, _, _⟩ := DataW.trod_int Try.underlying3 k2
        simp at e0 e1 e2
        subst e0 e1 e2
        obtain ⟨A, n, c, us, rfl, q1, q2, q3, q4, q5⟩ := open_bools g1
        exact ⟨s, j, i, A, n, c, us, rfl, q1, q2, q3, q4, q5⟩
end

end Go.Proofs.Ytenfheheepkfbaa
