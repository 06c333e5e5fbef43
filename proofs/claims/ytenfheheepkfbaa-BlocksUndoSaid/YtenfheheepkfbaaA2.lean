/- Regions. -/
import Derived.Test.YtenfheheepkfbaaA1
namespace Go.Proofs.Ytenfheheepkfbaa
open Go.RowKit

theorem outside_out (n lo hi : Int) (w : World) :
    Calls Try.prog 38 #[.int .i64 n, .int .i64 lo, .int .i64 hi] w fun e w' => e = .returned (.bool (outB n lo hi)) ∧ w = w' :=
  (outside_any n lo hi w).mono fun e w' ⟨he, hw⟩ => ⟨by rw [he, outB], hw⟩
theorem within_out (n lo hi : Int) (w : World) :
    Calls Try.prog 41 #[.int .i64 n, .int .i64 lo, .int .i64 hi] w fun e w' => e = .returned (.bool (!outB n lo hi)) ∧ w = w' :=
  (within_any n lo hi w).mono fun e w' ⟨he, hw⟩ => ⟨by rw [he, outB]; simp only [Ending.returned.injEq, Value.bool.injEq]; by_cases h1 : n < lo <;> by_cases h2 : hi < n <;> simp [h1, h2] <;> omega, hw⟩

def rgV (s j i : Int) : Value := .agg #[.int .i64 (rgJ s j i), .int .i64 (rgM s j i), .int .i64 (rgT s j i), .int .i64 (rgD s j i), .int .i64 (rgB s j i)]

def RgPost (s j i : Int) (w : World) (e : Ending) (w' : World) : Prop :=
  e = .returned (.tuple #[rgV s j i, .int .i64 (rgE s j i)]) ∧ Below w.heap.size w w'


set_option maxHeartbeats 400000 in
theorem regions_any (s j i : Int) (w : World) :
    Calls Try.prog 20 #[.agg #[.int .i64 s, .int .i64 j, .int .i64 i]] w (RgPost s j i w) := by
  by_cases h1 : s < 64 ∨ 256 < s
  · have d1 := outB_yes h1
    go_enter Try.func20, Try.ntmps20
    go_wp2_with (go_at_call 38; refine (outside_out _ _ _ _).mono ?_; rintro e w' ⟨rfl, rfl⟩)
    refine bodyPost_ret (v := .tuple #[.agg #[.int .i64 0, .int .i64 0, .int .i64 0, .int .i64 0, .int .i64 0], .int .i64 7]) (by simp [results, Try.results20, go_sem]) rfl ?_
    have e7 := rgE_7 (s := s) (j := j) (i := i) (by omega)
    obtain ⟨a1, a2, a3, a4, a5⟩ := rg_zero (s := s) (j := j) (i := i) (by omega)
    exact ⟨by simp only [rgV, e7, a1, a2, a3, a4, a5], by (repeat' (first | (with_reducible exact Below.refl _ _) | (with_reducible assumption) | (with_reducible refine Below.alloc ?_ ?_ _) | (with_reducible refine Below.drew ?_) | (with_reducible refine Below.setCell ?_ ?_ _) | (with_reducible exact Nat.le_refl _) | omega | (simp; done) | (simp; omega)))⟩
  have d1 := outB_no h1
  by_cases h2 : j < 8 ∨ 96 < j
  · have d2 := outB_yes h2
    go_enter Try.func20, Try.ntmps20
    go_wp2_with (go_at_call 38; refine (outside_out _ _ _ _).mono ?_; rintro e w' ⟨rfl, rfl⟩)
    refine bodyPost_ret (v := .tuple #[.agg #[.int .i64 0, .int .i64 0, .int .i64 0, .int .i64 0, .int .i64 0], .int .i64 7]) (by simp [results, Try.results20, go_sem]) rfl ?_
    have e7 := rgE_7 (s := s) (j := j) (i := i) (by omega)
    obtain ⟨a1, a2, a3, a4, a5⟩ := rg_zero (s := s) (j := j) (i := i) (by omega)
    exact ⟨by simp only [rgV, e7, a1, a2, a3, a4, a5], by (repeat' (first | (with_reducible exact Below.refl _ _) | (with_reducible assumption) | (with_reducible refine Below.alloc ?_ ?_ _) | (with_reducible refine Below.drew ?_) | (with_reducible refine Below.setCell ?_ ?_ _) | (with_reducible exact Nat.le_refl _) | omega | (simp; done) | (simp; omega)))⟩
  have d2 := outB_no h2
  by_cases h3 : i < 1 ∨ 60 < i
  · have d3 := outB_yes h3
    go_enter Try.func20, Try.ntmps20
    go_wp2_with (go_at_call 38; refine (outside_out _ _ _ _).mono ?_; rintro e w' ⟨rfl, rfl⟩)
    refine bodyPost_ret (v := .tuple #[.agg #[.int .i64 0, .int .i64 0, .int .i64 0, .int .i64 0, .int .i64 0], .int .i64 7]) (by simp [results, Try.results20, go_sem]) rfl ?_
    have e7 := rgE_7 (s := s) (j := j) (i := i) (by omega)
    obtain ⟨a1, a2, a3, a4, a5⟩ := rg_zero (s := s) (j := j) (i := i) (by omega)
    exact ⟨by simp only [rgV, e7, a1, a2, a3, a4, a5], by (repeat' (first | (with_reducible exact Below.refl _ _) | (with_reducible assumption) | (with_reducible refine Below.alloc ?_ ?_ _) | (with_reducible refine Below.drew ?_) | (with_reducible refine Below.setCell ?_ ?_ _) | (with_reducible exact Nat.le_refl _) | omega | (simp; done) | (simp; omega)))⟩
  have d3 := outB_no h3
  by_cases h4 : s - (2 + j + i) < 8
  · skip
    go_enter Try.func20, Try.ntmps20
    go_wp2_with (go_at_call 38; refine (outside_out _ _ _ _).mono ?_; rintro e w' ⟨rfl, rfl⟩)
    refine bodyPost_ret (v := .tuple #[.agg #[.int .i64 0, .int .i64 0, .int .i64 0, .int .i64 0, .int .i64 0], .int .i64 5]) (by simp [results, Try.results20, go_sem]) rfl ?_
    have e7 := rgE_5 (s := s) (j := j) (i := i) (by omega) (by omega)
    obtain ⟨a1, a2, a3, a4, a5⟩ := rg_zero (s := s) (j := j) (i := i) (by omega)
    exact ⟨by simp only [rgV, e7, a1, a2, a3, a4, a5], by (repeat' (first | (with_reducible exact Below.refl _ _) | (with_reducible assumption) | (with_reducible refine Below.alloc ?_ ?_ _) | (with_reducible refine Below.drew ?_) | (with_reducible refine Below.setCell ?_ ?_ _) | (with_reducible exact Nat.le_refl _) | omega | (simp; done) | (simp; omega)))⟩
  · skip
    go_enter Try.func20, Try.ntmps20
    go_wp2_with (go_at_call 38; refine (outside_out _ _ _ _).mono ?_; rintro e w' ⟨rfl, rfl⟩)
    refine bodyPost_ret (v := .tuple #[.agg #[.int .i64 1, .int .i64 (1 + j), .int .i64 (1 + j + 1), .int .i64 (1 + j + 1 + i), .int .i64 (s - (1 + j + 1 + i))], .int .i64 0]) (by simp [results, Try.results20, go_sem]) rfl ?_
    have e7 := rgE_0 (s := s) (j := j) (i := i) (by omega) (by omega)
    obtain ⟨a1, a2, a3, a4, a5⟩ := rg_ok (s := s) (j := j) (i := i) e7
    refine ⟨?_, by (repeat' (first | (with_reducible exact Below.refl _ _) | (with_reducible assumption) | (with_reducible refine Below.alloc ?_ ?_ _) | (with_reducible refine Below.drew ?_) | (with_reducible refine Below.setCell ?_ ?_ _) | (with_reducible exact Nat.le_refl _) | omega | (simp; done) | (simp; omega)))⟩
    simp only [rgV, e7, a1, a2, a3, a4, a5]
    simp; omega

set_option maxHeartbeats 400000 in
theorem regionsR_any (s j i : Int) (w : World) :
    Calls Try.prog 21 #[.agg #[.int .i64 s, .int .i64 j, .int .i64 i]] w (RgPost s j i w) := by
  by_cases h1 : s < 64 ∨ 256 < s
  · have d1 := outB_yes h1
    go_enter Try.func21, Try.ntmps21
    go_wp2_with (go_at_call 41; refine (within_out _ _ _ _).mono ?_; rintro e w' ⟨rfl, rfl⟩)
    refine bodyPost_ret (v := .tuple #[.agg #[.int .i64 0, .int .i64 0, .int .i64 0, .int .i64 0, .int .i64 0], .int .i64 7]) (by simp [results, Try.results21, go_sem]) rfl ?_
    have e7 := rgE_7 (s := s) (j := j) (i := i) (by omega)
    obtain ⟨a1, a2, a3, a4, a5⟩ := rg_zero (s := s) (j := j) (i := i) (by omega)
    exact ⟨by simp only [rgV, e7, a1, a2, a3, a4, a5], by (repeat' (first | (with_reducible exact Below.refl _ _) | (with_reducible assumption) | (with_reducible refine Below.alloc ?_ ?_ _) | (with_reducible refine Below.drew ?_) | (with_reducible refine Below.setCell ?_ ?_ _) | (with_reducible exact Nat.le_refl _) | omega | (simp; done) | (simp; omega)))⟩
  have d1 := outB_no h1
  by_cases h2 : j < 8 ∨ 96 < j
  · have d2 := outB_yes h2
    go_enter Try.func21, Try.ntmps21
    go_wp2_with (go_at_call 41; refine (within_out _ _ _ _).mono ?_; rintro e w' ⟨rfl, rfl⟩)
    refine bodyPost_ret (v := .tuple #[.agg #[.int .i64 0, .int .i64 0, .int .i64 0, .int .i64 0, .int .i64 0], .int .i64 7]) (by simp [results, Try.results21, go_sem]) rfl ?_
    have e7 := rgE_7 (s := s) (j := j) (i := i) (by omega)
    obtain ⟨a1, a2, a3, a4, a5⟩ := rg_zero (s := s) (j := j) (i := i) (by omega)
    exact ⟨by simp only [rgV, e7, a1, a2, a3, a4, a5], by (repeat' (first | (with_reducible exact Below.refl _ _) | (with_reducible assumption) | (with_reducible refine Below.alloc ?_ ?_ _) | (with_reducible refine Below.drew ?_) | (with_reducible refine Below.setCell ?_ ?_ _) | (with_reducible exact Nat.le_refl _) | omega | (simp; done) | (simp; omega)))⟩
  have d2 := outB_no h2
  by_cases h3 : i < 1 ∨ 60 < i
  · have d3 := outB_yes h3
    go_enter Try.func21, Try.ntmps21
    go_wp2_with (go_at_call 41; refine (within_out _ _ _ _).mono ?_; rintro e w' ⟨rfl, rfl⟩)
    refine bodyPost_ret (v := .tuple #[.agg #[.int .i64 0, .int .i64 0, .int .i64 0, .int .i64 0, .int .i64 0], .int .i64 7]) (by simp [results, Try.results21, go_sem]) rfl ?_
    have e7 := rgE_7 (s := s) (j := j) (i := i) (by omega)
    obtain ⟨a1, a2, a3, a4, a5⟩ := rg_zero (s := s) (j := j) (i := i) (by omega)
    exact ⟨by simp only [rgV, e7, a1, a2, a3, a4, a5], by (repeat' (first | (with_reducible exact Below.refl _ _) | (with_reducible assumption) | (with_reducible refine Below.alloc ?_ ?_ _) | (with_reducible refine Below.drew ?_) | (with_reducible refine Below.setCell ?_ ?_ _) | (with_reducible exact Nat.le_refl _) | omega | (simp; done) | (simp; omega)))⟩
  have d3 := outB_no h3
  by_cases h4 : s - (2 + j + i) < 8
  · skip
    go_enter Try.func21, Try.ntmps21
    go_wp2_with (go_at_call 41; refine (within_out _ _ _ _).mono ?_; rintro e w' ⟨rfl, rfl⟩)
    refine bodyPost_ret (v := .tuple #[.agg #[.int .i64 0, .int .i64 0, .int .i64 0, .int .i64 0, .int .i64 0], .int .i64 5]) (by simp [results, Try.results21, go_sem]) rfl ?_
    have e7 := rgE_5 (s := s) (j := j) (i := i) (by omega) h4
    obtain ⟨a1, a2, a3, a4, a5⟩ := rg_zero (s := s) (j := j) (i := i) (by omega)
    exact ⟨by simp only [rgV, e7, a1, a2, a3, a4, a5], by (repeat' (first | (with_reducible exact Below.refl _ _) | (with_reducible assumption) | (with_reducible refine Below.alloc ?_ ?_ _) | (with_reducible refine Below.drew ?_) | (with_reducible refine Below.setCell ?_ ?_ _) | (with_reducible exact Nat.le_refl _) | omega | (simp; done) | (simp; omega)))⟩
  · skip
    go_enter Try.func21, Try.ntmps21
    go_wp2_with (go_at_call 41; refine (within_out _ _ _ _).mono ?_; rintro e w' ⟨rfl, rfl⟩)
    refine bodyPost_ret (v := .tuple #[.agg #[.int .i64 1, .int .i64 (1 + j), .int .i64 (1 + j + 1), .int .i64 (1 + j + 1 + i), .int .i64 (s - (1 + j + 1 + i))], .int .i64 0]) (by simp [results, Try.results21, go_sem]) rfl ?_
    have e7 := rgE_0 (s := s) (j := j) (i := i) (by omega) (by omega)
    obtain ⟨a1, a2, a3, a4, a5⟩ := rg_ok (s := s) (j := j) (i := i) e7
    refine ⟨?_, by (repeat' (first | (with_reducible exact Below.refl _ _) | (with_reducible assumption) | (with_reducible refine Below.alloc ?_ ?_ _) | (with_reducible refine Below.drew ?_) | (with_reducible refine Below.setCell ?_ ?_ _) | (with_reducible exact Nat.le_refl _) | omega | (simp; done) | (simp; omega)))⟩
    simp only [rgV, e7, a1, a2, a3, a4, a5]
    simp; omega

end Go.Proofs.Ytenfheheepkfbaa
