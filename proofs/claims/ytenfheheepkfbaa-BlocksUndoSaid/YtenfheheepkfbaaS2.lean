/- Sector. -/
import Derived.Test.YtenfheheepkfbaaA4
import Derived.Test.YtenfheheepkfbaaL2
namespace Go.Proofs.Ytenfheheepkfbaa
open Go.RowKit

theorem rgD_bds (s j i : Int) : 0 ≤ rgD s j i ∧ rgD s j i ≤ 256 := by
  unfold rgD; split
  · rename_i h; have := rg_bds h; omega
  · omega

def SecE (s j i b : Int) : Int := if rgE s j i = 0 then (if b < 0 ∨ rgB s j i - 1 < b then 7 else 0) else rgE s j i
def SecV (s j i b : Int) : Int := if SecE s j i b = 0 then rgD s j i + b else 0
def SecPost (s j i b : Int) (w : World) (e : Ending) (w' : World) : Prop := e = .returned (.tuple #[.int .i64 (SecV s j i b), .int .i64 (SecE s j i b)]) ∧ Below w.heap.size w w'
theorem ret_two {a b a' b' : Int} (h : a = a') (h2 : b = b') : Ending.returned (.tuple #[.int .i64 a, .int .i64 b]) = .returned (.tuple #[.int .i64 a', .int .i64 b']) := by rw [h, h2]

set_option maxHeartbeats 1000000 in
theorem sector_any (s j i b : Int) (w : World) :
    Calls Try.prog 22 #[.agg #[.int .i64 s, .int .i64 j, .int .i64 i], .int .i64 b] w (SecPost s j i b w) := by
  have hBd := rgB_bds s j i
  have hDd := rgD_bds s j i
  by_cases hE : rgE s j i = 0
  · have hE1 : (rgE s j i == 0) = true := by simpa using hE
    have hE2 : (rgE s j i != 0) = false := by simpa using hE
    by_cases ho : b < 0 ∨ rgB s j i - 1 < b
    all_goals
      first | have hO := outB_yes ho | have hO := outB_no ho
      first | (have hse : SecE s j i b = 7 := by simp only [SecE, if_pos hE, if_pos ho]) | (have hse : SecE s j i b = 0 := by simp only [SecE, if_pos hE, if_neg ho])
      first | (have hsv : SecV s j i b = 0 := by simp only [SecV, hse]; rfl) | (have hsv : SecV s j i b = rgD s j i + b := by simp only [SecV, hse, if_true])
      have HSE := Lib.hid hse
      have HSV := Lib.hid hsv
      have HE := Lib.hid hE
      clear hse hsv hE
      first | (have hbd : 0 ≤ b ∧ b ≤ 256 := by omega) | skip
      go_enter Try.func22, Try.ntmps22
      go_wp2_with fail
      refine (regions_any _ _ _ _).mono ?_
      rintro e w1 ⟨rfl, hb1⟩
      have hb2 := below1 hb1
      have hzz := hb2.size
      unfold rgV
      go_wp2_with (go_at_call 38; refine (outside_out _ _ _ _).mono ?_; rintro e w' ⟨rfl, rfl⟩)
      go_ret2
      exact ⟨ret_two HSV.out.symm HSE.out.symm, by (repeat' (first | (with_reducible exact Below.refl _ _) | (with_reducible assumption) | (with_reducible refine Below.alloc ?_ ?_ _) | (with_reducible refine Below.drew ?_) | (with_reducible refine below_drewN' ?_ _) | (with_reducible refine Below.setCell ?_ ?_ _) | (with_reducible exact Nat.le_refl _) | omega | (simp; done) | (simp; omega)))⟩
  · have hE1 : (rgE s j i == 0) = false := by simpa using hE
    have hE2 : (rgE s j i != 0) = true := by simpa using hE
    have hse : SecE s j i b = rgE s j i := by simp only [SecE, if_neg hE]
    have hsv : SecV s j i b = 0 := by simp only [SecV, hse, if_neg hE]
    have HSE := Lib.hid hse
    have HSV := Lib.hid hsv
    have HE := Lib.hid hE
    clear hse hsv hE
    go_enter Try.func22, Try.ntmps22
    go_wp2_with fail
    refine (regions_any _ _ _ _).mono ?_
    rintro e w1 ⟨rfl, hb1⟩
    have hb2 := below1 hb1
    have hzz := hb2.size
    unfold rgV
    go_wp2_with fail
    go_ret2
    exact ⟨ret_two HSV.out.symm HSE.out.symm, by (repeat' (first | (with_reducible exact Below.refl _ _) | (with_reducible assumption) | (with_reducible refine Below.alloc ?_ ?_ _) | (with_reducible refine Below.drew ?_) | (with_reducible refine below_drewN' ?_ _) | (with_reducible refine Below.setCell ?_ ?_ _) | (with_reducible exact Nat.le_refl _) | omega | (simp; done) | (simp; omega)))⟩

set_option maxHeartbeats 1000000 in
theorem sectorR_any (s j i b : Int) (w : World) :
    Calls Try.prog 23 #[.agg #[.int .i64 s, .int .i64 j, .int .i64 i], .int .i64 b] w (SecPost s j i b w) := by
  have hBd := rgB_bds s j i
  have hDd := rgD_bds s j i
  by_cases hE : rgE s j i = 0
  · have hE1 : (rgE s j i == 0) = true := by simpa using hE
    have hE2 : (rgE s j i != 0) = false := by simpa using hE
    by_cases ho : b < 0 ∨ rgB s j i - 1 < b
    all_goals
      first | have hO := outB_yes ho | have hO := outB_no ho
      first | (have hse : SecE s j i b = 7 := by simp only [SecE, if_pos hE, if_pos ho]) | (have hse : SecE s j i b = 0 := by simp only [SecE, if_pos hE, if_neg ho])
      first | (have hsv : SecV s j i b = 0 := by simp only [SecV, hse]; rfl) | (have hsv : SecV s j i b = rgD s j i + b := by simp only [SecV, hse, if_true])
      have HSE := Lib.hid hse
      have HSV := Lib.hid hsv
      have HE := Lib.hid hE
      clear hse hsv hE
      first | (have hbd : 0 ≤ b ∧ b ≤ 256 := by omega) | skip
      go_enter Try.func23, Try.ntmps23
      go_wp2_with fail
      refine (regionsR_any _ _ _ _).mono ?_
      rintro e w1 ⟨rfl, hb1⟩
      have hb2 := below1 hb1
      have hzz := hb2.size
      unfold rgV
      go_wp2_with (go_at_call 41; refine (within_out _ _ _ _).mono ?_; rintro e w' ⟨rfl, rfl⟩)
      go_ret2
      exact ⟨ret_two HSV.out.symm HSE.out.symm, by (repeat' (first | (with_reducible exact Below.refl _ _) | (with_reducible assumption) | (with_reducible refine Below.alloc ?_ ?_ _) | (with_reducible refine Below.drew ?_) | (with_reducible refine below_drewN' ?_ _) | (with_reducible refine Below.setCell ?_ ?_ _) | (with_reducible exact Nat.le_refl _) | omega | (simp; done) | (simp; omega)))⟩
  · have hE1 : (rgE s j i == 0) = false := by simpa using hE
    have hE2 : (rgE s j i != 0) = true := by simpa using hE
    have hse : SecE s j i b = rgE s j i := by simp only [SecE, if_neg hE]
    have hsv : SecV s j i b = 0 := by simp only [SecV, hse, if_neg hE]
    have HSE := Lib.hid hse
    have HSV := Lib.hid hsv
    have HE := Lib.hid hE
    clear hse hsv hE
    go_enter Try.func23, Try.ntmps23
    go_wp2_with fail
    refine (regionsR_any _ _ _ _).mono ?_
    rintro e w1 ⟨rfl, hb1⟩
    have hb2 := below1 hb1
    have hzz := hb2.size
    unfold rgV
    go_wp2_with fail
    go_ret2
    exact ⟨ret_two HSV.out.symm HSE.out.symm, by (repeat' (first | (with_reducible exact Below.refl _ _) | (with_reducible assumption) | (with_reducible refine Below.alloc ?_ ?_ _) | (with_reducible refine Below.drew ?_) | (with_reducible refine below_drewN' ?_ _) | (with_reducible refine Below.setCell ?_ ?_ _) | (with_reducible exact Nat.le_refl _) | omega | (simp; done) | (simp; omega)))⟩

set_option maxHeartbeats 400000 in
theorem far_any (s j i : Int) (A : Option Addr) (n c : Nat) (w : World) (hn : n ≤ maxLen) :
    Calls Try.prog 11 #[.agg #[.int .i64 s, .int .i64 j, .int .i64 i, .slice A n c]] w fun e w' => e = .returned (.bool (decide (300 < n))) ∧ Below w.heap.size w w' := by
  unfold maxLen at hn
  by_cases h : 300 < n
  all_goals
    have H := Lib.hid h
    go_enter Try.func11, Try.ntmps11
    go_wp2
    go_ret
    exact ⟨by have := H.out; simp [this] <;> omega, by (repeat' (first | (with_reducible exact Below.refl _ _) | (with_reducible assumption) | (with_reducible refine Below.alloc ?_ ?_ _) | (with_reducible refine Below.drew ?_) | (with_reducible refine below_drewN' ?_ _) | (with_reducible refine Below.setCell ?_ ?_ _) | (with_reducible exact Nat.le_refl _) | omega | (simp; done) | (simp; omega)))⟩

set_option maxHeartbeats 400000 in
theorem example_any (w : World) : Calls Try.prog 37 #[] w fun e w' => e = .returned (.agg #[.int .i64 64, .int .i64 8, .int .i64 40]) ∧ Below w.heap.size w w' := by
  go_enter Try.func37, Try.ntmps37
  go_wp2
  refine bodyPost_ret (v := .agg #[.int .i64 64, .int .i64 8, .int .i64 40]) (by simp [results, Try.results37, go_sem]) rfl ?_
  exact ⟨rfl, by (repeat' (first | (with_reducible exact Below.refl _ _) | (with_reducible assumption) | (with_reducible refine Below.alloc ?_ ?_ _) | (with_reducible refine Below.drew ?_) | (with_reducible refine below_drewN' ?_ _) | (with_reducible refine Below.setCell ?_ ?_ _) | (with_reducible exact Nat.le_refl _) | omega | (simp; done) | (simp; omega)))⟩

end Go.Proofs.Ytenfheheepkfbaa
