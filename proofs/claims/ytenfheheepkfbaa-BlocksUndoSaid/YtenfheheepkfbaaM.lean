/- Plain mathematics of layer 8: no program in sight. -/
namespace Go.Proofs.Ytenfheheepkfbaa

/-- The error of a layout. -/
def rgE (s j i : Int) : Int := if s < 64 ∨ 256 < s ∨ j < 8 ∨ 96 < j ∨ i < 1 ∨ 60 < i then 7 else if s - (2 + j + i) < 8 then 5 else 0
def rgJ (s j i : Int) : Int := if rgE s j i = 0 then 1 else 0
def rgM (s j i : Int) : Int := if rgE s j i = 0 then 1 + j else 0
def rgT (s j i : Int) : Int := if rgE s j i = 0 then 2 + j else 0
def rgD (s j i : Int) : Int := if rgE s j i = 0 then 2 + j + i else 0
def rgB (s j i : Int) : Int := if rgE s j i = 0 then s - (2 + j + i) else 0

theorem rgE_7 {s j i : Int} (h : s < 64 ∨ 256 < s ∨ j < 8 ∨ 96 < j ∨ i < 1 ∨ 60 < i) : rgE s j i = 7 := by simp [rgE, h]
theorem rgE_5 {s j i : Int} (h : ¬ (s < 64 ∨ 256 < s ∨ j < 8 ∨ 96 < j ∨ i < 1 ∨ 60 < i)) (h' : s - (2 + j + i) < 8) : rgE s j i = 5 := by simp [rgE, h, h']
theorem rgE_0 {s j i : Int} (h : ¬ (s < 64 ∨ 256 < s ∨ j < 8 ∨ 96 < j ∨ i < 1 ∨ 60 < i)) (h' : ¬ s - (2 + j + i) < 8) : rgE s j i = 0 := by simp only [rgE, if_neg h, if_neg h']
theorem rgE_cases (s j i : Int) : rgE s j i = 7 ∨ rgE s j i = 5 ∨ rgE s j i = 0 := by
  unfold rgE
  repeat' split
  all_goals simp
theorem rg_zero {s j i : Int} (h : rgE s j i ≠ 0) : rgJ s j i = 0 ∧ rgM s j i = 0 ∧ rgT s j i = 0 ∧ rgD s j i = 0 ∧ rgB s j i = 0 := by simp [rgJ, rgM, rgT, rgD, rgB, h]
theorem rg_ok {s j i : Int} (h : rgE s j i = 0) : rgJ s j i = 1 ∧ rgM s j i = 1 + j ∧ rgT s j i = 2 + j ∧ rgD s j i = 2 + j + i ∧ rgB s j i = s - (2 + j + i) := by simp [rgJ, rgM, rgT, rgD, rgB, h]
theorem rg_bds {s j i : Int} (h : rgE s j i = 0) : 64 ≤ s ∧ s ≤ 256 ∧ 8 ≤ j ∧ j ≤ 96 ∧ 1 ≤ i ∧ i ≤ 60 ∧ 8 ≤ s - (2 + j + i) := by
  unfold rgE at h
  repeat' split at h
  all_goals omega
theorem rgB_bds (s j i : Int) : 0 ≤ rgB s j i ∧ rgB s j i ≤ 256 := by
  unfold rgB; split
  · rename_i h; have := rg_bds h; omega
  · omega

/-- Is a number outside of a range? -/
def outB (n lo hi : Int) : Bool := decide (n < lo) || decide (hi < n)
theorem outB_yes {n lo hi : Int} (h : n < lo ∨ hi < n) : outB n lo hi = true := by simp [outB]; omega
theorem outB_no {n lo hi : Int} (h : ¬ (n < lo ∨ hi < n)) : outB n lo hi = false := by simp [outB]; omega
end Go.Proofs.Ytenfheheepkfbaa
