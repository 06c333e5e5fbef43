/- BlocksRegions, walked. -/
import Derived.Test.YtenfheheepkfbaaK2
namespace Go.Proofs.Ytenfheheepkfbaa
open Go.RowKit

theorem sector_in (s j i b : Int) (w : World) (hE : rgE s j i = 0) (h0 : 0 ≤ b) (h1 : b < s - (1 + j + 1 + i)) :
    Calls Try.prog 22 #[.agg #[.int .i64 s, .int .i64 j, .int .i64 i], .int .i64 b] w fun e w' => e = .returned (.tuple #[.int .i64 (1 + j + 1 + i + b), .int .i64 0]) ∧ Below w.heap.size w w' := by
  obtain ⟨_, _, _, hD, hB⟩ := rg_ok hE
  have h2 : SecE s j i b = 0 := by unfold SecE; rw [if_pos hE, if_neg (by omega)]
  have h3 : SecV s j i b = 1 + j + 1 + i + b := by unfold SecV; rw [if_pos h2, hD]; omega
  refine (sector_any s j i b w).mono fun e w' ⟨he, hb⟩ => ⟨by rw [he, h2, h3], hb⟩
theorem sector_end (s j i b : Int) (w : World) (hE : rgE s j i = 0) (h1 : s - (1 + j + 1 + i) ≤ b) :
    Calls Try.prog 22 #[.agg #[.int .i64 s, .int .i64 j, .int .i64 i], .int .i64 b] w fun e w' => e = .returned (.tuple #[.int .i64 0, .int .i64 7]) ∧ Below w.heap.size w w' := by
  obtain ⟨_, _, _, hD, hB⟩ := rg_ok hE
  have h2 : SecE s j i b = 7 := by unfold SecE; rw [if_pos hE, if_pos (by omega)]
  have h3 : SecV s j i b = 0 := by unfold SecV; rw [if_neg (by omega)]
  refine (sector_any s j i b w).mono fun e w' ⟨he, hb⟩ => ⟨by rw [he, h2, h3], hb⟩

set_option maxRecDepth 100000 in
set_option maxHeartbeats 2000000 in
theorem regionsLaw_any (s j i : Int) (w : World) :
    Calls Try.prog 6 #[.agg #[.int .i64 s, .int .i64 j, .int .i64 i]] w fun e w' => e = .returned (.bool true) ∧ Below w.heap.size w w' := by
  by_cases hE : rgE s j i = 0
  · have hV : rgV s j i = .agg #[.int .i64 1, .int .i64 (1 + j), .int .i64 (1 + j + 1), .int .i64 (1 + j + 1 + i), .int .i64 (s - (1 + j + 1 + i))] := by
      obtain ⟨a1, a2, a3, a4, a5⟩ := rg_ok hE
      have e2 : (2 : Int) + j = 1 + j + 1 := by omega
      simp only [rgV, a1, a2, a3, a4, a5, e2]
    have HR : Hid (∀ w, Calls Try.prog 20 #[.agg #[.int .i64 s, .int .i64 j, .int .i64 i]] w fun e w' => e = .returned (.tuple #[.agg #[.int .i64 1, .int .i64 (1 + j), .int .i64 (1 + j + 1), .int .i64 (1 + j + 1 + i), .int .i64 (s - (1 + j + 1 + i))], .int .i64 0]) ∧ Below w.heap.size w w') :=
      Lib.hid fun w => (regions_any s j i w).mono fun e w' ⟨he, hb⟩ => ⟨by rw [he, hV, hE], hb⟩
    obtain ⟨q1, q2, q3, q4, q5, q6, q7⟩ := rg_bds hE
    have HE := Lib.hid hE
    clear hE hV
    go_enter Try.func6, Try.ntmps6
    go_wp2_with fail
    refine (HR.out _).mono ?_
    rintro e w1 ⟨rfl, hb1⟩
    have bL : Blk w1 w.heap.size 23 #[.int .i64 s, .int .i64 j, .int .i64 i] := Blk.belowAll (by (repeat' (first | (with_reducible assumption) | exact Blk.new' (by simp) | refine Blk.alloc ?_ _))) hb1
    have B1 := below1 hb1
    have cL := bL.cells
    have z1 := sz1 hb1
    clear hb1 HR
    go_wp2_with fail
    obtain ⟨W1, hW1⟩ : ∃ W1, W1 = w1.alloc (.cells #[.int .i64 1, .int .i64 (1 + j), .int .i64 (1 + j + 1), .int .i64 (1 + j + 1 + i), .int .i64 (s - (1 + j + 1 + i))] 42) := ⟨_, rfl⟩
    rw [← hW1]
    have bL1 : Blk W1 w.heap.size 23 #[.int .i64 s, .int .i64 j, .int .i64 i] := by rw [hW1]; exact bL.alloc _
    have bR1 : Blk W1 w1.heap.size 42 #[.int .i64 1, .int .i64 (1 + j), .int .i64 (1 + j + 1), .int .i64 (1 + j + 1 + i), .int .i64 (s - (1 + j + 1 + i))] := by rw [hW1]; exact Blk.new _ _ _
    have B2 : Below w.heap.size w W1 := by rw [hW1]; exact B1.alloc B1.size _
    clear hW1 bL cL B1
    go_loopw [5] (fun q wr => ∃ k : Nat, (k : Int) ≤ s - (1 + j + 1 + i) ∧ q = .int .i64 k ∧ Below W1.heap.size W1 wr) (fun q _ => (s - (1 + j + 1 + i)).toNat - (intOf q).toNat)
    case atStart => exact ⟨0, by omega, rfl, Below.refl _ _⟩
    case round =>
      obtain ⟨k, hk, rfl, hnx⟩ := hrel
      have bL2 := bL1.belowAll hnx
      have bR2 := bR1.belowAll hnx
      have cL := bL2.cells
      have cR := bR2.cells
      have lL := bL2.lt
      have lR := bR2.lt
      have B3 := B2.trans (hnx.mono B2.size)
      by_cases hlt : (k : Int) < s - (1 + j + 1 + i)
      · go_wp2_with fail
        refine (sector_in s j i k _ HE.out (by omega) hlt).mono ?_
        rintro e w3 ⟨rfl, hb3⟩
        have cL := (bL2.belowAll hb3).cells
        have cR := (bR2.belowAll hb3).cells
        have B4 := hnx.trans (hb3.mono hnx.size)
        clear hb3
        go_wp2_with fail
        go_roundw
        case rel => exact ⟨k + 1, by omega, by go_num, B4⟩
        case measure => simp [intOf]; omega
      · go_wp2_with fail
        refine (sector_end s j i _ _ HE.out (by omega)).mono ?_
        rintro e w3 ⟨rfl, hb3⟩
        have B4 := B3.trans (hb3.mono B3.size)
        clear hb3
        go_wp2_with fail
        refine (awake_any _).mono ?_
        rintro e w4 ⟨rfl, hb4⟩
        have B5 := B4.trans (hb4.mono B4.size)
        clear hb4
        go_wp2_with fail
        go_ret
        exact ⟨rfl, B5⟩
  · have hV : rgV s j i = .agg #[.int .i64 0, .int .i64 0, .int .i64 0, .int .i64 0, .int .i64 0] := by
      obtain ⟨a1, a2, a3, a4, a5⟩ := rg_zero hE
      simp only [rgV, a1, a2, a3, a4, a5]
    have HR : Hid (∀ w, Calls Try.prog 20 #[.agg #[.int .i64 s, .int .i64 j, .int .i64 i]] w fun e w' => e = .returned (.tuple #[.agg #[.int .i64 0, .int .i64 0, .int .i64 0, .int .i64 0, .int .i64 0], .int .i64 (rgE s j i)]) ∧ Below w.heap.size w w') :=
      Lib.hid fun w => (regions_any s j i w).mono fun e w' ⟨he, hb⟩ => ⟨by rw [he, hV], hb⟩
    have hE2 : (rgE s j i != 0) = true := by simpa using hE
    clear hE hV
    go_enter Try.func6, Try.ntmps6
    go_wp2_with fail
    refine (HR.out _).mono ?_
    rintro e w1 ⟨rfl, hb1⟩
    have B1 := below1 hb1
    have z1 := sz1 hb1
    clear hb1 HR
    go_wp2_with fail
    refine (awake_any _).mono ?_
    rintro e w4 ⟨rfl, hb4⟩
    have B5 := B1.trans ((below1 hb4).mono B1.size)
    clear hb4
    go_wp2_with fail
    go_ret
    exact ⟨rfl, B5⟩

end Go.Proofs.Ytenfheheepkfbaa
