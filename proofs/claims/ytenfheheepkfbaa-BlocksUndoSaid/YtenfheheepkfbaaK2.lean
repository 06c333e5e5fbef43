/- awake. -/
import Derived.Test.YtenfheheepkfbaaK1
namespace Go.Proofs.Ytenfheheepkfbaa
open Go.RowKit

set_option maxRecDepth 100000 in
set_option maxHeartbeats 2000000 in
theorem awake_any (w : World) : Calls Try.prog 12 #[] w fun e w' => e = .returned (.bool true) ∧ Below w.heap.size w w' := by
  have hrg := regions_any 64 8 40
  have hrv : rgV 64 8 40 = .agg #[.int .i64 1, .int .i64 9, .int .i64 10, .int .i64 50, .int .i64 14] := by
    have h1 : rgJ 64 8 40 = 1 ∧ rgM 64 8 40 = 9 ∧ rgT 64 8 40 = 10 ∧ rgD 64 8 40 = 50 ∧ rgB 64 8 40 = 14 := by decide
    simp only [rgV, h1]
  have HRV := Lib.hid hrv
  have HRG := Lib.hid hrg
  clear hrv hrg
  go_enter Try.func12, Try.ntmps12
  go_wp2_with fail
  refine (example_any _).mono ?_
  rintro e w1 ⟨rfl, hb1⟩
  go_wp2_with fail
  refine (HRG.out _).mono ?_
  rintro e w2 ⟨rfl, hb2⟩
  rw [HRV.out, rgL.1]
  go_wp2_with fail
  refine (example_any _).mono ?_
  rintro e w3 ⟨rfl, hb3⟩
  have bR : Blk w3 w2.heap.size 42 #[.int .i64 1, .int .i64 9, .int .i64 10, .int .i64 50, .int .i64 14] := Blk.belowAll (by (repeat' (first | (with_reducible assumption) | exact Blk.new' (by simp) | refine Blk.alloc ?_ _))) hb3
  have B3 : Below w.heap.size w w3 := hb1.trans ((hb2.trans ((below1 hb3).mono hb2.size)).mono hb1.size)
  have z3 : w2.heap.size < w3.heap.size := bR.lt
  clear hb1 hb2 hb3
  go_wp2_with fail
  refine (new_L _).mono ?_
  rintro e w4 ⟨b, rfl, hRs, hb4⟩
  replace bR := bR.belowAll hb4
  have B4 := B3.trans (hb4.mono B3.size)
  have z4 := hb4.size
  clear hb4 B3
  go_wp2_with fail
  refine (allocA_L _ _ _ (hRs.alloc _)).mono ?_
  rintro e w5 ⟨g, cap, av, cv, rfl, ho5, hl5, hb5⟩
  have hr5 := Reads.of_own ho5
  have hi5 := Reads.of_own hl5
  replace bR := Blk.belowAll (Blk.alloc bR _) hb5
  have B5 := B4.trans ((below1 hb5).mono B4.size)
  have z5 := sz1 hb5
  clear hb5 B4 hRs ho5 hl5
  go_wp2_with fail
  refine (allocB_L _ _ _ (hr5.alloc _)).mono ?_
  rintro e w6 ⟨g2, cap2, av2, cv2, rfl, ho6, hl6, hb6⟩
  have bT : Blk w6 w5.heap.size 26 #[.int .i64 64, .int .i64 8, .int .i64 40, .slice (some ⟨g, 0, none⟩) 14 cap] := Blk.belowAll (by (repeat' (first | (with_reducible assumption) | exact Blk.new' (by simp) | refine Blk.alloc ?_ _))) hb6
  replace bR := Blk.belowAll (Blk.alloc bR _) hb6
  have b56 := below1 hb6
  have B6 := B5.trans (b56.mono B5.size)
  have z6 := sz1 hb6
  have y5 := B5.size
  have ho6' := own_base ho6 (base' := w5.heap.size + 1) (by simp)
  have hl6' := own_base hl6 (base' := w5.heap.size + 1) (by simp)
  have cT := bT.cells
  have fT := bT.free
  clear hb6 B5 hr5 ho6 hl6
  go_wp2_with fail
  obtain ⟨W7, hW7⟩ : ∃ W7, W7 = (((w6.setCell ⟨w5.heap.size, 0, none⟩ (.int .i64 64)).setCell ⟨w5.heap.size, 1, none⟩ (.int .i64 8)).setCell ⟨w5.heap.size, 2, none⟩ (.int .i64 40)).setCell ⟨w5.heap.size, 3, none⟩ (.slice (some ⟨g2, 0, none⟩) 14 cap2) := ⟨_, rfl⟩
  rw [← hW7]
  have hr7 : Reads W7 (some ⟨g2, 0, none⟩) (usC.map .bool) := by
    rw [hW7]; exact Reads.of_own (ownsRow_setCell_below (ownsRow_setCell_below (ownsRow_setCell_below (ownsRow_setCell_below ho6' (by simp) _) (by simp) _) (by simp) _) (by simp) _)
  have hj7 : Reads W7 av2 (([1] : List Int).map (.int .i64)) := by
    rw [hW7]; exact Reads.of_own (ownsRow_setCell_below (ownsRow_setCell_below (ownsRow_setCell_below (ownsRow_setCell_below hl6' (by simp) _) (by simp) _) (by simp) _) (by simp) _)
  have b57 : Below w5.heap.size w5 W7 := by rw [hW7]; (repeat' (first | (with_reducible exact Below.refl _ _) | (with_reducible assumption) | (with_reducible refine Below.alloc ?_ ?_ _) | (with_reducible refine Below.drew ?_) | (with_reducible refine below_drewN' ?_ _) | (with_reducible refine Below.setCell ?_ ?_ _) | (with_reducible exact Nat.le_refl _) | omega | (simp; done) | (simp; omega)))
  have hi7 := hi5.below b57
  have B7 : Below w.heap.size w W7 := by have := B6.size; rw [hW7]; (repeat' (first | (with_reducible exact Below.refl _ _) | (with_reducible assumption) | (with_reducible refine Below.alloc ?_ ?_ _) | (with_reducible refine Below.drew ?_) | (with_reducible refine below_drewN' ?_ _) | (with_reducible refine Below.setCell ?_ ?_ _) | (with_reducible exact Nat.le_refl _) | omega | (simp; done) | (simp; omega)))
  have bT7 : Blk W7 w5.heap.size 26 #[.int .i64 64, .int .i64 8, .int .i64 40, .slice (some ⟨g2, 0, none⟩) 14 cap2] := by rw [hW7]; exact ((((bT.set_ 0 _).set_ 1 _).set_ 2 _).set_ 3 _)
  have bR7 : Blk W7 w2.heap.size 42 #[.int .i64 1, .int .i64 9, .int .i64 10, .int .i64 50, .int .i64 14] := by rw [hW7]; exact (((bR.far (by simp; omega) _).far (by simp; omega) _).far (by simp; omega) _).far (by simp; omega) _
  clear hW7 cT fT bT bR B6 ho6' hl6' b56 b57 hi5
  refine (encode_L _ _ _ hr7).mono ?_
  rintro e w8 ⟨ge, rfl, h0, h1, h2, hge, hb8⟩
  have bT8 := bT7.belowAll hb8
  have bR8 := bR7.belowAll hb8
  have cT := bT8.cells
  have hr8 := hr7.below hb8
  have hi8 := hi7.below hb8
  have hj8 := hj7.below hb8
  have B8 := B7.trans (hb8.mono B7.size)
  clear bT7 bR7 hr7 hi7 hj7 B7 hb8
  go_wp2_with fail
  refine (count_L _ _ _ hr8).mono ?_
  rintro e w9 ⟨rfl, hb9⟩
  have cR := (bR8.belowAll hb9).cells
  have hi9 := hi8.below hb9
  have hj9 := hj8.below hb9
  have g0 := (hb9.cell (p := ⟨ge, 0, none⟩) hge).trans h0
  have g1 := (hb9.cell (p := ⟨ge, 1, none⟩) hge).trans h1
  have g2' := (hb9.cell (p := ⟨ge, 2, none⟩) hge).trans h2
  have hge9 : ge < w9.heap.size := Nat.lt_of_lt_of_le hge hb9.size
  have B9 := B8.trans (hb9.mono B8.size)
  clear bT8 bR8 hr8 hi8 hj8 B8 hb9 cT h0 h1 h2 hge
  go_wp2_with fail
  refine (ints3_L _ _ _ _ _ (hi9.alloc _) (reads_lit (Blk.new _ _ _))).mono ?_
  rintro e wa ⟨rfl, hba⟩
  have b9a := below1 hba
  have hja := hj9.below b9a
  have za := b9a.size
  have h0 := (b9a.cell (p := ⟨ge, 0, none⟩) hge9).trans g0
  have h1 := (b9a.cell (p := ⟨ge, 1, none⟩) hge9).trans g1
  have h2 := (b9a.cell (p := ⟨ge, 2, none⟩) hge9).trans g2'
  have Ba := B9.trans (b9a.mono B9.size)
  clear hi9 hj9 g0 g1 g2' hba b9a B9 cR
  go_wp2_with fail
  refine (ints1_L _ _ _ _ _ (hja.alloc _) (reads_lit (Blk.new _ _ _))).mono ?_
  rintro e wb ⟨rfl, hbb⟩
  have bab := below1 hbb
  have hgea : ge < wa.heap.size := Nat.lt_of_lt_of_le hge9 za
  have k0 := (bab.cell (p := ⟨ge, 0, none⟩) hgea).trans h0
  have k1 := (bab.cell (p := ⟨ge, 1, none⟩) hgea).trans h1
  have k2 := (bab.cell (p := ⟨ge, 2, none⟩) hgea).trans h2
  have Bb := Ba.trans (bab.mono Ba.size)
  clear hja hbb bab Ba h0 h1 h2
  go_wp2_with fail
  go_ret
  exact ⟨rfl, Bb⟩

end Go.Proofs.Ytenfheheepkfbaa
