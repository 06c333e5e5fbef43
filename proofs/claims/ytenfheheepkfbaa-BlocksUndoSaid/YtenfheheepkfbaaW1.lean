/- BlocksLayouts, walked. -/
import Derived.Test.YtenfheheepkfbaaK2
namespace Go.Proofs.Ytenfheheepkfbaa
open Go.RowKit

def nU (s j i : Int) : List Bool := if rgE s j i = 0 then List.replicate (rgB s j i).toNat false else []
def nV (s j i x : Int) : Int := if rgE s j i = 0 then x else 0
theorem nU_len (s j i : Int) : (nU s j i).length ≤ 1000 := by
  unfold nU; split
  · have := rgB_bds s j i; simp; omega
  · simp

theorem newx_any (s j i : Int) (w : World) :
    Calls Try.prog 24 #[.agg #[.int .i64 s, .int .i64 j, .int .i64 i]] w fun e w' => ∃ A c, e = .returned (.tuple #[.agg #[.int .i64 (nV s j i s), .int .i64 (nV s j i j), .int .i64 (nV s j i i), .slice A (nU s j i).length c], .int .i64 (rgE s j i)]) ∧
      Reads w' A ((nU s j i).map .bool) ∧ Below w.heap.size w w' := by
  refine (new_any s j i w).mono ?_
  rintro e w' ⟨hb, ⟨h, rfl⟩ | ⟨h, b, rfl, _, hh⟩⟩
  · refine ⟨none, 0, ?_, ?_, hb⟩
    · simp only [nV, nU, if_neg h, List.length_nil]
    · simp only [nU, if_neg h, List.map_nil]; exact Reads.nil
  · refine ⟨some ⟨b, 0, none⟩, (rgB s j i).toNat, ?_, ?_, hb⟩
    · simp only [nV, nU, if_pos h, List.length_replicate]; rw [h]
    · refine .inr ⟨b, 0, rfl, (Array.getElem?_eq_some_iff.1 hh).1, fun j' u hu => ?_⟩
      rw [cell_of_row w' b (0 + j') _ _ (0, 0) hh, fill_eq]
      simp only [nU, if_pos h, List.map_replicate, List.getElem?_replicate] at hu
      split at hu
      · rename_i hj; simp only [Option.some.injEq] at hu; subst hu; simp [hj]
      · simp at hu

theorem newxR_any (s j i : Int) (w : World) :
    Calls Try.prog 25 #[.agg #[.int .i64 s, .int .i64 j, .int .i64 i]] w fun e w' => ∃ A c, e = .returned (.tuple #[.agg #[.int .i64 (nV s j i s), .int .i64 (nV s j i j), .int .i64 (nV s j i i), .slice A (nU s j i).length c], .int .i64 (rgE s j i)]) ∧
      Reads w' A ((nU s j i).map .bool) ∧ Below w.heap.size w w' := by
  refine (newR_any s j i w).mono ?_
  rintro e w' ⟨hb, ⟨h, rfl⟩ | ⟨h, b, rfl, _, hh⟩⟩
  · refine ⟨none, 0, ?_, ?_, hb⟩
    · simp only [nV, nU, if_neg h, List.length_nil]
    · simp only [nU, if_neg h, List.map_nil]; exact Reads.nil
  · refine ⟨some ⟨b, 0, none⟩, (rgB s j i).toNat, ?_, ?_, hb⟩
    · simp only [nV, nU, if_pos h, List.length_replicate]; rw [h]
    · refine .inr ⟨b, 0, rfl, (Array.getElem?_eq_some_iff.1 hh).1, fun j' u hu => ?_⟩
      rw [cell_of_row w' b (0 + j') _ _ (0, 0) hh, fill_eq]
      simp only [nU, if_pos h, List.map_replicate, List.getElem?_replicate] at hu
      split at hu
      · rename_i hj; simp only [Option.some.injEq] at hu; subst hu; simp [hj]
      · simp at hu

theorem same_self (s j i : Int) (A B : Option Addr) (c d : Nat) (xs : List Bool) (w : World) (hx : Reads w A (xs.map .bool)) (hy : Reads w B (xs.map .bool)) (hn : xs.length ≤ 1000) :
    Calls Try.prog 17 #[.agg #[.int .i64 s, .int .i64 j, .int .i64 i, .slice A xs.length c], .agg #[.int .i64 s, .int .i64 j, .int .i64 i, .slice B xs.length d]] w fun e w' =>
      e = .returned (.bool true) ∧ Below w.heap.size w w' := by
  have h := same_any s j i s j i A B c d xs xs w hx hy (by unfold maxLen; omega) (by unfold maxLen; omega)
  exact h.mono fun e w' ⟨he, hb⟩ => ⟨by rw [he]; simp [LayEq], hb⟩

set_option maxRecDepth 100000 in
set_option maxHeartbeats 2000000 in
theorem layouts_any (s j i b : Int) (w : World) :
    Calls Try.prog 5 #[.agg #[.int .i64 s, .int .i64 j, .int .i64 i], .int .i64 b] w fun e w' => e = .returned (.bool true) ∧ Below w.heap.size w w' := by
  go_enter Try.func5, Try.ntmps5
  go_wp2_with fail
  refine (regions_any _ _ _ _).mono ?_
  rintro e w1 ⟨rfl, hb1⟩
  have bL : Blk w1 w.heap.size 23 #[.int .i64 s, .int .i64 j, .int .i64 i] := Blk.belowAll (by (repeat' (first | (with_reducible assumption) | exact Blk.new' (by simp) | refine Blk.alloc ?_ _))) hb1
  have B1 := below1 hb1
  have cL := bL.cells
  have z1 := sz1 hb1
  clear hb1
  unfold rgV
  go_wp2_with fail
  refine (regionsR_any _ _ _ _).mono ?_
  rintro e w2 ⟨rfl, hb2⟩
  have bL2 := Blk.belowAll (Blk.alloc bL _) hb2
  have bA2 : Blk w2 w1.heap.size 42 #[.int .i64 (rgJ s j i), .int .i64 (rgM s j i), .int .i64 (rgT s j i), .int .i64 (rgD s j i), .int .i64 (rgB s j i)] := Blk.belowAll (by (repeat' (first | (with_reducible assumption) | exact Blk.new' (by simp) | refine Blk.alloc ?_ _))) hb2
  have B2 := B1.trans ((below1 hb2).mono B1.size)
  have z2 := sz1 hb2
  clear hb2 cL bL B1
  have cL := bL2.cells
  have lL2 := bL2.lt
  unfold rgV
  go_wp2_with fail
  refine (sector_any _ _ _ _ _).mono ?_
  rintro e w3 ⟨rfl, hb3⟩
  have bL3 := Blk.belowAll (Blk.alloc bL2 _) hb3
  have bA3 := Blk.belowAll (Blk.alloc bA2 _) hb3
  have bB3 : Blk w3 w2.heap.size 42 #[.int .i64 (rgJ s j i), .int .i64 (rgM s j i), .int .i64 (rgT s j i), .int .i64 (rgD s j i), .int .i64 (rgB s j i)] := Blk.belowAll (by (repeat' (first | (with_reducible assumption) | exact Blk.new' (by simp) | refine Blk.alloc ?_ _))) hb3
  have B3 := B2.trans ((below1 hb3).mono B2.size)
  have z3 := sz1 hb3
  clear hb3 cL bL2 bA2 B2
  have cL := bL3.cells
  have lL3 := bL3.lt
  go_wp2_with fail
  refine (sectorR_any _ _ _ _ _).mono ?_
  rintro e w4 ⟨rfl, hb4⟩
  have bL4 := Blk.belowAll bL3 hb4
  have bA4 := Blk.belowAll bA3 hb4
  have bB4 := Blk.belowAll bB3 hb4
  have B4 := B3.trans (hb4.mono B3.size)
  have z4 := hb4.size
  clear hb4 cL bL3 bA3 bB3 B3
  have cL := bL4.cells
  have lL4 := bL4.lt
  go_wp2_with fail
  refine (newx_any _ _ _ _).mono ?_
  rintro e w5 ⟨A5, c5, rfl, hr5, hb5⟩
  have bL5 := Blk.belowAll bL4 hb5
  have bA5 := Blk.belowAll bA4 hb5
  have bB5 := Blk.belowAll bB4 hb5
  have B5 := B4.trans (hb5.mono B4.size)
  have z5 := hb5.size
  clear hb5 cL bL4 bA4 bB4 B4
  have cL := bL5.cells
  have lL5 := bL5.lt
  go_wp2_with fail
  refine (newxR_any _ _ _ _).mono ?_
  rintro e w6 ⟨A6, c6, rfl, hr6, hb6⟩
  have bA6 := Blk.belowAll (Blk.alloc bA5 _) hb6
  have bB6 := Blk.belowAll (Blk.alloc bB5 _) hb6
  have bX6 : Blk w6 w5.heap.size 26 #[.int .i64 (nV s j i s), .int .i64 (nV s j i j), .int .i64 (nV s j i i), .slice A5 (nU s j i).length c5] := Blk.belowAll (by (repeat' (first | (with_reducible assumption) | exact Blk.new' (by simp) | refine Blk.alloc ?_ _))) hb6
  have hr5' := (hr5.alloc _).below hb6
  have B6 := B5.trans ((below1 hb6).mono B5.size)
  have z6 := sz1 hb6
  clear hb6 cL bL5 bA5 bB5 B5 hr5
  have cA := bA6.cells
  have cB := bB6.cells
  have cX := bX6.cells
  have lA := bA6.lt
  have lB := bB6.lt
  have lX := bX6.lt
  have hnu := nU_len s j i
  go_wp2_with fail
  refine (same_self _ _ _ _ _ _ _ _ _ (hr5'.alloc _) (hr6.alloc _) hnu).mono ?_
  rintro e w7 ⟨rfl, hb7⟩
  have B7 := B6.trans ((below1 hb7).mono B6.size)
  clear hb7 cA cB cX bA6 bB6 bX6 B6
  go_wp2_with fail
  refine (awake_any _).mono ?_
  rintro e w8 ⟨rfl, hb8⟩
  have B8 := B7.trans (hb8.mono B7.size)
  go_wp2_with fail
  go_ret
  exact ⟨rfl, B8⟩

end Go.Proofs.Ytenfheheepkfbaa
