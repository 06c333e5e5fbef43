/- Parts of the proof, put together by program: NB, NC. -/
import Derived.Test.YtljmdcegcckblaaGreatDoorPart45
/- The laws of layer 12: done, on a transaction that is none, or has ended. -/
namespace Go.Proofs.YtljmdcegcckblaaGreatDoor
open Go.RowKit Go.Maps

set_option maxRecDepth 100000 in
set_option maxHeartbeats 2000000 in
theorem done_bad0 (tv : Value) (E kd size off n : Int) (A : Option Addr) (m c : Nat) (s : ByteArray) (pv : Value) (w : World) (h : StE w tv E) (hE : E ≠ 0) :
    Calls Tryz.prog 12 #[tv, .agg (callC 0 kd size off n (.slice A m c) s pv)] w fun e w' => e = .returned (.agg (ansE E)) ∧ Below w.heap.size w w' := by
  obtain ⟨wA, hA⟩ : ∃ wA, wA = ((w.alloc (.cells (callC 0 kd size off n (.slice A m c) s pv) 44)).alloc (.cells (ansE 0) 48)).alloc (.cells (ansE 0) 48) := ⟨_, rfl⟩
  have bC : Blk wA w.heap.size 44 (callC 0 kd size off n (.slice A m c) s pv) := by rw [hA]; exact (by (repeat' (first | (with_reducible assumption) | exact Blk.new' (by simp) | refine Blk.alloc ?_ _)))
  have bR : Blk wA (w.heap.size + 1) 48 (ansE 0) := by rw [hA]; exact (Blk.new' (by simp)).alloc _
  have bA : Blk wA (w.heap.size + 1 + 1) 48 (ansE 0) := by rw [hA]; exact (by (repeat' (first | (with_reducible assumption) | exact Blk.new' (by simp) | refine Blk.alloc ?_ _)))
  have BA : Below w.heap.size w wA := by rw [hA]; (repeat' (first | (with_reducible exact Below.refl _ _) | (with_reducible assumption) | (with_reducible refine Below.alloc ?_ ?_ _) | (with_reducible refine Below.drew ?_) | (with_reducible refine below_drewN' ?_ _) | (with_reducible refine Below.setCell ?_ ?_ _) | (with_reducible exact Nat.le_refl _) | omega | (simp; done) | (simp; omega)))
  have hcon := dwrite_bad tv E kd A m c size off s wA (h.below BA) hE
  have cC := bC.cells
  have lC := bC.lt
  go_enter Tryz.func12, Tryz.ntmps12
  go_wp2_with fail
  rw [← hA]
  go_wp2_with fail
  refine hcon.mono ?_
  rintro e w1 ⟨rfl, hb1⟩
  have bR1 := bR.belowAll hb1
  have bA1 := bA.belowAll hb1
  have B1 := BA.trans (hb1.mono BA.size)
  clear hcon cC lC bC bR bA BA hb1 hA h hE
  have b2 : Blk (((w1.setCell ⟨w.heap.size + 1 + 1, 0, none⟩ (.slice none 0 0)).setCell ⟨w.heap.size + 1 + 1, 3, none⟩ (.int .i64 0)).setCell ⟨w.heap.size + 1 + 1, 4, none⟩ (.int .i64 E)) (w.heap.size + 1 + 1) 48 (ansE E) := (((bA1.set_ 0 (.slice none 0 0)).set_ 3 (.int .i64 0)).set_ 4 (.int .i64 E))
  have r2 : Blk (((w1.setCell ⟨w.heap.size + 1 + 1, 0, none⟩ (.slice none 0 0)).setCell ⟨w.heap.size + 1 + 1, 3, none⟩ (.int .i64 0)).setCell ⟨w.heap.size + 1 + 1, 4, none⟩ (.int .i64 E)) (w.heap.size + 1) 48 (ansE 0) := (((bR1.far (p := ⟨w.heap.size + 1 + 1, 0, none⟩) (by simp) (.slice none 0 0)).far (p := ⟨w.heap.size + 1 + 1, 3, none⟩) (by simp) (.int .i64 0)).far (p := ⟨w.heap.size + 1 + 1, 4, none⟩) (by simp) (.int .i64 E))
  have B2 : Below w.heap.size w (((w1.setCell ⟨w.heap.size + 1 + 1, 0, none⟩ (.slice none 0 0)).setCell ⟨w.heap.size + 1 + 1, 3, none⟩ (.int .i64 0)).setCell ⟨w.heap.size + 1 + 1, 4, none⟩ (.int .i64 E)) := (((B1.setCell (p := ⟨w.heap.size + 1 + 1, 0, none⟩) (by show w.heap.size ≤ w.heap.size + 1 + 1; omega) (.slice none 0 0)).setCell (p := ⟨w.heap.size + 1 + 1, 3, none⟩) (by show w.heap.size ≤ w.heap.size + 1 + 1; omega) (.int .i64 0)).setCell (p := ⟨w.heap.size + 1 + 1, 4, none⟩) (by show w.heap.size ≤ w.heap.size + 1 + 1; omega) (.int .i64 E))
  have HST := storeRow (ty := 48) (vs := ansE E) r2 rfl (by simp [Value.oneCell']) (by kernel_rfl)
  have cA := bA1.cells
  have fA := bA1.free
  have lA := bA1.lt
  have lR := bR1.lt
  go_wp2_with (refine wpList_storeBy rfl _ _ _ rfl _ _ rfl rfl HST ?_)
  have cF := (r2.setRow (cs' := ansE E)).cells
  refine bodyPost_ret (v := .agg (ansE E)) (by simp [results, Tryz.results12, go_sem, cF]) rfl ?_
  exact ⟨rfl, Below.setRow B2 (by omega) _⟩

set_option maxRecDepth 100000 in
set_option maxHeartbeats 2000000 in
theorem done_bad2 (tv : Value) (E kd size off n : Int) (A : Option Addr) (m c : Nat) (s : ByteArray) (pv : Value) (w : World) (h : StE w tv E) (hE : E ≠ 0) :
    Calls Tryz.prog 12 #[tv, .agg (callC 2 kd size off n (.slice A m c) s pv)] w fun e w' => e = .returned (.agg (ansE E)) ∧ Below w.heap.size w w' := by
  obtain ⟨wA, hA⟩ : ∃ wA, wA = ((w.alloc (.cells (callC 2 kd size off n (.slice A m c) s pv) 44)).alloc (.cells (ansE 0) 48)).alloc (.cells (ansE 0) 48) := ⟨_, rfl⟩
  have bC : Blk wA w.heap.size 44 (callC 2 kd size off n (.slice A m c) s pv) := by rw [hA]; exact (by (repeat' (first | (with_reducible assumption) | exact Blk.new' (by simp) | refine Blk.alloc ?_ _)))
  have bR : Blk wA (w.heap.size + 1) 48 (ansE 0) := by rw [hA]; exact (Blk.new' (by simp)).alloc _
  have bA : Blk wA (w.heap.size + 1 + 1) 48 (ansE 0) := by rw [hA]; exact (by (repeat' (first | (with_reducible assumption) | exact Blk.new' (by simp) | refine Blk.alloc ?_ _)))
  have BA : Below w.heap.size w wA := by rw [hA]; (repeat' (first | (with_reducible exact Below.refl _ _) | (with_reducible assumption) | (with_reducible refine Below.alloc ?_ ?_ _) | (with_reducible refine Below.drew ?_) | (with_reducible refine below_drewN' ?_ _) | (with_reducible refine Below.setCell ?_ ?_ _) | (with_reducible exact Nat.le_refl _) | omega | (simp; done) | (simp; omega)))
  have hcon := dcut_bad tv E kd A m c size n wA (h.below BA) hE
  have cC := bC.cells
  have lC := bC.lt
  go_enter Tryz.func12, Tryz.ntmps12
  go_wp2_with fail
  rw [← hA]
  go_wp2_with fail
  refine hcon.mono ?_
  rintro e w1 ⟨rfl, hb1⟩
  have bR1 := bR.belowAll hb1
  have bA1 := bA.belowAll hb1
  have B1 := BA.trans (hb1.mono BA.size)
  clear hcon cC lC bC bR bA BA hb1 hA h hE
  have b2 : Blk ((w1.setCell ⟨w.heap.size + 1 + 1, 0, none⟩ (.slice none 0 0)).setCell ⟨w.heap.size + 1 + 1, 4, none⟩ (.int .i64 E)) (w.heap.size + 1 + 1) 48 (ansE E) := ((bA1.set_ 0 (.slice none 0 0)).set_ 4 (.int .i64 E))
  have r2 : Blk ((w1.setCell ⟨w.heap.size + 1 + 1, 0, none⟩ (.slice none 0 0)).setCell ⟨w.heap.size + 1 + 1, 4, none⟩ (.int .i64 E)) (w.heap.size + 1) 48 (ansE 0) := ((bR1.far (p := ⟨w.heap.size + 1 + 1, 0, none⟩) (by simp) (.slice none 0 0)).far (p := ⟨w.heap.size + 1 + 1, 4, none⟩) (by simp) (.int .i64 E))
  have B2 : Below w.heap.size w ((w1.setCell ⟨w.heap.size + 1 + 1, 0, none⟩ (.slice none 0 0)).setCell ⟨w.heap.size + 1 + 1, 4, none⟩ (.int .i64 E)) := ((B1.setCell (p := ⟨w.heap.size + 1 + 1, 0, none⟩) (by show w.heap.size ≤ w.heap.size + 1 + 1; omega) (.slice none 0 0)).setCell (p := ⟨w.heap.size + 1 + 1, 4, none⟩) (by show w.heap.size ≤ w.heap.size + 1 + 1; omega) (.int .i64 E))
  have HST := storeRow (ty := 48) (vs := ansE E) r2 rfl (by simp [Value.oneCell']) (by kernel_rfl)
  have cA := bA1.cells
  have fA := bA1.free
  have lA := bA1.lt
  have lR := bR1.lt
  go_wp2_with (refine wpList_storeBy rfl _ _ _ rfl _ _ rfl rfl HST ?_)
  have cF := (r2.setRow (cs' := ansE E)).cells
  refine bodyPost_ret (v := .agg (ansE E)) (by simp [results, Tryz.results12, go_sem, cF]) rfl ?_
  exact ⟨rfl, Below.setRow B2 (by omega) _⟩

set_option maxRecDepth 100000 in
set_option maxHeartbeats 2000000 in
theorem done_bad3 (tv : Value) (E kd size off n : Int) (A : Option Addr) (m c : Nat) (s : ByteArray) (pv : Value) (w : World) (h : StE w tv E) (hE : E ≠ 0) :
    Calls Tryz.prog 12 #[tv, .agg (callC 3 kd size off n (.slice A m c) s pv)] w fun e w' => e = .returned (.agg (ansE E)) ∧ Below w.heap.size w w' := by
  obtain ⟨wA, hA⟩ : ∃ wA, wA = ((w.alloc (.cells (callC 3 kd size off n (.slice A m c) s pv) 44)).alloc (.cells (ansE 0) 48)).alloc (.cells (ansE 0) 48) := ⟨_, rfl⟩
  have bC : Blk wA w.heap.size 44 (callC 3 kd size off n (.slice A m c) s pv) := by rw [hA]; exact (by (repeat' (first | (with_reducible assumption) | exact Blk.new' (by simp) | refine Blk.alloc ?_ _)))
  have bR : Blk wA (w.heap.size + 1) 48 (ansE 0) := by rw [hA]; exact (Blk.new' (by simp)).alloc _
  have bA : Blk wA (w.heap.size + 1 + 1) 48 (ansE 0) := by rw [hA]; exact (by (repeat' (first | (with_reducible assumption) | exact Blk.new' (by simp) | refine Blk.alloc ?_ _)))
  have BA : Below w.heap.size w wA := by rw [hA]; (repeat' (first | (with_reducible exact Below.refl _ _) | (with_reducible assumption) | (with_reducible refine Below.alloc ?_ ?_ _) | (with_reducible refine Below.drew ?_) | (with_reducible refine below_drewN' ?_ _) | (with_reducible refine Below.setCell ?_ ?_ _) | (with_reducible exact Nat.le_refl _) | omega | (simp; done) | (simp; omega)))
  have hcon := dread_bad tv E kd A m c size off n wA (h.below BA) hE
  have cC := bC.cells
  have lC := bC.lt
  go_enter Tryz.func12, Tryz.ntmps12
  go_wp2_with fail
  rw [← hA]
  go_wp2_with fail
  refine hcon.mono ?_
  rintro e w1 ⟨rfl, hb1⟩
  have bR1 := bR.belowAll hb1
  have bA1 := bA.belowAll hb1
  have B1 := BA.trans (hb1.mono BA.size)
  clear hcon cC lC bC bR bA BA hb1 hA h hE
  have b2 : Blk ((w1.setCell ⟨w.heap.size + 1 + 1, 2, none⟩ (.string ⟨#[]⟩)).setCell ⟨w.heap.size + 1 + 1, 4, none⟩ (.int .i64 E)) (w.heap.size + 1 + 1) 48 (ansE E) := ((bA1.set_ 2 (.string ⟨#[]⟩)).set_ 4 (.int .i64 E))
  have r2 : Blk ((w1.setCell ⟨w.heap.size + 1 + 1, 2, none⟩ (.string ⟨#[]⟩)).setCell ⟨w.heap.size + 1 + 1, 4, none⟩ (.int .i64 E)) (w.heap.size + 1) 48 (ansE 0) := ((bR1.far (p := ⟨w.heap.size + 1 + 1, 2, none⟩) (by simp) (.string ⟨#[]⟩)).far (p := ⟨w.heap.size + 1 + 1, 4, none⟩) (by simp) (.int .i64 E))
  have B2 : Below w.heap.size w ((w1.setCell ⟨w.heap.size + 1 + 1, 2, none⟩ (.string ⟨#[]⟩)).setCell ⟨w.heap.size + 1 + 1, 4, none⟩ (.int .i64 E)) := ((B1.setCell (p := ⟨w.heap.size + 1 + 1, 2, none⟩) (by show w.heap.size ≤ w.heap.size + 1 + 1; omega) (.string ⟨#[]⟩)).setCell (p := ⟨w.heap.size + 1 + 1, 4, none⟩) (by show w.heap.size ≤ w.heap.size + 1 + 1; omega) (.int .i64 E))
  have HST := storeRow (ty := 48) (vs := ansE E) r2 rfl (by simp [Value.oneCell']) (by kernel_rfl)
  have cA := bA1.cells
  have fA := bA1.free
  have lA := bA1.lt
  have lR := bR1.lt
  go_wp2_with (refine wpList_storeBy rfl _ _ _ rfl _ _ rfl rfl HST ?_)
  have cF := (r2.setRow (cs' := ansE E)).cells
  refine bodyPost_ret (v := .agg (ansE E)) (by simp [results, Tryz.results12, go_sem, cF]) rfl ?_
  exact ⟨rfl, Below.setRow B2 (by omega) _⟩

set_option maxRecDepth 100000 in
set_option maxHeartbeats 2000000 in
theorem done_bad5 (tv : Value) (E kd size off n : Int) (A : Option Addr) (m c : Nat) (s : ByteArray) (pv : Value) (w : World) (h : StE w tv E) (hE : E ≠ 0) :
    Calls Tryz.prog 12 #[tv, .agg (callC 5 kd size off n (.slice A m c) s pv)] w fun e w' => e = .returned (.agg (ansE E)) ∧ Below w.heap.size w w' := by
  obtain ⟨wA, hA⟩ : ∃ wA, wA = ((w.alloc (.cells (callC 5 kd size off n (.slice A m c) s pv) 44)).alloc (.cells (ansE 0) 48)).alloc (.cells (ansE 0) 48) := ⟨_, rfl⟩
  have bC : Blk wA w.heap.size 44 (callC 5 kd size off n (.slice A m c) s pv) := by rw [hA]; exact (by (repeat' (first | (with_reducible assumption) | exact Blk.new' (by simp) | refine Blk.alloc ?_ _)))
  have bR : Blk wA (w.heap.size + 1) 48 (ansE 0) := by rw [hA]; exact (Blk.new' (by simp)).alloc _
  have bA : Blk wA (w.heap.size + 1 + 1) 48 (ansE 0) := by rw [hA]; exact (by (repeat' (first | (with_reducible assumption) | exact Blk.new' (by simp) | refine Blk.alloc ?_ _)))
  have BA : Below w.heap.size w wA := by rw [hA]; (repeat' (first | (with_reducible exact Below.refl _ _) | (with_reducible assumption) | (with_reducible refine Below.alloc ?_ ?_ _) | (with_reducible refine Below.drew ?_) | (with_reducible refine below_drewN' ?_ _) | (with_reducible refine Below.setCell ?_ ?_ _) | (with_reducible exact Nat.le_refl _) | omega | (simp; done) | (simp; omega)))
  have hcon := dstore_bad tv E kd A m c pv wA (h.below BA) hE
  have cC := bC.cells
  have lC := bC.lt
  go_enter Tryz.func12, Tryz.ntmps12
  go_wp2_with fail
  rw [← hA]
  go_wp2_with fail
  refine hcon.mono ?_
  rintro e w1 ⟨rfl, hb1⟩
  have bR1 := bR.belowAll hb1
  have bA1 := bA.belowAll hb1
  have B1 := BA.trans (hb1.mono BA.size)
  clear hcon cC lC bC bR bA BA hb1 hA h hE
  have b2 : Blk ((w1.setCell ⟨w.heap.size + 1 + 1, 0, none⟩ (.slice none 0 0)).setCell ⟨w.heap.size + 1 + 1, 4, none⟩ (.int .i64 E)) (w.heap.size + 1 + 1) 48 (ansE E) := ((bA1.set_ 0 (.slice none 0 0)).set_ 4 (.int .i64 E))
  have r2 : Blk ((w1.setCell ⟨w.heap.size + 1 + 1, 0, none⟩ (.slice none 0 0)).setCell ⟨w.heap.size + 1 + 1, 4, none⟩ (.int .i64 E)) (w.heap.size + 1) 48 (ansE 0) := ((bR1.far (p := ⟨w.heap.size + 1 + 1, 0, none⟩) (by simp) (.slice none 0 0)).far (p := ⟨w.heap.size + 1 + 1, 4, none⟩) (by simp) (.int .i64 E))
  have B2 : Below w.heap.size w ((w1.setCell ⟨w.heap.size + 1 + 1, 0, none⟩ (.slice none 0 0)).setCell ⟨w.heap.size + 1 + 1, 4, none⟩ (.int .i64 E)) := ((B1.setCell (p := ⟨w.heap.size + 1 + 1, 0, none⟩) (by show w.heap.size ≤ w.heap.size + 1 + 1; omega) (.slice none 0 0)).setCell (p := ⟨w.heap.size + 1 + 1, 4, none⟩) (by show w.heap.size ≤ w.heap.size + 1 + 1; omega) (.int .i64 E))
  have HST := storeRow (ty := 48) (vs := ansE E) r2 rfl (by simp [Value.oneCell']) (by kernel_rfl)
  have cA := bA1.cells
  have fA := bA1.free
  have lA := bA1.lt
  have lR := bR1.lt
  go_wp2_with (refine wpList_storeBy rfl _ _ _ rfl _ _ rfl rfl HST ?_)
  have cF := (r2.setRow (cs' := ansE E)).cells
  refine bodyPost_ret (v := .agg (ansE E)) (by simp [results, Tryz.results12, go_sem, cF]) rfl ?_
  exact ⟨rfl, Below.setRow B2 (by omega) _⟩

set_option maxRecDepth 100000 in
set_option maxHeartbeats 2000000 in
theorem done_bad6 (tv : Value) (E kd size off n : Int) (A : Option Addr) (m c : Nat) (s : ByteArray) (pv : Value) (w : World) (h : StE w tv E) (hE : E ≠ 0) :
    Calls Tryz.prog 12 #[tv, .agg (callC 6 kd size off n (.slice A m c) s pv)] w fun e w' => e = .returned (.agg (ansE E)) ∧ Below w.heap.size w w' := by
  obtain ⟨wA, hA⟩ : ∃ wA, wA = ((w.alloc (.cells (callC 6 kd size off n (.slice A m c) s pv) 44)).alloc (.cells (ansE 0) 48)).alloc (.cells (ansE 0) 48) := ⟨_, rfl⟩
  have bC : Blk wA w.heap.size 44 (callC 6 kd size off n (.slice A m c) s pv) := by rw [hA]; exact (by (repeat' (first | (with_reducible assumption) | exact Blk.new' (by simp) | refine Blk.alloc ?_ _)))
  have bR : Blk wA (w.heap.size + 1) 48 (ansE 0) := by rw [hA]; exact (Blk.new' (by simp)).alloc _
  have bA : Blk wA (w.heap.size + 1 + 1) 48 (ansE 0) := by rw [hA]; exact (by (repeat' (first | (with_reducible assumption) | exact Blk.new' (by simp) | refine Blk.alloc ?_ _)))
  have BA : Below w.heap.size w wA := by rw [hA]; (repeat' (first | (with_reducible exact Below.refl _ _) | (with_reducible assumption) | (with_reducible refine Below.alloc ?_ ?_ _) | (with_reducible refine Below.drew ?_) | (with_reducible refine below_drewN' ?_ _) | (with_reducible refine Below.setCell ?_ ?_ _) | (with_reducible exact Nat.le_refl _) | omega | (simp; done) | (simp; omega)))
  have hcon := dload_bad tv E kd A m c wA (h.below BA) hE
  have cC := bC.cells
  have lC := bC.lt
  go_enter Tryz.func12, Tryz.ntmps12
  go_wp2_with fail
  rw [← hA]
  go_wp2_with fail
  refine hcon.mono ?_
  rintro e w1 ⟨rfl, hb1⟩
  have bR1 := bR.belowAll hb1
  have bA1 := bA.belowAll hb1
  have B1 := BA.trans (hb1.mono BA.size)
  clear hcon cC lC bC bR bA BA hb1 hA h hE
  have b2 : Blk ((w1.setCell ⟨w.heap.size + 1 + 1, 1, none⟩ (.slice none 0 0)).setCell ⟨w.heap.size + 1 + 1, 4, none⟩ (.int .i64 E)) (w.heap.size + 1 + 1) 48 (ansE E) := ((bA1.set_ 1 (.slice none 0 0)).set_ 4 (.int .i64 E))
  have r2 : Blk ((w1.setCell ⟨w.heap.size + 1 + 1, 1, none⟩ (.slice none 0 0)).setCell ⟨w.heap.size + 1 + 1, 4, none⟩ (.int .i64 E)) (w.heap.size + 1) 48 (ansE 0) := ((bR1.far (p := ⟨w.heap.size + 1 + 1, 1, none⟩) (by simp) (.slice none 0 0)).far (p := ⟨w.heap.size + 1 + 1, 4, none⟩) (by simp) (.int .i64 E))
  have B2 : Below w.heap.size w ((w1.setCell ⟨w.heap.size + 1 + 1, 1, none⟩ (.slice none 0 0)).setCell ⟨w.heap.size + 1 + 1, 4, none⟩ (.int .i64 E)) := ((B1.setCell (p := ⟨w.heap.size + 1 + 1, 1, none⟩) (by show w.heap.size ≤ w.heap.size + 1 + 1; omega) (.slice none 0 0)).setCell (p := ⟨w.heap.size + 1 + 1, 4, none⟩) (by show w.heap.size ≤ w.heap.size + 1 + 1; omega) (.int .i64 E))
  have HST := storeRow (ty := 48) (vs := ansE E) r2 rfl (by simp [Value.oneCell']) (by kernel_rfl)
  have cA := bA1.cells
  have fA := bA1.free
  have lA := bA1.lt
  have lR := bR1.lt
  go_wp2_with (refine wpList_storeBy rfl _ _ _ rfl _ _ rfl rfl HST ?_)
  have cF := (r2.setRow (cs' := ansE E)).cells
  refine bodyPost_ret (v := .agg (ansE E)) (by simp [results, Tryz.results12, go_sem, cF]) rfl ?_
  exact ⟨rfl, Below.setRow B2 (by omega) _⟩

end Go.Proofs.YtljmdcegcckblaaGreatDoor
/- The laws of layer 12: far, of one act; done, of a raw call. -/
namespace Go.Proofs.YtljmdcegcckblaaGreatDoor
open Go.RowKit Go.Maps

theorem donec_bad (tv : Value) (E ci kd size off n : Int) (A : Option Addr) (m c : Nat) (s : ByteArray) (pv : Value) (hci : ci = 0 ∨ ci = 2 ∨ ci = 3 ∨ ci = 5 ∨ ci = 6) (w : World) (h : StE w tv E) (hE : E ≠ 0) :
    Calls Tryz.prog 12 #[tv, .agg (callC ci kd size off n (.slice A m c) s pv)] w fun e w' => e = .returned (.agg (ansE E)) ∧ Below w.heap.size w w' := by
  rcases hci with rfl | rfl | rfl | rfl | rfl
  · exact done_bad0 tv E kd size off n A m c s pv w h hE
  · exact done_bad2 tv E kd size off n A m c s pv w h hE
  · exact done_bad3 tv E kd size off n A m c s pv w h hE
  · exact done_bad5 tv E kd size off n A m c s pv w h hE
  · exact done_bad6 tv E kd size off n A m c s pv w h hE

set_option maxRecDepth 100000 in
set_option maxHeartbeats 2000000 in
theorem far_one (wh f kd off n size : Int) (A : Option Addr) (m c : Nat) (s : ByteArray) (B : Nat) (w : World) (b : Blk w B 41 (actC wh f kd off n size (.slice A m c) s)) :
    Calls Tryz.prog 7 #[.slice (some ⟨B, 0, none⟩) 1 1, .int .i64 1] w fun e w' => e = .returned (.bool (decide (900 < s.size) || decide (20 < m))) ∧ w' = w := by
  have c6 : w.cell? ⟨B, 6, none⟩ = some (.slice A m c) := (b.cells 6).trans rfl
  have c7 : w.cell? ⟨B, 7, none⟩ = some (.string s) := (b.cells 7).trans rfl
  have lB := b.lt
  clear b
  by_cases h1 : 900 < s.size
  · have hd : (900 : Int) < (s.size : Int) := by omega
    have HV : Hid ((decide (900 < s.size) || decide (20 < m)) = true) := Lib.hid (by simp [h1])
    clear h1
    go_enter Tryz.func7, Tryz.ntmps7
    go_wp2_with fail
    go_loopw [5] (fun q wr => q = .int .i64 0 ∧ wr = w) (fun _ _ => 0)
    case atStart => exact ⟨rfl, rfl⟩
    case round =>
      obtain ⟨rfl, rfl⟩ := hrel
      go_wp2_with fail
      go_ret
      exact ⟨by rw [HV.out]; rfl, rfl⟩
  · have hd : ¬ (900 : Int) < (s.size : Int) := by omega
    by_cases h2 : 20 < m
    · have hd2 : (20 : Int) < (m : Int) := by omega
      have HV : Hid ((decide (900 < s.size) || decide (20 < m)) = true) := Lib.hid (by simp [h2])
      clear h1 h2
      go_enter Tryz.func7, Tryz.ntmps7
      go_wp2_with fail
      go_loopw [5] (fun q wr => q = .int .i64 0 ∧ wr = w) (fun _ _ => 0)
      case atStart => exact ⟨rfl, rfl⟩
      case round =>
        obtain ⟨rfl, rfl⟩ := hrel
        go_wp2_with fail
        go_ret
        exact ⟨by rw [HV.out]; rfl, rfl⟩
    · have hd2 : ¬ (20 : Int) < (m : Int) := by omega
      have HV : Hid ((decide (900 < s.size) || decide (20 < m)) = false) := Lib.hid (by simp [h1, h2])
      clear h1 h2
      go_enter Tryz.func7, Tryz.ntmps7
      go_wp2_with fail
      go_loopw [5] (fun q wr => (q = .int .i64 0 ∨ q = .int .i64 1) ∧ wr = w) (fun q _ => 1 - (RowKit.intOf q).toNat)
      case atStart => exact ⟨.inl rfl, rfl⟩
      case round =>
        obtain ⟨rfl | rfl, rfl⟩ := hrel
        · go_wp2_with fail
          go_roundw
          case rel => exact ⟨.inr rfl, by trivial⟩
          case measure => simp [RowKit.intOf]
        · go_wp2_with fail
          go_ret
          exact ⟨by rw [HV.out]; rfl, rfl⟩

end Go.Proofs.YtljmdcegcckblaaGreatDoor
