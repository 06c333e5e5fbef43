/- The laws of layer 12: of, for acts on files and parts. -/
import Derived.Test.YtljmdcegcckblaaGreatDoorPart47
namespace Go.Proofs.YtljmdcegcckblaaGreatDoor
open Go.RowKit Go.Maps

set_option maxRecDepth 100000 in
set_option maxHeartbeats 4000000 in
theorem of_w0_0 (a0 a1 a2 : Option Addr) (n0 k0 n1 k1 n2 k2 : Nat) (z0 z1 : Int) (wh f kd off n size : Int) (xl : Value) (s : ByteArray) (hz : 0 ≤ z0 ∧ z0 ≤ 10000) (hoff : -9223372036854775808 ≤ off ∧ off ≤ 9223372036854775807) (hf : 0 ≤ f ∧ f ≤ 255) (hwh : 0 ≤ wh ∧ wh ≤ 255) (hw8 : wh % 8 = 0) (hf2 : f % 2 = 0) (w : World) :
    Calls Tryz.prog 11 #[.agg (actC wh f kd off n size xl s), .agg (bookC (.slice a0 n0 k0) (.slice a1 n1 k1) (.slice a2 n2 k2) z0 z1)] w fun e w' => e = .returned (.agg (callC 0 8 z0 (off % (z0 + 1)) 0 (.slice a0 n0 k0) s (.slice none 0 0))) ∧ Below w.heap.size w w' := by
  obtain ⟨wA, hA⟩ : ∃ wA, wA = ((w.alloc (.cells (actC wh f kd off n size xl s) 41)).alloc (.cells (bookC (.slice a0 n0 k0) (.slice a1 n1 k1) (.slice a2 n2 k2) z0 z1) 38)).alloc (.cells call0 44) := ⟨_, rfl⟩
  have bA : Blk wA w.heap.size 41 (actC wh f kd off n size xl s) := by rw [hA]; exact (by (repeat' (first | (with_reducible assumption) | exact Blk.new' (by simp) | refine Blk.alloc ?_ _)))
  have bB : Blk wA (w.heap.size + 1) 38 (bookC (.slice a0 n0 k0) (.slice a1 n1 k1) (.slice a2 n2 k2) z0 z1) := by rw [hA]; exact (Blk.new' (by simp)).alloc _
  have bC : Blk wA (w.heap.size + 1 + 1) 44 call0 := by rw [hA]; exact (by (repeat' (first | (with_reducible assumption) | exact Blk.new' (by simp) | refine Blk.alloc ?_ _)))
  have BA : Below w.heap.size w wA := by rw [hA]; (repeat' (first | (with_reducible exact Below.refl _ _) | (with_reducible assumption) | (with_reducible refine Below.alloc ?_ ?_ _) | (with_reducible refine Below.drew ?_) | (with_reducible refine below_drewN' ?_ _) | (with_reducible refine Below.setCell ?_ ?_ _) | (with_reducible exact Nat.le_refl _) | omega | (simp; done) | (simp; omega)))
  have hzA : wA.heap.size = w.heap.size + 1 + 1 + 1 := by rw [hA]; simp
  have h1 : f.tmod 2 = 0 := by rw [← hf2]; exact Int.tmod_eq_emod_of_nonneg hf.1
  have g1 : wh.tmod 8 = 0 := by rw [← hw8]; exact Int.tmod_eq_emod_of_nonneg hwh.1
  have hS : ∀ W, Blk W w.heap.size 41 (actC wh f kd off n size xl s) → Blk W (w.heap.size + 1) 38 (bookC (.slice a0 n0 k0) (.slice a1 n1 k1) (.slice a2 n2 k2) z0 z1) → W.cell? ⟨w.heap.size, 0, none⟩ = some (.int .u8 wh) ∧ W.cell? ⟨w.heap.size, 7, none⟩ = some (.string s) ∧ W.cell? ⟨w.heap.size + 1, 0, none⟩ = some (.slice a0 n0 k0) ∧ W.cell? ⟨w.heap.size, 4, none⟩ = some (.int .i64 n) ∧ W.cell? ⟨w.heap.size, 3, none⟩ = some (.int .i64 off) := fun W b1 b2 => ⟨(b1.cells 0).trans rfl, (b1.cells 7).trans rfl, (b2.cells 0).trans rfl, (b1.cells 4).trans rfl, (b1.cells 3).trans rfl⟩
  have HS := Lib.hid hS
  have cA := bA.cells
  have lA := bA.lt
  have cB := bB.cells
  have lB := bB.lt
  have HZA := Lib.hid hzA
  clear hS hf hwh hw8 hf2 hzA
  go_enter Tryz.func11, Tryz.ntmps11
  go_wp2_with fail
  rw [← hA]
  clear hA
  go_wp2_with fail
  clear cA lA cB lB
  refine wp_region_mix [.take 0, .take 1, .take 2, .take 3, .take 4, .take 5, .take 6, .take 7, .take 8, .take 9, .take 10, .take 11, .one 12, .one 13] 13 (fun W => W.cell? ⟨w.heap.size, 0, none⟩ = some (.int .u8 wh) ∧ W.cell? ⟨w.heap.size, 7, none⟩ = some (.string s) ∧ W.cell? ⟨w.heap.size + 1, 0, none⟩ = some (.slice a0 n0 k0) ∧ W.cell? ⟨w.heap.size, 4, none⟩ = some (.int .i64 n) ∧ W.cell? ⟨w.heap.size, 3, none⟩ = some (.int .i64 off)) (by kernel_rfl) (by kernel_rfl) (fun _ _ _ _ _ h => h) (HS.out _ bA.drew bB.drew) ?_
  simp only [List.map_cons, List.map_nil, Ms.fill, List.getD_cons_zero, List.getD_cons_succ]
  iterate 12 (refine mixT_take (by rfl) ?_ (fun w' hw' => ?_) ?_; rotate_left; (focus (go_simp; (try with_reducible rfl))); (try simp only [Act.put, List.setIfInBounds_toArray, List.set_cons_zero, List.set_cons_succ]))
  obtain ⟨X0, hX0⟩ : ∃ X0, X0 = (wA.alloc (.cells call0 44)).drew := ⟨_, rfl⟩
  have bA0 : Blk X0 w.heap.size 41 (actC wh f kd off n size xl s) := by rw [hX0]; exact (bA.alloc _).drew
  have bB0 : Blk X0 (w.heap.size + 1) 38 (bookC (.slice a0 n0 k0) (.slice a1 n1 k1) (.slice a2 n2 k2) z0 z1) := by rw [hX0]; exact (bB.alloc _).drew
  have bC0 : Blk X0 (w.heap.size + 1 + 1) 44 call0 := by rw [hX0]; exact (bC.alloc _).drew
  have bK0 : Blk X0 wA.heap.size 44 call0 := by rw [hX0]; exact (Blk.new _ _ _).drew
  have BX0 : Below w.heap.size w X0 := by rw [hX0]; exact (BA.alloc BA.size _).drew
  refine mixT_step (by rfl) fun K hK => ?_
  go_simp
  rw [← hX0]
  refine hK _ _ (fun _ => HS.out _ bA0 bB0) ?_
  clear hK K hX0
  refine mixT_step (by rfl) fun K hK => ?_
  have hst := storeRow (ty := 44) (vs := (callC 0 8 z0 0 0 (.slice a0 n0 k0) s (.slice none 0 0))) bK0 rfl (by simp [Value.oneCell']) (by kernel_rfl)
  refine op_storeBy _ _ _ rfl _ _ rfl rfl hst ?_
  refine hK _ _ (fun h => absurd h (by decide)) ?_
  clear hK K
  refine mixT_nil ?_
  have hWA : wA.heap.size = w.heap.size + 1 + 1 + 1 := HZA.out
  obtain ⟨X, hX⟩ : ∃ X, X = X0.setRow wA.heap.size (callC 0 8 z0 0 0 (.slice a0 n0 k0) s (.slice none 0 0)) := ⟨_, rfl⟩
  have bAX : Blk X w.heap.size 41 (actC wh f kd off n size xl s) := by rw [hX]; exact (setRow_other _ _ _ _ (by omega)).trans bA0
  have bBX : Blk X (w.heap.size + 1) 38 (bookC (.slice a0 n0 k0) (.slice a1 n1 k1) (.slice a2 n2 k2) z0 z1) := by rw [hX]; exact (setRow_other _ _ _ _ (by omega)).trans bB0
  have bCX : Blk X (w.heap.size + 1 + 1) 44 call0 := by rw [hX]; exact (setRow_other _ _ _ _ (by omega)).trans bC0
  have bKX : Blk X wA.heap.size 44 (callC 0 8 z0 0 0 (.slice a0 n0 k0) s (.slice none 0 0)) := by rw [hX]; exact bK0.setRow
  have BX : Below w.heap.size w X := by rw [hX]; exact Below.setRow BX0 (by omega) _
  rw [← hX]
  have hKC : w.heap.size + 1 + 1 ≠ wA.heap.size := by omega
  have hKA : w.heap.size ≠ wA.heap.size := by omega
  have hKB : w.heap.size + 1 ≠ wA.heap.size := by omega
  have hKL : w.heap.size ≤ wA.heap.size := by omega
  clear hX hst bA0 bB0 bC0 bK0 BX0 bA bB bC BA hWA HZA
  generalize wA.heap.size = CB at *
  have cK := bKX.cells
  have lK := bKX.lt
  have fK := bKX.free
  have cA := bAX.cells
  have lA := bAX.lt
  have hwr := wrapped_any off (z0 + 1) hoff (by omega) X
  have h9 : IntKind.i64.wrap (z0 + 1) = z0 + 1 := by rw [IntKind.wrap_i64]; omega
  go_wp2_with fail
  refine hwr.mono ?_
  rintro e X' ⟨rfl, hX'⟩
  replace hX' := hX'.symm
  subst hX'
  have r2 : Blk ((X.setCell ⟨CB, 0, none⟩ (.int .i64 0)).setCell ⟨CB, 3, none⟩ (.int .i64 (off % (z0 + 1)))) (w.heap.size + 1 + 1) 44 call0 := (bCX.far (p := ⟨CB, _, none⟩) hKC _).far (p := ⟨CB, _, none⟩) hKC _
  have B2 : Below w.heap.size w ((X.setCell ⟨CB, 0, none⟩ (.int .i64 0)).setCell ⟨CB, 3, none⟩ (.int .i64 (off % (z0 + 1)))) := (BX.setCell (p := ⟨CB, 0, none⟩) hKL _).setCell (p := ⟨CB, 3, none⟩) hKL _
  have HST := storeRow (ty := 44) (vs := callC 0 8 z0 (off % (z0 + 1)) 0 (.slice a0 n0 k0) s (.slice none 0 0)) r2 rfl (by simp [Value.oneCell']) (by kernel_rfl)
  have lR := bCX.lt
  clear hwr
  go_wp2_with (refine wpList_storeBy rfl _ _ _ rfl _ _ rfl rfl HST ?_)
  have cF := (r2.setRow (cs' := callC 0 8 z0 (off % (z0 + 1)) 0 (.slice a0 n0 k0) s (.slice none 0 0))).cells
  refine bodyPost_ret (v := .agg (callC 0 8 z0 (off % (z0 + 1)) 0 (.slice a0 n0 k0) s (.slice none 0 0))) (by simp [results, Tryz.results11, go_sem, cF]) rfl ?_
  exact ⟨rfl, Below.setRow B2 (by omega) _⟩

set_option maxRecDepth 100000 in
set_option maxHeartbeats 4000000 in
theorem of_w0_1 (a0 a1 a2 : Option Addr) (n0 k0 n1 k1 n2 k2 : Nat) (z0 z1 : Int) (wh f kd off n size : Int) (xl : Value) (s : ByteArray) (hz : 0 ≤ z1 ∧ z1 ≤ 10000) (hoff : -9223372036854775808 ≤ off ∧ off ≤ 9223372036854775807) (hf : 0 ≤ f ∧ f ≤ 255) (hwh : 0 ≤ wh ∧ wh ≤ 255) (hw8 : wh % 8 = 0) (hf2 : f % 2 = 1) (w : World) :
    Calls Tryz.prog 11 #[.agg (actC wh f kd off n size xl s), .agg (bookC (.slice a0 n0 k0) (.slice a1 n1 k1) (.slice a2 n2 k2) z0 z1)] w fun e w' => e = .returned (.agg (callC 0 8 z1 (off % (z1 + 1)) 0 (.slice a1 n1 k1) s (.slice none 0 0))) ∧ Below w.heap.size w w' := by
  obtain ⟨wA, hA⟩ : ∃ wA, wA = ((w.alloc (.cells (actC wh f kd off n size xl s) 41)).alloc (.cells (bookC (.slice a0 n0 k0) (.slice a1 n1 k1) (.slice a2 n2 k2) z0 z1) 38)).alloc (.cells call0 44) := ⟨_, rfl⟩
  have bA : Blk wA w.heap.size 41 (actC wh f kd off n size xl s) := by rw [hA]; exact (by (repeat' (first | (with_reducible assumption) | exact Blk.new' (by simp) | refine Blk.alloc ?_ _)))
  have bB : Blk wA (w.heap.size + 1) 38 (bookC (.slice a0 n0 k0) (.slice a1 n1 k1) (.slice a2 n2 k2) z0 z1) := by rw [hA]; exact (Blk.new' (by simp)).alloc _
  have bC : Blk wA (w.heap.size + 1 + 1) 44 call0 := by rw [hA]; exact (by (repeat' (first | (with_reducible assumption) | exact Blk.new' (by simp) | refine Blk.alloc ?_ _)))
  have BA : Below w.heap.size w wA := by rw [hA]; (repeat' (first | (with_reducible exact Below.refl _ _) | (with_reducible assumption) | (with_reducible refine Below.alloc ?_ ?_ _) | (with_reducible refine Below.drew ?_) | (with_reducible refine below_drewN' ?_ _) | (with_reducible refine Below.setCell ?_ ?_ _) | (with_reducible exact Nat.le_refl _) | omega | (simp; done) | (simp; omega)))
  have hzA : wA.heap.size = w.heap.size + 1 + 1 + 1 := by rw [hA]; simp
  have h1 : f.tmod 2 = 1 := by rw [← hf2]; exact Int.tmod_eq_emod_of_nonneg hf.1
  have g1 : wh.tmod 8 = 0 := by rw [← hw8]; exact Int.tmod_eq_emod_of_nonneg hwh.1
  have hS : ∀ W, Blk W w.heap.size 41 (actC wh f kd off n size xl s) → Blk W (w.heap.size + 1) 38 (bookC (.slice a0 n0 k0) (.slice a1 n1 k1) (.slice a2 n2 k2) z0 z1) → W.cell? ⟨w.heap.size, 0, none⟩ = some (.int .u8 wh) ∧ W.cell? ⟨w.heap.size, 7, none⟩ = some (.string s) ∧ W.cell? ⟨w.heap.size + 1, 1, none⟩ = some (.slice a1 n1 k1) ∧ W.cell? ⟨w.heap.size, 4, none⟩ = some (.int .i64 n) ∧ W.cell? ⟨w.heap.size, 3, none⟩ = some (.int .i64 off) := fun W b1 b2 => ⟨(b1.cells 0).trans rfl, (b1.cells 7).trans rfl, (b2.cells 1).trans rfl, (b1.cells 4).trans rfl, (b1.cells 3).trans rfl⟩
  have HS := Lib.hid hS
  have cA := bA.cells
  have lA := bA.lt
  have cB := bB.cells
  have lB := bB.lt
  have HZA := Lib.hid hzA
  clear hS hf hwh hw8 hf2 hzA
  go_enter Tryz.func11, Tryz.ntmps11
  go_wp2_with fail
  rw [← hA]
  clear hA
  go_wp2_with fail
  clear cA lA cB lB
  refine wp_region_mix [.take 0, .take 1, .take 2, .take 3, .take 4, .take 5, .take 6, .take 7, .take 8, .take 9, .take 10, .take 11, .one 12, .one 13] 13 (fun W => W.cell? ⟨w.heap.size, 0, none⟩ = some (.int .u8 wh) ∧ W.cell? ⟨w.heap.size, 7, none⟩ = some (.string s) ∧ W.cell? ⟨w.heap.size + 1, 1, none⟩ = some (.slice a1 n1 k1) ∧ W.cell? ⟨w.heap.size, 4, none⟩ = some (.int .i64 n) ∧ W.cell? ⟨w.heap.size, 3, none⟩ = some (.int .i64 off)) (by kernel_rfl) (by kernel_rfl) (fun _ _ _ _ _ h => h) (HS.out _ bA.drew bB.drew) ?_
  simp only [List.map_cons, List.map_nil, Ms.fill, List.getD_cons_zero, List.getD_cons_succ]
  iterate 12 (refine mixT_take (by rfl) ?_ (fun w' hw' => ?_) ?_; rotate_left; (focus (go_simp; (try with_reducible rfl))); (try simp only [Act.put, List.setIfInBounds_toArray, List.set_cons_zero, List.set_cons_succ]))
  obtain ⟨X0, hX0⟩ : ∃ X0, X0 = (wA.alloc (.cells call0 44)).drew := ⟨_, rfl⟩
  have bA0 : Blk X0 w.heap.size 41 (actC wh f kd off n size xl s) := by rw [hX0]; exact (bA.alloc _).drew
  have bB0 : Blk X0 (w.heap.size + 1) 38 (bookC (.slice a0 n0 k0) (.slice a1 n1 k1) (.slice a2 n2 k2) z0 z1) := by rw [hX0]; exact (bB.alloc _).drew
  have bC0 : Blk X0 (w.heap.size + 1 + 1) 44 call0 := by rw [hX0]; exact (bC.alloc _).drew
  have bK0 : Blk X0 wA.heap.size 44 call0 := by rw [hX0]; exact (Blk.new _ _ _).drew
  have BX0 : Below w.heap.size w X0 := by rw [hX0]; exact (BA.alloc BA.size _).drew
  refine mixT_step (by rfl) fun K hK => ?_
  go_simp
  rw [← hX0]
  refine hK _ _ (fun _ => HS.out _ bA0 bB0) ?_
  clear hK K hX0
  refine mixT_step (by rfl) fun K hK => ?_
  have hst := storeRow (ty := 44) (vs := (callC 0 8 z1 0 0 (.slice a1 n1 k1) s (.slice none 0 0))) bK0 rfl (by simp [Value.oneCell']) (by kernel_rfl)
  refine op_storeBy _ _ _ rfl _ _ rfl rfl hst ?_
  refine hK _ _ (fun h => absurd h (by decide)) ?_
  clear hK K
  refine mixT_nil ?_
  have hWA : wA.heap.size = w.heap.size + 1 + 1 + 1 := HZA.out
  obtain ⟨X, hX⟩ : ∃ X, X = X0.setRow wA.heap.size (callC 0 8 z1 0 0 (.slice a1 n1 k1) s (.slice none 0 0)) := ⟨_, rfl⟩
  have bAX : Blk X w.heap.size 41 (actC wh f kd off n size xl s) := by rw [hX]; exact (setRow_other _ _ _ _ (by omega)).trans bA0
  have bBX : Blk X (w.heap.size + 1) 38 (bookC (.slice a0 n0 k0) (.slice a1 n1 k1) (.slice a2 n2 k2) z0 z1) := by rw [hX]; exact (setRow_other _ _ _ _ (by omega)).trans bB0
  have bCX : Blk X (w.heap.size + 1 + 1) 44 call0 := by rw [hX]; exact (setRow_other _ _ _ _ (by omega)).trans bC0
  have bKX : Blk X wA.heap.size 44 (callC 0 8 z1 0 0 (.slice a1 n1 k1) s (.slice none 0 0)) := by rw [hX]; exact bK0.setRow
  have BX : Below w.heap.size w X := by rw [hX]; exact Below.setRow BX0 (by omega) _
  rw [← hX]
  have hKC : w.heap.size + 1 + 1 ≠ wA.heap.size := by omega
  have hKA : w.heap.size ≠ wA.heap.size := by omega
  have hKB : w.heap.size + 1 ≠ wA.heap.size := by omega
  have hKL : w.heap.size ≤ wA.heap.size := by omega
  clear hX hst bA0 bB0 bC0 bK0 BX0 bA bB bC BA hWA HZA
  generalize wA.heap.size = CB at *
  have cK := bKX.cells
  have lK := bKX.lt
  have fK := bKX.free
  have cA := bAX.cells
  have lA := bAX.lt
  have hwr := wrapped_any off (z1 + 1) hoff (by omega) X
  have h9 : IntKind.i64.wrap (z1 + 1) = z1 + 1 := by rw [IntKind.wrap_i64]; omega
  go_wp2_with fail
  refine hwr.mono ?_
  rintro e X' ⟨rfl, hX'⟩
  replace hX' := hX'.symm
  subst hX'
  have r2 : Blk ((X.setCell ⟨CB, 0, none⟩ (.int .i64 0)).setCell ⟨CB, 3, none⟩ (.int .i64 (off % (z1 + 1)))) (w.heap.size + 1 + 1) 44 call0 := (bCX.far (p := ⟨CB, _, none⟩) hKC _).far (p := ⟨CB, _, none⟩) hKC _
  have B2 : Below w.heap.size w ((X.setCell ⟨CB, 0, none⟩ (.int .i64 0)).setCell ⟨CB, 3, none⟩ (.int .i64 (off % (z1 + 1)))) := (BX.setCell (p := ⟨CB, 0, none⟩) hKL _).setCell (p := ⟨CB, 3, none⟩) hKL _
  have HST := storeRow (ty := 44) (vs := callC 0 8 z1 (off % (z1 + 1)) 0 (.slice a1 n1 k1) s (.slice none 0 0)) r2 rfl (by simp [Value.oneCell']) (by kernel_rfl)
  have lR := bCX.lt
  clear hwr
  go_wp2_with (refine wpList_storeBy rfl _ _ _ rfl _ _ rfl rfl HST ?_)
  have cF := (r2.setRow (cs' := callC 0 8 z1 (off % (z1 + 1)) 0 (.slice a1 n1 k1) s (.slice none 0 0))).cells
  refine bodyPost_ret (v := .agg (callC 0 8 z1 (off % (z1 + 1)) 0 (.slice a1 n1 k1) s (.slice none 0 0))) (by simp [results, Tryz.results11, go_sem, cF]) rfl ?_
  exact ⟨rfl, Below.setRow B2 (by omega) _⟩

set_option maxRecDepth 100000 in
set_option maxHeartbeats 4000000 in
theorem of_w1_0 (a0 a1 a2 : Option Addr) (n0 k0 n1 k1 n2 k2 : Nat) (z0 z1 : Int) (wh f kd off n size : Int) (xl : Value) (s : ByteArray) (hz : 0 ≤ z0 ∧ z0 ≤ 10000) (hoff : -9223372036854775808 ≤ off ∧ off ≤ 9223372036854775807) (hf : 0 ≤ f ∧ f ≤ 255) (hwh : 0 ≤ wh ∧ wh ≤ 255) (hw8 : wh % 8 = 1) (hf2 : f % 2 = 0) (w : World) :
    Calls Tryz.prog 11 #[.agg (actC wh f kd off n size xl s), .agg (bookC (.slice a0 n0 k0) (.slice a1 n1 k1) (.slice a2 n2 k2) z0 z1)] w fun e w' => e = .returned (.agg (callC 0 8 z0 (off % (z0 + 1)) 0 (.slice a0 n0 k0) s (.slice none 0 0))) ∧ Below w.heap.size w w' := by
  obtain ⟨wA, hA⟩ : ∃ wA, wA = ((w.alloc (.cells (actC wh f kd off n size xl s) 41)).alloc (.cells (bookC (.slice a0 n0 k0) (.slice a1 n1 k1) (.slice a2 n2 k2) z0 z1) 38)).alloc (.cells call0 44) := ⟨_, rfl⟩
  have bA : Blk wA w.heap.size 41 (actC wh f kd off n size xl s) := by rw [hA]; exact (by (repeat' (first | (with_reducible assumption) | exact Blk.new' (by simp) | refine Blk.alloc ?_ _)))
  have bB : Blk wA (w.heap.size + 1) 38 (bookC (.slice a0 n0 k0) (.slice a1 n1 k1) (.slice a2 n2 k2) z0 z1) := by rw [hA]; exact (Blk.new' (by simp)).alloc _
  have bC : Blk wA (w.heap.size + 1 + 1) 44 call0 := by rw [hA]; exact (by (repeat' (first | (with_reducible assumption) | exact Blk.new' (by simp) | refine Blk.alloc ?_ _)))
  have BA : Below w.heap.size w wA := by rw [hA]; (repeat' (first | (with_reducible exact Below.refl _ _) | (with_reducible assumption) | (with_reducible refine Below.alloc ?_ ?_ _) | (with_reducible refine Below.drew ?_) | (with_reducible refine below_drewN' ?_ _) | (with_reducible refine Below.setCell ?_ ?_ _) | (with_reducible exact Nat.le_refl _) | omega | (simp; done) | (simp; omega)))
  have hzA : wA.heap.size = w.heap.size + 1 + 1 + 1 := by rw [hA]; simp
  have h1 : f.tmod 2 = 0 := by rw [← hf2]; exact Int.tmod_eq_emod_of_nonneg hf.1
  have g1 : wh.tmod 8 = 1 := by rw [← hw8]; exact Int.tmod_eq_emod_of_nonneg hwh.1
  have hS : ∀ W, Blk W w.heap.size 41 (actC wh f kd off n size xl s) → Blk W (w.heap.size + 1) 38 (bookC (.slice a0 n0 k0) (.slice a1 n1 k1) (.slice a2 n2 k2) z0 z1) → W.cell? ⟨w.heap.size, 0, none⟩ = some (.int .u8 wh) ∧ W.cell? ⟨w.heap.size, 7, none⟩ = some (.string s) ∧ W.cell? ⟨w.heap.size + 1, 0, none⟩ = some (.slice a0 n0 k0) ∧ W.cell? ⟨w.heap.size, 4, none⟩ = some (.int .i64 n) ∧ W.cell? ⟨w.heap.size, 3, none⟩ = some (.int .i64 off) := fun W b1 b2 => ⟨(b1.cells 0).trans rfl, (b1.cells 7).trans rfl, (b2.cells 0).trans rfl, (b1.cells 4).trans rfl, (b1.cells 3).trans rfl⟩
  have HS := Lib.hid hS
  have cA := bA.cells
  have lA := bA.lt
  have cB := bB.cells
  have lB := bB.lt
  have HZA := Lib.hid hzA
  clear hS hf hwh hw8 hf2 hzA
  go_enter Tryz.func11, Tryz.ntmps11
  go_wp2_with fail
  rw [← hA]
  clear hA
  go_wp2_with fail
  clear cA lA cB lB
  refine wp_region_mix [.take 0, .take 1, .take 2, .take 3, .take 4, .take 5, .take 6, .take 7, .take 8, .take 9, .take 10, .take 11, .one 12, .one 13] 13 (fun W => W.cell? ⟨w.heap.size, 0, none⟩ = some (.int .u8 wh) ∧ W.cell? ⟨w.heap.size, 7, none⟩ = some (.string s) ∧ W.cell? ⟨w.heap.size + 1, 0, none⟩ = some (.slice a0 n0 k0) ∧ W.cell? ⟨w.heap.size, 4, none⟩ = some (.int .i64 n) ∧ W.cell? ⟨w.heap.size, 3, none⟩ = some (.int .i64 off)) (by kernel_rfl) (by kernel_rfl) (fun _ _ _ _ _ h => h) (HS.out _ bA.drew bB.drew) ?_
  simp only [List.map_cons, List.map_nil, Ms.fill, List.getD_cons_zero, List.getD_cons_succ]
  iterate 12 (refine mixT_take (by rfl) ?_ (fun w' hw' => ?_) ?_; rotate_left; (focus (go_simp; (try with_reducible rfl))); (try simp only [Act.put, List.setIfInBounds_toArray, List.set_cons_zero, List.set_cons_succ]))
  obtain ⟨X0, hX0⟩ : ∃ X0, X0 = (wA.alloc (.cells call0 44)).drew := ⟨_, rfl⟩
  have bA0 : Blk X0 w.heap.size 41 (actC wh f kd off n size xl s) := by rw [hX0]; exact (bA.alloc _).drew
  have bB0 : Blk X0 (w.heap.size + 1) 38 (bookC (.slice a0 n0 k0) (.slice a1 n1 k1) (.slice a2 n2 k2) z0 z1) := by rw [hX0]; exact (bB.alloc _).drew
  have bC0 : Blk X0 (w.heap.size + 1 + 1) 44 call0 := by rw [hX0]; exact (bC.alloc _).drew
  have bK0 : Blk X0 wA.heap.size 44 call0 := by rw [hX0]; exact (Blk.new _ _ _).drew
  have BX0 : Below w.heap.size w X0 := by rw [hX0]; exact (BA.alloc BA.size _).drew
  refine mixT_step (by rfl) fun K hK => ?_
  go_simp
  rw [← hX0]
  refine hK _ _ (fun _ => HS.out _ bA0 bB0) ?_
  clear hK K hX0
  refine mixT_step (by rfl) fun K hK => ?_
  have hst := storeRow (ty := 44) (vs := (callC 1 8 z0 0 0 (.slice a0 n0 k0) s (.slice none 0 0))) bK0 rfl (by simp [Value.oneCell']) (by kernel_rfl)
  refine op_storeBy _ _ _ rfl _ _ rfl rfl hst ?_
  refine hK _ _ (fun h => absurd h (by decide)) ?_
  clear hK K
  refine mixT_nil ?_
  have hWA : wA.heap.size = w.heap.size + 1 + 1 + 1 := HZA.out
  obtain ⟨X, hX⟩ : ∃ X, X = X0.setRow wA.heap.size (callC 1 8 z0 0 0 (.slice a0 n0 k0) s (.slice none 0 0)) := ⟨_, rfl⟩
  have bAX : Blk X w.heap.size 41 (actC wh f kd off n size xl s) := by rw [hX]; exact (setRow_other _ _ _ _ (by omega)).trans bA0
  have bBX : Blk X (w.heap.size + 1) 38 (bookC (.slice a0 n0 k0) (.slice a1 n1 k1) (.slice a2 n2 k2) z0 z1) := by rw [hX]; exact (setRow_other _ _ _ _ (by omega)).trans bB0
  have bCX : Blk X (w.heap.size + 1 + 1) 44 call0 := by rw [hX]; exact (setRow_other _ _ _ _ (by omega)).trans bC0
  have bKX : Blk X wA.heap.size 44 (callC 1 8 z0 0 0 (.slice a0 n0 k0) s (.slice none 0 0)) := by rw [hX]; exact bK0.setRow
  have BX : Below w.heap.size w X := by rw [hX]; exact Below.setRow BX0 (by omega) _
  rw [← hX]
  have hKC : w.heap.size + 1 + 1 ≠ wA.heap.size := by omega
  have hKA : w.heap.size ≠ wA.heap.size := by omega
  have hKB : w.heap.size + 1 ≠ wA.heap.size := by omega
  have hKL : w.heap.size ≤ wA.heap.size := by omega
  clear hX hst bA0 bB0 bC0 bK0 BX0 bA bB bC BA hWA HZA
  generalize wA.heap.size = CB at *
  have cK := bKX.cells
  have lK := bKX.lt
  have fK := bKX.free
  have cA := bAX.cells
  have lA := bAX.lt
  have hwr := wrapped_any off (z0 + 1) hoff (by omega) X
  have h9 : IntKind.i64.wrap (z0 + 1) = z0 + 1 := by rw [IntKind.wrap_i64]; omega
  go_wp2_with fail
  refine hwr.mono ?_
  rintro e X' ⟨rfl, hX'⟩
  replace hX' := hX'.symm
  subst hX'
  have r2 : Blk ((X.setCell ⟨CB, 0, none⟩ (.int .i64 0)).setCell ⟨CB, 3, none⟩ (.int .i64 (off % (z0 + 1)))) (w.heap.size + 1 + 1) 44 call0 := (bCX.far (p := ⟨CB, _, none⟩) hKC _).far (p := ⟨CB, _, none⟩) hKC _
  have B2 : Below w.heap.size w ((X.setCell ⟨CB, 0, none⟩ (.int .i64 0)).setCell ⟨CB, 3, none⟩ (.int .i64 (off % (z0 + 1)))) := (BX.setCell (p := ⟨CB, 0, none⟩) hKL _).setCell (p := ⟨CB, 3, none⟩) hKL _
  have HST := storeRow (ty := 44) (vs := callC 0 8 z0 (off % (z0 + 1)) 0 (.slice a0 n0 k0) s (.slice none 0 0)) r2 rfl (by simp [Value.oneCell']) (by kernel_rfl)
  have lR := bCX.lt
  clear hwr
  go_wp2_with (refine wpList_storeBy rfl _ _ _ rfl _ _ rfl rfl HST ?_)
  have cF := (r2.setRow (cs' := callC 0 8 z0 (off % (z0 + 1)) 0 (.slice a0 n0 k0) s (.slice none 0 0))).cells
  refine bodyPost_ret (v := .agg (callC 0 8 z0 (off % (z0 + 1)) 0 (.slice a0 n0 k0) s (.slice none 0 0))) (by simp [results, Tryz.results11, go_sem, cF]) rfl ?_
  exact ⟨rfl, Below.setRow B2 (by omega) _⟩

set_option maxRecDepth 100000 in
set_option maxHeartbeats 4000000 in
theorem of_w1_1 (a0 a1 a2 : Option Addr) (n0 k0 n1 k1 n2 k2 : Nat) (z0 z1 : Int) (wh f kd off n size : Int) (xl : Value) (s : ByteArray) (hz : 0 ≤ z1 ∧ z1 ≤ 10000) (hoff : -9223372036854775808 ≤ off ∧ off ≤ 9223372036854775807) (hf : 0 ≤ f ∧ f ≤ 255) (hwh : 0 ≤ wh ∧ wh ≤ 255) (hw8 : wh % 8 = 1) (hf2 : f % 2 = 1) (w : World) :
    Calls Tryz.prog 11 #[.agg (actC wh f kd off n size xl s), .agg (bookC (.slice a0 n0 k0) (.slice a1 n1 k1) (.slice a2 n2 k2) z0 z1)] w fun e w' => e = .returned (.agg (callC 0 8 z1 (off % (z1 + 1)) 0 (.slice a1 n1 k1) s (.slice none 0 0))) ∧ Below w.heap.size w w' := by
  obtain ⟨wA, hA⟩ : ∃ wA, wA = ((w.alloc (.cells (actC wh f kd off n size xl s) 41)).alloc (.cells (bookC (.slice a0 n0 k0) (.slice a1 n1 k1) (.slice a2 n2 k2) z0 z1) 38)).alloc (.cells call0 44) := ⟨_, rfl⟩
  have bA : Blk wA w.heap.size 41 (actC wh f kd off n size xl s) := by rw [hA]; exact (by (repeat' (first | (with_reducible assumption) | exact Blk.new' (by simp) | refine Blk.alloc ?_ _)))
  have bB : Blk wA (w.heap.size + 1) 38 (bookC (.slice a0 n0 k0) (.slice a1 n1 k1) (.slice a2 n2 k2) z0 z1) := by rw [hA]; exact (Blk.new' (by simp)).alloc _
  have bC : Blk wA (w.heap.size + 1 + 1) 44 call0 := by rw [hA]; exact (by (repeat' (first | (with_reducible assumption) | exact Blk.new' (by simp) | refine Blk.alloc ?_ _)))
  have BA : Below w.heap.size w wA := by rw [hA]; (repeat' (first | (with_reducible exact Below.refl _ _) | (with_reducible assumption) | (with_reducible refine Below.alloc ?_ ?_ _) | (with_reducible refine Below.drew ?_) | (with_reducible refine below_drewN' ?_ _) | (with_reducible refine Below.setCell ?_ ?_ _) | (with_reducible exact Nat.le_refl _) | omega | (simp; done) | (simp; omega)))
  have hzA : wA.heap.size = w.heap.size + 1 + 1 + 1 := by rw [hA]; simp
  have h1 : f.tmod 2 = 1 := by rw [← hf2]; exact Int.tmod_eq_emod_of_nonneg hf.1
  have g1 : wh.tmod 8 = 1 := by rw [← hw8]; exact Int.tmod_eq_emod_of_nonneg hwh.1
  have hS : ∀ W, Blk W w.heap.size 41 (actC wh f kd off n size xl s) → Blk W (w.heap.size + 1) 38 (bookC (.slice a0 n0 k0) (.slice a1 n1 k1) (.slice a2 n2 k2) z0 z1) → W.cell? ⟨w.heap.size, 0, none⟩ = some (.int .u8 wh) ∧ W.cell? ⟨w.heap.size, 7, none⟩ = some (.string s) ∧ W.cell? ⟨w.heap.size + 1, 1, none⟩ = some (.slice a1 n1 k1) ∧ W.cell? ⟨w.heap.size, 4, none⟩ = some (.int .i64 n) ∧ W.cell? ⟨w.heap.size, 3, none⟩ = some (.int .i64 off) := fun W b1 b2 => ⟨(b1.cells 0).trans rfl, (b1.cells 7).trans rfl, (b2.cells 1).trans rfl, (b1.cells 4).trans rfl, (b1.cells 3).trans rfl⟩
  have HS := Lib.hid hS
  have cA := bA.cells
  have lA := bA.lt
  have cB := bB.cells
  have lB := bB.lt
  have HZA := Lib.hid hzA
  clear hS hf hwh hw8 hf2 hzA
  go_enter Tryz.func11, Tryz.ntmps11
  go_wp2_with fail
  rw [← hA]
  clear hA
  go_wp2_with fail
  clear cA lA cB lB
  refine wp_region_mix [.take 0, .take 1, .take 2, .take 3, .take 4, .take 5, .take 6, .take 7, .take 8, .take 9, .take 10, .take 11, .one 12, .one 13] 13 (fun W => W.cell? ⟨w.heap.size, 0, none⟩ = some (.int .u8 wh) ∧ W.cell? ⟨w.heap.size, 7, none⟩ = some (.string s) ∧ W.cell? ⟨w.heap.size + 1, 1, none⟩ = some (.slice a1 n1 k1) ∧ W.cell? ⟨w.heap.size, 4, none⟩ = some (.int .i64 n) ∧ W.cell? ⟨w.heap.size, 3, none⟩ = some (.int .i64 off)) (by kernel_rfl) (by kernel_rfl) (fun _ _ _ _ _ h => h) (HS.out _ bA.drew bB.drew) ?_
  simp only [List.map_cons, List.map_nil, Ms.fill, List.getD_cons_zero, List.getD_cons_succ]
  iterate 12 (refine mixT_take (by rfl) ?_ (fun w' hw' => ?_) ?_; rotate_left; (focus (go_simp; (try with_reducible rfl))); (try simp only [Act.put, List.setIfInBounds_toArray, List.set_cons_zero, List.set_cons_succ]))
  obtain ⟨X0, hX0⟩ : ∃ X0, X0 = (wA.alloc (.cells call0 44)).drew := ⟨_, rfl⟩
  have bA0 : Blk X0 w.heap.size 41 (actC wh f kd off n size xl s) := by rw [hX0]; exact (bA.alloc _).drew
  have bB0 : Blk X0 (w.heap.size + 1) 38 (bookC (.slice a0 n0 k0) (.slice a1 n1 k1) (.slice a2 n2 k2) z0 z1) := by rw [hX0]; exact (bB.alloc _).drew
  have bC0 : Blk X0 (w.heap.size + 1 + 1) 44 call0 := by rw [hX0]; exact (bC.alloc _).drew
  have bK0 : Blk X0 wA.heap.size 44 call0 := by rw [hX0]; exact (Blk.new _ _ _).drew
  have BX0 : Below w.heap.size w X0 := by rw [hX0]; exact (BA.alloc BA.size _).drew
  refine mixT_step (by rfl) fun K hK => ?_
  go_simp
  rw [← hX0]
  refine hK _ _ (fun _ => HS.out _ bA0 bB0) ?_
  clear hK K hX0
  refine mixT_step (by rfl) fun K hK => ?_
  have hst := storeRow (ty := 44) (vs := (callC 1 8 z1 0 0 (.slice a1 n1 k1) s (.slice none 0 0))) bK0 rfl (by simp [Value.oneCell']) (by kernel_rfl)
  refine op_storeBy _ _ _ rfl _ _ rfl rfl hst ?_
  refine hK _ _ (fun h => absurd h (by decide)) ?_
  clear hK K
  refine mixT_nil ?_
  have hWA : wA.heap.size = w.heap.size + 1 + 1 + 1 := HZA.out
  obtain ⟨X, hX⟩ : ∃ X, X = X0.setRow wA.heap.size (callC 1 8 z1 0 0 (.slice a1 n1 k1) s (.slice none 0 0)) := ⟨_, rfl⟩
  have bAX : Blk X w.heap.size 41 (actC wh f kd off n size xl s) := by rw [hX]; exact (setRow_other _ _ _ _ (by omega)).trans bA0
  have bBX : Blk X (w.heap.size + 1) 38 (bookC (.slice a0 n0 k0) (.slice a1 n1 k1) (.slice a2 n2 k2) z0 z1) := by rw [hX]; exact (setRow_other _ _ _ _ (by omega)).trans bB0
  have bCX : Blk X (w.heap.size + 1 + 1) 44 call0 := by rw [hX]; exact (setRow_other _ _ _ _ (by omega)).trans bC0
  have bKX : Blk X wA.heap.size 44 (callC 1 8 z1 0 0 (.slice a1 n1 k1) s (.slice none 0 0)) := by rw [hX]; exact bK0.setRow
  have BX : Below w.heap.size w X := by rw [hX]; exact Below.setRow BX0 (by omega) _
  rw [← hX]
  have hKC : w.heap.size + 1 + 1 ≠ wA.heap.size := by omega
  have hKA : w.heap.size ≠ wA.heap.size := by omega
  have hKB : w.heap.size + 1 ≠ wA.heap.size := by omega
  have hKL : w.heap.size ≤ wA.heap.size := by omega
  clear hX hst bA0 bB0 bC0 bK0 BX0 bA bB bC BA hWA HZA
  generalize wA.heap.size = CB at *
  have cK := bKX.cells
  have lK := bKX.lt
  have fK := bKX.free
  have cA := bAX.cells
  have lA := bAX.lt
  have hwr := wrapped_any off (z1 + 1) hoff (by omega) X
  have h9 : IntKind.i64.wrap (z1 + 1) = z1 + 1 := by rw [IntKind.wrap_i64]; omega
  go_wp2_with fail
  refine hwr.mono ?_
  rintro e X' ⟨rfl, hX'⟩
  replace hX' := hX'.symm
  subst hX'
  have r2 : Blk ((X.setCell ⟨CB, 0, none⟩ (.int .i64 0)).setCell ⟨CB, 3, none⟩ (.int .i64 (off % (z1 + 1)))) (w.heap.size + 1 + 1) 44 call0 := (bCX.far (p := ⟨CB, _, none⟩) hKC _).far (p := ⟨CB, _, none⟩) hKC _
  have B2 : Below w.heap.size w ((X.setCell ⟨CB, 0, none⟩ (.int .i64 0)).setCell ⟨CB, 3, none⟩ (.int .i64 (off % (z1 + 1)))) := (BX.setCell (p := ⟨CB, 0, none⟩) hKL _).setCell (p := ⟨CB, 3, none⟩) hKL _
  have HST := storeRow (ty := 44) (vs := callC 0 8 z1 (off % (z1 + 1)) 0 (.slice a1 n1 k1) s (.slice none 0 0)) r2 rfl (by simp [Value.oneCell']) (by kernel_rfl)
  have lR := bCX.lt
  clear hwr
  go_wp2_with (refine wpList_storeBy rfl _ _ _ rfl _ _ rfl rfl HST ?_)
  have cF := (r2.setRow (cs' := callC 0 8 z1 (off % (z1 + 1)) 0 (.slice a1 n1 k1) s (.slice none 0 0))).cells
  refine bodyPost_ret (v := .agg (callC 0 8 z1 (off % (z1 + 1)) 0 (.slice a1 n1 k1) s (.slice none 0 0))) (by simp [results, Tryz.results11, go_sem, cF]) rfl ?_
  exact ⟨rfl, Below.setRow B2 (by omega) _⟩

set_option maxRecDepth 100000 in
set_option maxHeartbeats 4000000 in
theorem of_c_0 (a0 a1 a2 : Option Addr) (n0 k0 n1 k1 n2 k2 : Nat) (z0 z1 : Int) (wh f kd off n size : Int) (xl : Value) (s : ByteArray) (hn : -9223372036854775808 ≤ n ∧ n ≤ 9223372036854775807) (hf : 0 ≤ f ∧ f ≤ 255) (hwh : 0 ≤ wh ∧ wh ≤ 255) (hw8 : wh % 8 = 2) (hf2 : f % 2 = 0) (w : World) :
    Calls Tryz.prog 11 #[.agg (actC wh f kd off n size xl s), .agg (bookC (.slice a0 n0 k0) (.slice a1 n1 k1) (.slice a2 n2 k2) z0 z1)] w fun e w' => e = .returned (.agg (callC 2 8 z0 0 (n % 800) (.slice a0 n0 k0) s (.slice none 0 0))) ∧ Below w.heap.size w w' := by
  obtain ⟨wA, hA⟩ : ∃ wA, wA = ((w.alloc (.cells (actC wh f kd off n size xl s) 41)).alloc (.cells (bookC (.slice a0 n0 k0) (.slice a1 n1 k1) (.slice a2 n2 k2) z0 z1) 38)).alloc (.cells call0 44) := ⟨_, rfl⟩
  have bA : Blk wA w.heap.size 41 (actC wh f kd off n size xl s) := by rw [hA]; exact (by (repeat' (first | (with_reducible assumption) | exact Blk.new' (by simp) | refine Blk.alloc ?_ _)))
  have bB : Blk wA (w.heap.size + 1) 38 (bookC (.slice a0 n0 k0) (.slice a1 n1 k1) (.slice a2 n2 k2) z0 z1) := by rw [hA]; exact (Blk.new' (by simp)).alloc _
  have bC : Blk wA (w.heap.size + 1 + 1) 44 call0 := by rw [hA]; exact (by (repeat' (first | (with_reducible assumption) | exact Blk.new' (by simp) | refine Blk.alloc ?_ _)))
  have BA : Below w.heap.size w wA := by rw [hA]; (repeat' (first | (with_reducible exact Below.refl _ _) | (with_reducible assumption) | (with_reducible refine Below.alloc ?_ ?_ _) | (with_reducible refine Below.drew ?_) | (with_reducible refine below_drewN' ?_ _) | (with_reducible refine Below.setCell ?_ ?_ _) | (with_reducible exact Nat.le_refl _) | omega | (simp; done) | (simp; omega)))
  have hzA : wA.heap.size = w.heap.size + 1 + 1 + 1 := by rw [hA]; simp
  have h1 : f.tmod 2 = 0 := by rw [← hf2]; exact Int.tmod_eq_emod_of_nonneg hf.1
  have g1 : wh.tmod 8 = 2 := by rw [← hw8]; exact Int.tmod_eq_emod_of_nonneg hwh.1
  have hS : ∀ W, Blk W w.heap.size 41 (actC wh f kd off n size xl s) → Blk W (w.heap.size + 1) 38 (bookC (.slice a0 n0 k0) (.slice a1 n1 k1) (.slice a2 n2 k2) z0 z1) → W.cell? ⟨w.heap.size, 0, none⟩ = some (.int .u8 wh) ∧ W.cell? ⟨w.heap.size, 7, none⟩ = some (.string s) ∧ W.cell? ⟨w.heap.size + 1, 0, none⟩ = some (.slice a0 n0 k0) ∧ W.cell? ⟨w.heap.size, 4, none⟩ = some (.int .i64 n) ∧ W.cell? ⟨w.heap.size, 3, none⟩ = some (.int .i64 off) := fun W b1 b2 => ⟨(b1.cells 0).trans rfl, (b1.cells 7).trans rfl, (b2.cells 0).trans rfl, (b1.cells 4).trans rfl, (b1.cells 3).trans rfl⟩
  have HS := Lib.hid hS
  have cA := bA.cells
  have lA := bA.lt
  have cB := bB.cells
  have lB := bB.lt
  have HZA := Lib.hid hzA
  clear hS hf hwh hw8 hf2 hzA
  go_enter Tryz.func11, Tryz.ntmps11
  go_wp2_with fail
  rw [← hA]
  clear hA
  go_wp2_with fail
  clear cA lA cB lB
  refine wp_region_mix [.take 0, .take 1, .take 2, .take 3, .take 4, .take 5, .take 6, .take 7, .take 8, .take 9, .take 10, .take 11, .one 12, .one 13] 13 (fun W => W.cell? ⟨w.heap.size, 0, none⟩ = some (.int .u8 wh) ∧ W.cell? ⟨w.heap.size, 7, none⟩ = some (.string s) ∧ W.cell? ⟨w.heap.size + 1, 0, none⟩ = some (.slice a0 n0 k0) ∧ W.cell? ⟨w.heap.size, 4, none⟩ = some (.int .i64 n) ∧ W.cell? ⟨w.heap.size, 3, none⟩ = some (.int .i64 off)) (by kernel_rfl) (by kernel_rfl) (fun _ _ _ _ _ h => h) (HS.out _ bA.drew bB.drew) ?_
  simp only [List.map_cons, List.map_nil, Ms.fill, List.getD_cons_zero, List.getD_cons_succ]
  iterate 12 (refine mixT_take (by rfl) ?_ (fun w' hw' => ?_) ?_; rotate_left; (focus (go_simp; (try with_reducible rfl))); (try simp only [Act.put, List.setIfInBounds_toArray, List.set_cons_zero, List.set_cons_succ]))
  obtain ⟨X0, hX0⟩ : ∃ X0, X0 = (wA.alloc (.cells call0 44)).drew := ⟨_, rfl⟩
  have bA0 : Blk X0 w.heap.size 41 (actC wh f kd off n size xl s) := by rw [hX0]; exact (bA.alloc _).drew
  have bB0 : Blk X0 (w.heap.size + 1) 38 (bookC (.slice a0 n0 k0) (.slice a1 n1 k1) (.slice a2 n2 k2) z0 z1) := by rw [hX0]; exact (bB.alloc _).drew
  have bC0 : Blk X0 (w.heap.size + 1 + 1) 44 call0 := by rw [hX0]; exact (bC.alloc _).drew
  have bK0 : Blk X0 wA.heap.size 44 call0 := by rw [hX0]; exact (Blk.new _ _ _).drew
  have BX0 : Below w.heap.size w X0 := by rw [hX0]; exact (BA.alloc BA.size _).drew
  refine mixT_step (by rfl) fun K hK => ?_
  go_simp
  rw [← hX0]
  refine hK _ _ (fun _ => HS.out _ bA0 bB0) ?_
  clear hK K hX0
  refine mixT_step (by rfl) fun K hK => ?_
  have hst := storeRow (ty := 44) (vs := (callC 2 8 z0 0 0 (.slice a0 n0 k0) s (.slice none 0 0))) bK0 rfl (by simp [Value.oneCell']) (by kernel_rfl)
  refine op_storeBy _ _ _ rfl _ _ rfl rfl hst ?_
  refine hK _ _ (fun h => absurd h (by decide)) ?_
  clear hK K
  refine mixT_nil ?_
  have hWA : wA.heap.size = w.heap.size + 1 + 1 + 1 := HZA.out
  obtain ⟨X, hX⟩ : ∃ X, X = X0.setRow wA.heap.size (callC 2 8 z0 0 0 (.slice a0 n0 k0) s (.slice none 0 0)) := ⟨_, rfl⟩
  have bAX : Blk X w.heap.size 41 (actC wh f kd off n size xl s) := by rw [hX]; exact (setRow_other _ _ _ _ (by omega)).trans bA0
  have bBX : Blk X (w.heap.size + 1) 38 (bookC (.slice a0 n0 k0) (.slice a1 n1 k1) (.slice a2 n2 k2) z0 z1) := by rw [hX]; exact (setRow_other _ _ _ _ (by omega)).trans bB0
  have bCX : Blk X (w.heap.size + 1 + 1) 44 call0 := by rw [hX]; exact (setRow_other _ _ _ _ (by omega)).trans bC0
  have bKX : Blk X wA.heap.size 44 (callC 2 8 z0 0 0 (.slice a0 n0 k0) s (.slice none 0 0)) := by rw [hX]; exact bK0.setRow
  have BX : Below w.heap.size w X := by rw [hX]; exact Below.setRow BX0 (by omega) _
  rw [← hX]
  have hKC : w.heap.size + 1 + 1 ≠ wA.heap.size := by omega
  have hKA : w.heap.size ≠ wA.heap.size := by omega
  have hKB : w.heap.size + 1 ≠ wA.heap.size := by omega
  have hKL : w.heap.size ≤ wA.heap.size := by omega
  clear hX hst bA0 bB0 bC0 bK0 BX0 bA bB bC BA hWA HZA
  generalize wA.heap.size = CB at *
  have cK := bKX.cells
  have lK := bKX.lt
  have fK := bKX.free
  have cA := bAX.cells
  have lA := bAX.lt
  have hwr := wrapped_any n 800 hn (by omega) X
  go_wp2_with fail
  refine hwr.mono ?_
  rintro e X' ⟨rfl, hX'⟩
  replace hX' := hX'.symm
  subst hX'
  have r2 : Blk (X.setCell ⟨CB, 4, none⟩ (.int .i64 (n % 800))) (w.heap.size + 1 + 1) 44 call0 := bCX.far (p := ⟨CB, _, none⟩) hKC _
  have B2 : Below w.heap.size w (X.setCell ⟨CB, 4, none⟩ (.int .i64 (n % 800))) := BX.setCell (p := ⟨CB, 4, none⟩) hKL _
  have HST := storeRow (ty := 44) (vs := callC 2 8 z0 0 (n % 800) (.slice a0 n0 k0) s (.slice none 0 0)) r2 rfl (by simp [Value.oneCell']) (by kernel_rfl)
  have lR := bCX.lt
  clear hwr
  go_wp2_with (refine wpList_storeBy rfl _ _ _ rfl _ _ rfl rfl HST ?_)
  have cF := (r2.setRow (cs' := callC 2 8 z0 0 (n % 800) (.slice a0 n0 k0) s (.slice none 0 0))).cells
  refine bodyPost_ret (v := .agg (callC 2 8 z0 0 (n % 800) (.slice a0 n0 k0) s (.slice none 0 0))) (by simp [results, Tryz.results11, go_sem, cF]) rfl ?_
  exact ⟨rfl, Below.setRow B2 (by omega) _⟩

set_option maxRecDepth 100000 in
set_option maxHeartbeats 4000000 in
theorem of_c_1 (a0 a1 a2 : Option Addr) (n0 k0 n1 k1 n2 k2 : Nat) (z0 z1 : Int) (wh f kd off n size : Int) (xl : Value) (s : ByteArray) (hn : -9223372036854775808 ≤ n ∧ n ≤ 9223372036854775807) (hf : 0 ≤ f ∧ f ≤ 255) (hwh : 0 ≤ wh ∧ wh ≤ 255) (hw8 : wh % 8 = 2) (hf2 : f % 2 = 1) (w : World) :
    Calls Tryz.prog 11 #[.agg (actC wh f kd off n size xl s), .agg (bookC (.slice a0 n0 k0) (.slice a1 n1 k1) (.slice a2 n2 k2) z0 z1)] w fun e w' => e = .returned (.agg (callC 2 8 z1 0 (n % 800) (.slice a1 n1 k1) s (.slice none 0 0))) ∧ Below w.heap.size w w' := by
  obtain ⟨wA, hA⟩ : ∃ wA, wA = ((w.alloc (.cells (actC wh f kd off n size xl s) 41)).alloc (.cells (bookC (.slice a0 n0 k0) (.slice a1 n1 k1) (.slice a2 n2 k2) z0 z1) 38)).alloc (.cells call0 44) := ⟨_, rfl⟩
  have bA : Blk wA w.heap.size 41 (actC wh f kd off n size xl s) := by rw [hA]; exact (by (repeat' (first | (with_reducible assumption) | exact Blk.new' (by simp) | refine Blk.alloc ?_ _)))
  have bB : Blk wA (w.heap.size + 1) 38 (bookC (.slice a0 n0 k0) (.slice a1 n1 k1) (.slice a2 n2 k2) z0 z1) := by rw [hA]; exact (Blk.new' (by simp)).alloc _
  have bC : Blk wA (w.heap.size + 1 + 1) 44 call0 := by rw [hA]; exact (by (repeat' (first | (with_reducible assumption) | exact Blk.new' (by simp) | refine Blk.alloc ?_ _)))
  have BA : Below w.heap.size w wA := by rw [hA]; (repeat' (first | (with_reducible exact Below.refl _ _) | (with_reducible assumption) | (with_reducible refine Below.alloc ?_ ?_ _) | (with_reducible refine Below.drew ?_) | (with_reducible refine below_drewN' ?_ _) | (with_reducible refine Below.setCell ?_ ?_ _) | (with_reducible exact Nat.le_refl _) | omega | (simp; done) | (simp; omega)))
  have hzA : wA.heap.size = w.heap.size + 1 + 1 + 1 := by rw [hA]; simp
  have h1 : f.tmod 2 = 1 := by rw [← hf2]; exact Int.tmod_eq_emod_of_nonneg hf.1
  have g1 : wh.tmod 8 = 2 := by rw [← hw8]; exact Int.tmod_eq_emod_of_nonneg hwh.1
  have hS : ∀ W, Blk W w.heap.size 41 (actC wh f kd off n size xl s) → Blk W (w.heap.size + 1) 38 (bookC (.slice a0 n0 k0) (.slice a1 n1 k1) (.slice a2 n2 k2) z0 z1) → W.cell? ⟨w.heap.size, 0, none⟩ = some (.int .u8 wh) ∧ W.cell? ⟨w.heap.size, 7, none⟩ = some (.string s) ∧ W.cell? ⟨w.heap.size + 1, 1, none⟩ = some (.slice a1 n1 k1) ∧ W.cell? ⟨w.heap.size, 4, none⟩ = some (.int .i64 n) ∧ W.cell? ⟨w.heap.size, 3, none⟩ = some (.int .i64 off) := fun W b1 b2 => ⟨(b1.cells 0).trans rfl, (b1.cells 7).trans rfl, (b2.cells 1).trans rfl, (b1.cells 4).trans rfl, (b1.cells 3).trans rfl⟩
  have HS := Lib.hid hS
  have cA := bA.cells
  have lA := bA.lt
  have cB := bB.cells
  have lB := bB.lt
  have HZA := Lib.hid hzA
  clear hS hf hwh hw8 hf2 hzA
  go_enter Tryz.func11, Tryz.ntmps11
  go_wp2_with fail
  rw [← hA]
  clear hA
  go_wp2_with fail
  clear cA lA cB lB
  refine wp_region_mix [.take 0, .take 1, .take 2, .take 3, .take 4, .take 5, .take 6, .take 7, .take 8, .take 9, .take 10, .take 11, .one 12, .one 13] 13 (fun W => W.cell? ⟨w.heap.size, 0, none⟩ = some (.int .u8 wh) ∧ W.cell? ⟨w.heap.size, 7, none⟩ = some (.string s) ∧ W.cell? ⟨w.heap.size + 1, 1, none⟩ = some (.slice a1 n1 k1) ∧ W.cell? ⟨w.heap.size, 4, none⟩ = some (.int .i64 n) ∧ W.cell? ⟨w.heap.size, 3, none⟩ = some (.int .i64 off)) (by kernel_rfl) (by kernel_rfl) (fun _ _ _ _ _ h => h) (HS.out _ bA.drew bB.drew) ?_
  simp only [List.map_cons, List.map_nil, Ms.fill, List.getD_cons_zero, List.getD_cons_succ]
  iterate 12 (refine mixT_take (by rfl) ?_ (fun w' hw' => ?_) ?_; rotate_left; (focus (go_simp; (try with_reducible rfl))); (try simp only [Act.put, List.setIfInBounds_toArray, List.set_cons_zero, List.set_cons_succ]))
  obtain ⟨X0, hX0⟩ : ∃ X0, X0 = (wA.alloc (.cells call0 44)).drew := ⟨_, rfl⟩
  have bA0 : Blk X0 w.heap.size 41 (actC wh f kd off n size xl s) := by rw [hX0]; exact (bA.alloc _).drew
  have bB0 : Blk X0 (w.heap.size + 1) 38 (bookC (.slice a0 n0 k0) (.slice a1 n1 k1) (.slice a2 n2 k2) z0 z1) := by rw [hX0]; exact (bB.alloc _).drew
  have bC0 : Blk X0 (w.heap.size + 1 + 1) 44 call0 := by rw [hX0]; exact (bC.alloc _).drew
  have bK0 : Blk X0 wA.heap.size 44 call0 := by rw [hX0]; exact (Blk.new _ _ _).drew
  have BX0 : Below w.heap.size w X0 := by rw [hX0]; exact (BA.alloc BA.size _).drew
  refine mixT_step (by rfl) fun K hK => ?_
  go_simp
  rw [← hX0]
  refine hK _ _ (fun _ => HS.out _ bA0 bB0) ?_
  clear hK K hX0
  refine mixT_step (by rfl) fun K hK => ?_
  have hst := storeRow (ty := 44) (vs := (callC 2 8 z1 0 0 (.slice a1 n1 k1) s (.slice none 0 0))) bK0 rfl (by simp [Value.oneCell']) (by kernel_rfl)
  refine op_storeBy _ _ _ rfl _ _ rfl rfl hst ?_
  refine hK _ _ (fun h => absurd h (by decide)) ?_
  clear hK K
  refine mixT_nil ?_
  have hWA : wA.heap.size = w.heap.size + 1 + 1 + 1 := HZA.out
  obtain ⟨X, hX⟩ : ∃ X, X = X0.setRow wA.heap.size (callC 2 8 z1 0 0 (.slice a1 n1 k1) s (.slice none 0 0)) := ⟨_, rfl⟩
  have bAX : Blk X w.heap.size 41 (actC wh f kd off n size xl s) := by rw [hX]; exact (setRow_other _ _ _ _ (by omega)).trans bA0
  have bBX : Blk X (w.heap.size + 1) 38 (bookC (.slice a0 n0 k0) (.slice a1 n1 k1) (.slice a2 n2 k2) z0 z1) := by rw [hX]; exact (setRow_other _ _ _ _ (by omega)).trans bB0
  have bCX : Blk X (w.heap.size + 1 + 1) 44 call0 := by rw [hX]; exact (setRow_other _ _ _ _ (by omega)).trans bC0
  have bKX : Blk X wA.heap.size 44 (callC 2 8 z1 0 0 (.slice a1 n1 k1) s (.slice none 0 0)) := by rw [hX]; exact bK0.setRow
  have BX : Below w.heap.size w X := by rw [hX]; exact Below.setRow BX0 (by omega) _
  rw [← hX]
  have hKC : w.heap.size + 1 + 1 ≠ wA.heap.size := by omega
  have hKA : w.heap.size ≠ wA.heap.size := by omega
  have hKB : w.heap.size + 1 ≠ wA.heap.size := by omega
  have hKL : w.heap.size ≤ wA.heap.size := by omega
  clear hX hst bA0 bB0 bC0 bK0 BX0 bA bB bC BA hWA HZA
  generalize wA.heap.size = CB at *
  have cK := bKX.cells
  have lK := bKX.lt
  have fK := bKX.free
  have cA := bAX.cells
  have lA := bAX.lt
  have hwr := wrapped_any n 800 hn (by omega) X
  go_wp2_with fail
  refine hwr.mono ?_
  rintro e X' ⟨rfl, hX'⟩
  replace hX' := hX'.symm
  subst hX'
  have r2 : Blk (X.setCell ⟨CB, 4, none⟩ (.int .i64 (n % 800))) (w.heap.size + 1 + 1) 44 call0 := bCX.far (p := ⟨CB, _, none⟩) hKC _
  have B2 : Below w.heap.size w (X.setCell ⟨CB, 4, none⟩ (.int .i64 (n % 800))) := BX.setCell (p := ⟨CB, 4, none⟩) hKL _
  have HST := storeRow (ty := 44) (vs := callC 2 8 z1 0 (n % 800) (.slice a1 n1 k1) s (.slice none 0 0)) r2 rfl (by simp [Value.oneCell']) (by kernel_rfl)
  have lR := bCX.lt
  clear hwr
  go_wp2_with (refine wpList_storeBy rfl _ _ _ rfl _ _ rfl rfl HST ?_)
  have cF := (r2.setRow (cs' := callC 2 8 z1 0 (n % 800) (.slice a1 n1 k1) s (.slice none 0 0))).cells
  refine bodyPost_ret (v := .agg (callC 2 8 z1 0 (n % 800) (.slice a1 n1 k1) s (.slice none 0 0))) (by simp [results, Tryz.results11, go_sem, cF]) rfl ?_
  exact ⟨rfl, Below.setRow B2 (by omega) _⟩

set_option maxRecDepth 100000 in
set_option maxHeartbeats 4000000 in
theorem of_r3_0 (a0 a1 a2 : Option Addr) (n0 k0 n1 k1 n2 k2 : Nat) (z0 z1 : Int) (wh f kd off n size : Int) (xl : Value) (s : ByteArray) (hz : 0 ≤ z0 ∧ z0 ≤ 10000) (hoff : -9223372036854775808 ≤ off ∧ off ≤ 9223372036854775807) (hn : -9223372036854775808 ≤ n ∧ n ≤ 9223372036854775807) (hf : 0 ≤ f ∧ f ≤ 255) (hwh : 0 ≤ wh ∧ wh ≤ 255) (hw8 : wh % 8 = 3) (hf2 : f % 2 = 0) (w : World) :
    Calls Tryz.prog 11 #[.agg (actC wh f kd off n size xl s), .agg (bookC (.slice a0 n0 k0) (.slice a1 n1 k1) (.slice a2 n2 k2) z0 z1)] w fun e w' => e = .returned (.agg (callC 3 8 z0 (off % (z0 + 1)) (n % 800) (.slice a0 n0 k0) s (.slice none 0 0))) ∧ Below w.heap.size w w' := by
  obtain ⟨wA, hA⟩ : ∃ wA, wA = ((w.alloc (.cells (actC wh f kd off n size xl s) 41)).alloc (.cells (bookC (.slice a0 n0 k0) (.slice a1 n1 k1) (.slice a2 n2 k2) z0 z1) 38)).alloc (.cells call0 44) := ⟨_, rfl⟩
  have bA : Blk wA w.heap.size 41 (actC wh f kd off n size xl s) := by rw [hA]; exact (by (repeat' (first | (with_reducible assumption) | exact Blk.new' (by simp) | refine Blk.alloc ?_ _)))
  have bB : Blk wA (w.heap.size + 1) 38 (bookC (.slice a0 n0 k0) (.slice a1 n1 k1) (.slice a2 n2 k2) z0 z1) := by rw [hA]; exact (Blk.new' (by simp)).alloc _
  have bC : Blk wA (w.heap.size + 1 + 1) 44 call0 := by rw [hA]; exact (by (repeat' (first | (with_reducible assumption) | exact Blk.new' (by simp) | refine Blk.alloc ?_ _)))
  have BA : Below w.heap.size w wA := by rw [hA]; (repeat' (first | (with_reducible exact Below.refl _ _) | (with_reducible assumption) | (with_reducible refine Below.alloc ?_ ?_ _) | (with_reducible refine Below.drew ?_) | (with_reducible refine below_drewN' ?_ _) | (with_reducible refine Below.setCell ?_ ?_ _) | (with_reducible exact Nat.le_refl _) | omega | (simp; done) | (simp; omega)))
  have hzA : wA.heap.size = w.heap.size + 1 + 1 + 1 := by rw [hA]; simp
  have h1 : f.tmod 2 = 0 := by rw [← hf2]; exact Int.tmod_eq_emod_of_nonneg hf.1
  have g1 : wh.tmod 8 = 3 := by rw [← hw8]; exact Int.tmod_eq_emod_of_nonneg hwh.1
  have hS : ∀ W, Blk W w.heap.size 41 (actC wh f kd off n size xl s) → Blk W (w.heap.size + 1) 38 (bookC (.slice a0 n0 k0) (.slice a1 n1 k1) (.slice a2 n2 k2) z0 z1) → W.cell? ⟨w.heap.size, 0, none⟩ = some (.int .u8 wh) ∧ W.cell? ⟨w.heap.size, 7, none⟩ = some (.string s) ∧ W.cell? ⟨w.heap.size + 1, 0, none⟩ = some (.slice a0 n0 k0) ∧ W.cell? ⟨w.heap.size, 4, none⟩ = some (.int .i64 n) ∧ W.cell? ⟨w.heap.size, 3, none⟩ = some (.int .i64 off) := fun W b1 b2 => ⟨(b1.cells 0).trans rfl, (b1.cells 7).trans rfl, (b2.cells 0).trans rfl, (b1.cells 4).trans rfl, (b1.cells 3).trans rfl⟩
  have HS := Lib.hid hS
  have cA := bA.cells
  have lA := bA.lt
  have cB := bB.cells
  have lB := bB.lt
  have HZA := Lib.hid hzA
  clear hS hf hwh hw8 hf2 hzA
  go_enter Tryz.func11, Tryz.ntmps11
  go_wp2_with fail
  rw [← hA]
  clear hA
  go_wp2_with fail
  clear cA lA cB lB
  refine wp_region_mix [.take 0, .take 1, .take 2, .take 3, .take 4, .take 5, .take 6, .take 7, .take 8, .take 9, .take 10, .take 11, .one 12, .one 13] 13 (fun W => W.cell? ⟨w.heap.size, 0, none⟩ = some (.int .u8 wh) ∧ W.cell? ⟨w.heap.size, 7, none⟩ = some (.string s) ∧ W.cell? ⟨w.heap.size + 1, 0, none⟩ = some (.slice a0 n0 k0) ∧ W.cell? ⟨w.heap.size, 4, none⟩ = some (.int .i64 n) ∧ W.cell? ⟨w.heap.size, 3, none⟩ = some (.int .i64 off)) (by kernel_rfl) (by kernel_rfl) (fun _ _ _ _ _ h => h) (HS.out _ bA.drew bB.drew) ?_
  simp only [List.map_cons, List.map_nil, Ms.fill, List.getD_cons_zero, List.getD_cons_succ]
  iterate 12 (refine mixT_take (by rfl) ?_ (fun w' hw' => ?_) ?_; rotate_left; (focus (go_simp; (try with_reducible rfl))); (try simp only [Act.put, List.setIfInBounds_toArray, List.set_cons_zero, List.set_cons_succ]))
  obtain ⟨X0, hX0⟩ : ∃ X0, X0 = (wA.alloc (.cells call0 44)).drew := ⟨_, rfl⟩
  have bA0 : Blk X0 w.heap.size 41 (actC wh f kd off n size xl s) := by rw [hX0]; exact (bA.alloc _).drew
  have bB0 : Blk X0 (w.heap.size + 1) 38 (bookC (.slice a0 n0 k0) (.slice a1 n1 k1) (.slice a2 n2 k2) z0 z1) := by rw [hX0]; exact (bB.alloc _).drew
  have bC0 : Blk X0 (w.heap.size + 1 + 1) 44 call0 := by rw [hX0]; exact (bC.alloc _).drew
  have bK0 : Blk X0 wA.heap.size 44 call0 := by rw [hX0]; exact (Blk.new _ _ _).drew
  have BX0 : Below w.heap.size w X0 := by rw [hX0]; exact (BA.alloc BA.size _).drew
  refine mixT_step (by rfl) fun K hK => ?_
  go_simp
  rw [← hX0]
  refine hK _ _ (fun _ => HS.out _ bA0 bB0) ?_
  clear hK K hX0
  refine mixT_step (by rfl) fun K hK => ?_
  have hst := storeRow (ty := 44) (vs := (callC 3 8 z0 0 0 (.slice a0 n0 k0) s (.slice none 0 0))) bK0 rfl (by simp [Value.oneCell']) (by kernel_rfl)
  refine op_storeBy _ _ _ rfl _ _ rfl rfl hst ?_
  refine hK _ _ (fun h => absurd h (by decide)) ?_
  clear hK K
  refine mixT_nil ?_
  have hWA : wA.heap.size = w.heap.size + 1 + 1 + 1 := HZA.out
  obtain ⟨X, hX⟩ : ∃ X, X = X0.setRow wA.heap.size (callC 3 8 z0 0 0 (.slice a0 n0 k0) s (.slice none 0 0)) := ⟨_, rfl⟩
  have bAX : Blk X w.heap.size 41 (actC wh f kd off n size xl s) := by rw [hX]; exact (setRow_other _ _ _ _ (by omega)).trans bA0
  have bBX : Blk X (w.heap.size + 1) 38 (bookC (.slice a0 n0 k0) (.slice a1 n1 k1) (.slice a2 n2 k2) z0 z1) := by rw [hX]; exact (setRow_other _ _ _ _ (by omega)).trans bB0
  have bCX : Blk X (w.heap.size + 1 + 1) 44 call0 := by rw [hX]; exact (setRow_other _ _ _ _ (by omega)).trans bC0
  have bKX : Blk X wA.heap.size 44 (callC 3 8 z0 0 0 (.slice a0 n0 k0) s (.slice none 0 0)) := by rw [hX]; exact bK0.setRow
  have BX : Below w.heap.size w X := by rw [hX]; exact Below.setRow BX0 (by omega) _
  rw [← hX]
  have hKC : w.heap.size + 1 + 1 ≠ wA.heap.size := by omega
  have hKA : w.heap.size ≠ wA.heap.size := by omega
  have hKB : w.heap.size + 1 ≠ wA.heap.size := by omega
  have hKL : w.heap.size ≤ wA.heap.size := by omega
  clear hX hst bA0 bB0 bC0 bK0 BX0 bA bB bC BA hWA HZA
  generalize wA.heap.size = CB at *
  have cK := bKX.cells
  have lK := bKX.lt
  have fK := bKX.free
  have cA := bAX.cells
  have lA := bAX.lt
  have hwr := wrapped_any off (z0 + 1) hoff (by omega) X.drew
  have h9 : IntKind.i64.wrap (z0 + 1) = z0 + 1 := by rw [IntKind.wrap_i64]; omega
  have hwr2 := wrapped_any n 800 hn (by omega) X.drew
  have HW1 := Lib.hid hwr
  have HW2 := Lib.hid hwr2
  clear hwr hwr2
  go_wp2_with fail
  clear cA lA
  refine wp_region_mix [.take 0, .take 1, .take 2, .take 3, .take 5, .take 6, .take 8, .one 4, .one 7, .one 9, .take 10, .one 11, .take 12, .one 13] 14 (fun W => W.cell? ⟨w.heap.size, 0, none⟩ = some (.int .u8 wh) ∧ W.cell? ⟨w.heap.size, 7, none⟩ = some (.string s) ∧ W.cell? ⟨w.heap.size + 1, 0, none⟩ = some (.slice a0 n0 k0) ∧ W.cell? ⟨w.heap.size, 4, none⟩ = some (.int .i64 n) ∧ W.cell? ⟨w.heap.size, 3, none⟩ = some (.int .i64 off)) (by kernel_rfl) (by kernel_rfl) (fun _ _ _ _ _ h => h) (HS.out _ bAX.drew bBX.drew) ?_
  simp only [List.map_cons, List.map_nil, Ms.fill, List.getD_cons_zero, List.getD_cons_succ]
  iterate 7 (refine mixT_take (by rfl) ?_ (fun w' hw' => ?_) ?_; rotate_left; (focus (go_simp; (try with_reducible rfl))); (try simp only [Act.put, List.setIfInBounds_toArray, List.set_cons_zero, List.set_cons_succ]))
  refine mixT_step (by rfl) fun K hK => ?_
  go_simp
  refine HW1.out.mono ?_
  rintro e X' ⟨rfl, rfl⟩
  refine hK _ _ (fun _ => HS.out _ bAX.drew bBX.drew) ?_
  clear hK K
  refine mixT_step (by rfl) fun K hK => ?_
  go_simp
  refine HW2.out.mono ?_
  rintro e X' ⟨rfl, rfl⟩
  refine hK _ _ (fun _ => HS.out _ bAX.drew bBX.drew) ?_
  clear hK K HW1 HW2
  refine mixT_step (by rfl) fun K hK => ?_
  go_simp
  refine hK _ _ (fun _ => HS.out _ (by first | exact bAX.drew.far (p := ⟨CB, 0, none⟩) hKA _ | exact (bAX.far (p := ⟨CB, 0, none⟩) hKA _).drew) (by first | exact bBX.drew.far (p := ⟨CB, 0, none⟩) hKB _ | exact (bBX.far (p := ⟨CB, 0, none⟩) hKB _).drew)) ?_
  clear hK K
  (refine mixT_take (by rfl) ?_ (fun w' hw' => ?_) ?_; rotate_left; (focus (go_simp; (try with_reducible rfl))); (try simp only [Act.put, List.setIfInBounds_toArray, List.set_cons_zero, List.set_cons_succ]))
  refine mixT_step (by rfl) fun K hK => ?_
  go_simp
  refine hK _ _ (fun _ => HS.out _ (by first | exact (bAX.drew.far (p := ⟨CB, 0, none⟩) hKA _).far (p := ⟨CB, 3, none⟩) hKA _ | exact ((bAX.far (p := ⟨CB, 0, none⟩) hKA _).far (p := ⟨CB, 3, none⟩) hKA _).drew) (by first | exact (bBX.drew.far (p := ⟨CB, 0, none⟩) hKB _).far (p := ⟨CB, 3, none⟩) hKB _ | exact ((bBX.far (p := ⟨CB, 0, none⟩) hKB _).far (p := ⟨CB, 3, none⟩) hKB _).drew)) ?_
  clear hK K
  (refine mixT_take (by rfl) ?_ (fun w' hw' => ?_) ?_; rotate_left; (focus (go_simp; (try with_reducible rfl))); (try simp only [Act.put, List.setIfInBounds_toArray, List.set_cons_zero, List.set_cons_succ]))
  refine mixT_step (by rfl) fun K hK => ?_
  go_simp
  refine hK _ _ (fun _ => HS.out _ (by first | exact ((bAX.drew.far (p := ⟨CB, 0, none⟩) hKA _).far (p := ⟨CB, 3, none⟩) hKA _).far (p := ⟨CB, 4, none⟩) hKA _ | exact (((bAX.far (p := ⟨CB, 0, none⟩) hKA _).far (p := ⟨CB, 3, none⟩) hKA _).far (p := ⟨CB, 4, none⟩) hKA _).drew) (by first | exact ((bBX.drew.far (p := ⟨CB, 0, none⟩) hKB _).far (p := ⟨CB, 3, none⟩) hKB _).far (p := ⟨CB, 4, none⟩) hKB _ | exact (((bBX.far (p := ⟨CB, 0, none⟩) hKB _).far (p := ⟨CB, 3, none⟩) hKB _).far (p := ⟨CB, 4, none⟩) hKB _).drew)) ?_
  clear hK K
  refine mixT_nil ?_
  have b2 : Blk (((X.drew.setCell ⟨CB, 0, none⟩ (.int .i64 3)).setCell ⟨CB, 3, none⟩ (.int .i64 (off % (z0 + 1)))).setCell ⟨CB, 4, none⟩ (.int .i64 (n % 800))) CB 44 (callC 3 8 z0 (off % (z0 + 1)) (n % 800) (.slice a0 n0 k0) s (.slice none 0 0)) := ((bKX.drew.set_ 0 (.int .i64 3)).set_ 3 (.int .i64 (off % (z0 + 1)))).set_ 4 (.int .i64 (n % 800))
  have r2 : Blk (((X.drew.setCell ⟨CB, 0, none⟩ (.int .i64 3)).setCell ⟨CB, 3, none⟩ (.int .i64 (off % (z0 + 1)))).setCell ⟨CB, 4, none⟩ (.int .i64 (n % 800))) (w.heap.size + 1 + 1) 44 call0 := ((bCX.drew.far (p := ⟨CB, _, none⟩) hKC _).far (p := ⟨CB, _, none⟩) hKC _).far (p := ⟨CB, _, none⟩) hKC _
  have B2 : Below w.heap.size w (((X.drew.setCell ⟨CB, 0, none⟩ (.int .i64 3)).setCell ⟨CB, 3, none⟩ (.int .i64 (off % (z0 + 1)))).setCell ⟨CB, 4, none⟩ (.int .i64 (n % 800))) := ((BX.drew.setCell (p := ⟨CB, 0, none⟩) hKL _).setCell (p := ⟨CB, 3, none⟩) hKL _).setCell (p := ⟨CB, 4, none⟩) hKL _
  obtain ⟨V2, hV2⟩ : ∃ V2, V2 = (((X.drew.setCell ⟨CB, 0, none⟩ (.int .i64 3)).setCell ⟨CB, 3, none⟩ (.int .i64 (off % (z0 + 1)))).setCell ⟨CB, 4, none⟩ (.int .i64 (n % 800))) := ⟨_, rfl⟩
  have hV3 : V2 = (((X.setCell ⟨CB, 0, none⟩ (.int .i64 3)).setCell ⟨CB, 3, none⟩ (.int .i64 (off % (z0 + 1)))).setCell ⟨CB, 4, none⟩ (.int .i64 (n % 800))).drew := hV2
  rw [← hV2] at b2 r2 B2
  first | rw [← hV2] | rw [← hV3]
  have HST := storeRow (ty := 44) (vs := callC 3 8 z0 (off % (z0 + 1)) (n % 800) (.slice a0 n0 k0) s (.slice none 0 0)) r2 rfl (by simp [Value.oneCell']) (by kernel_rfl)
  have lR := r2.lt
  have c2 := b2.cells
  have l2 := b2.lt
  clear hV2 hV3 lK fK cK
  go_wp2_with (refine wpList_storeBy rfl _ _ _ rfl _ _ rfl rfl HST ?_)
  have cF := (r2.setRow (cs' := callC 3 8 z0 (off % (z0 + 1)) (n % 800) (.slice a0 n0 k0) s (.slice none 0 0))).cells
  refine bodyPost_ret (v := .agg (callC 3 8 z0 (off % (z0 + 1)) (n % 800) (.slice a0 n0 k0) s (.slice none 0 0))) (by simp [results, Tryz.results11, go_sem, cF]) rfl ?_
  exact ⟨rfl, Below.setRow B2 (by omega) _⟩

set_option maxRecDepth 100000 in
set_option maxHeartbeats 4000000 in
theorem of_r3_1 (a0 a1 a2 : Option Addr) (n0 k0 n1 k1 n2 k2 : Nat) (z0 z1 : Int) (wh f kd off n size : Int) (xl : Value) (s : ByteArray) (hz : 0 ≤ z1 ∧ z1 ≤ 10000) (hoff : -9223372036854775808 ≤ off ∧ off ≤ 9223372036854775807) (hn : -9223372036854775808 ≤ n ∧ n ≤ 9223372036854775807) (hf : 0 ≤ f ∧ f ≤ 255) (hwh : 0 ≤ wh ∧ wh ≤ 255) (hw8 : wh % 8 = 3) (hf2 : f % 2 = 1) (w : World) :
    Calls Tryz.prog 11 #[.agg (actC wh f kd off n size xl s), .agg (bookC (.slice a0 n0 k0) (.slice a1 n1 k1) (.slice a2 n2 k2) z0 z1)] w fun e w' => e = .returned (.agg (callC 3 8 z1 (off % (z1 + 1)) (n % 800) (.slice a1 n1 k1) s (.slice none 0 0))) ∧ Below w.heap.size w w' := by
  obtain ⟨wA, hA⟩ : ∃ wA, wA = ((w.alloc (.cells (actC wh f kd off n size xl s) 41)).alloc (.cells (bookC (.slice a0 n0 k0) (.slice a1 n1 k1) (.slice a2 n2 k2) z0 z1) 38)).alloc (.cells call0 44) := ⟨_, rfl⟩
  have bA : Blk wA w.heap.size 41 (actC wh f kd off n size xl s) := by rw [hA]; exact (by (repeat' (first | (with_reducible assumption) | exact Blk.new' (by simp) | refine Blk.alloc ?_ _)))
  have bB : Blk wA (w.heap.size + 1) 38 (bookC (.slice a0 n0 k0) (.slice a1 n1 k1) (.slice a2 n2 k2) z0 z1) := by rw [hA]; exact (Blk.new' (by simp)).alloc _
  have bC : Blk wA (w.heap.size + 1 + 1) 44 call0 := by rw [hA]; exact (by (repeat' (first | (with_reducible assumption) | exact Blk.new' (by simp) | refine Blk.alloc ?_ _)))
  have BA : Below w.heap.size w wA := by rw [hA]; (repeat' (first | (with_reducible exact Below.refl _ _) | (with_reducible assumption) | (with_reducible refine Below.alloc ?_ ?_ _) | (with_reducible refine Below.drew ?_) | (with_reducible refine below_drewN' ?_ _) | (with_reducible refine Below.setCell ?_ ?_ _) | (with_reducible exact Nat.le_refl _) | omega | (simp; done) | (simp; omega)))
  have hzA : wA.heap.size = w.heap.size + 1 + 1 + 1 := by rw [hA]; simp
  have h1 : f.tmod 2 = 1 := by rw [← hf2]; exact Int.tmod_eq_emod_of_nonneg hf.1
  have g1 : wh.tmod 8 = 3 := by rw [← hw8]; exact Int.tmod_eq_emod_of_nonneg hwh.1
  have hS : ∀ W, Blk W w.heap.size 41 (actC wh f kd off n size xl s) → Blk W (w.heap.size + 1) 38 (bookC (.slice a0 n0 k0) (.slice a1 n1 k1) (.slice a2 n2 k2) z0 z1) → W.cell? ⟨w.heap.size, 0, none⟩ = some (.int .u8 wh) ∧ W.cell? ⟨w.heap.size, 7, none⟩ = some (.string s) ∧ W.cell? ⟨w.heap.size + 1, 1, none⟩ = some (.slice a1 n1 k1) ∧ W.cell? ⟨w.heap.size, 4, none⟩ = some (.int .i64 n) ∧ W.cell? ⟨w.heap.size, 3, none⟩ = some (.int .i64 off) := fun W b1 b2 => ⟨(b1.cells 0).trans rfl, (b1.cells 7).trans rfl, (b2.cells 1).trans rfl, (b1.cells 4).trans rfl, (b1.cells 3).trans rfl⟩
  have HS := Lib.hid hS
  have cA := bA.cells
  have lA := bA.lt
  have cB := bB.cells
  have lB := bB.lt
  have HZA := Lib.hid hzA
  clear hS hf hwh hw8 hf2 hzA
  go_enter Tryz.func11, Tryz.ntmps11
  go_wp2_with fail
  rw [← hA]
  clear hA
  go_wp2_with fail
  clear cA lA cB lB
  refine wp_region_mix [.take 0, .take 1, .take 2, .take 3, .take 4, .take 5, .take 6, .take 7, .take 8, .take 9, .take 10, .take 11, .one 12, .one 13] 13 (fun W => W.cell? ⟨w.heap.size, 0, none⟩ = some (.int .u8 wh) ∧ W.cell? ⟨w.heap.size, 7, none⟩ = some (.string s) ∧ W.cell? ⟨w.heap.size + 1, 1, none⟩ = some (.slice a1 n1 k1) ∧ W.cell? ⟨w.heap.size, 4, none⟩ = some (.int .i64 n) ∧ W.cell? ⟨w.heap.size, 3, none⟩ = some (.int .i64 off)) (by kernel_rfl) (by kernel_rfl) (fun _ _ _ _ _ h => h) (HS.out _ bA.drew bB.drew) ?_
  simp only [List.map_cons, List.map_nil, Ms.fill, List.getD_cons_zero, List.getD_cons_succ]
  iterate 12 (refine mixT_take (by rfl) ?_ (fun w' hw' => ?_) ?_; rotate_left; (focus (go_simp; (try with_reducible rfl))); (try simp only [Act.put, List.setIfInBounds_toArray, List.set_cons_zero, List.set_cons_succ]))
  obtain ⟨X0, hX0⟩ : ∃ X0, X0 = (wA.alloc (.cells call0 44)).drew := ⟨_, rfl⟩
  have bA0 : Blk X0 w.heap.size 41 (actC wh f kd off n size xl s) := by rw [hX0]; exact (bA.alloc _).drew
  have bB0 : Blk X0 (w.heap.size + 1) 38 (bookC (.slice a0 n0 k0) (.slice a1 n1 k1) (.slice a2 n2 k2) z0 z1) := by rw [hX0]; exact (bB.alloc _).drew
  have bC0 : Blk X0 (w.heap.size + 1 + 1) 44 call0 := by rw [hX0]; exact (bC.alloc _).drew
  have bK0 : Blk X0 wA.heap.size 44 call0 := by rw [hX0]; exact (Blk.new _ _ _).drew
  have BX0 : Below w.heap.size w X0 := by rw [hX0]; exact (BA.alloc BA.size _).drew
  refine mixT_step (by rfl) fun K hK => ?_
  go_simp
  rw [← hX0]
  refine hK _ _ (fun _ => HS.out _ bA0 bB0) ?_
  clear hK K hX0
  refine mixT_step (by rfl) fun K hK => ?_
  have hst := storeRow (ty := 44) (vs := (callC 3 8 z1 0 0 (.slice a1 n1 k1) s (.slice none 0 0))) bK0 rfl (by simp [Value.oneCell']) (by kernel_rfl)
  refine op_storeBy _ _ _ rfl _ _ rfl rfl hst ?_
  refine hK _ _ (fun h => absurd h (by decide)) ?_
  clear hK K
  refine mixT_nil ?_
  have hWA : wA.heap.size = w.heap.size + 1 + 1 + 1 := HZA.out
  obtain ⟨X, hX⟩ : ∃ X, X = X0.setRow wA.heap.size (callC 3 8 z1 0 0 (.slice a1 n1 k1) s (.slice none 0 0)) := ⟨_, rfl⟩
  have bAX : Blk X w.heap.size 41 (actC wh f kd off n size xl s) := by rw [hX]; exact (setRow_other _ _ _ _ (by omega)).trans bA0
  have bBX : Blk X (w.heap.size + 1) 38 (bookC (.slice a0 n0 k0) (.slice a1 n1 k1) (.slice a2 n2 k2) z0 z1) := by rw [hX]; exact (setRow_other _ _ _ _ (by omega)).trans bB0
  have bCX : Blk X (w.heap.size + 1 + 1) 44 call0 := by rw [hX]; exact (setRow_other _ _ _ _ (by omega)).trans bC0
  have bKX : Blk X wA.heap.size 44 (callC 3 8 z1 0 0 (.slice a1 n1 k1) s (.slice none 0 0)) := by rw [hX]; exact bK0.setRow
  have BX : Below w.heap.size w X := by rw [hX]; exact Below.setRow BX0 (by omega) _
  rw [← hX]
  have hKC : w.heap.size + 1 + 1 ≠ wA.heap.size := by omega
  have hKA : w.heap.size ≠ wA.heap.size := by omega
  have hKB : w.heap.size + 1 ≠ wA.heap.size := by omega
  have hKL : w.heap.size ≤ wA.heap.size := by omega
  clear hX hst bA0 bB0 bC0 bK0 BX0 bA bB bC BA hWA HZA
  generalize wA.heap.size = CB at *
  have cK := bKX.cells
  have lK := bKX.lt
  have fK := bKX.free
  have cA := bAX.cells
  have lA := bAX.lt
  have hwr := wrapped_any off (z1 + 1) hoff (by omega) X.drew
  have h9 : IntKind.i64.wrap (z1 + 1) = z1 + 1 := by rw [IntKind.wrap_i64]; omega
  have hwr2 := wrapped_any n 800 hn (by omega) X.drew
  have HW1 := Lib.hid hwr
  have HW2 := Lib.hid hwr2
  clear hwr hwr2
  go_wp2_with fail
  clear cA lA
  refine wp_region_mix [.take 0, .take 1, .take 2, .take 3, .take 5, .take 6, .take 8, .one 4, .one 7, .one 9, .take 10, .one 11, .take 12, .one 13] 14 (fun W => W.cell? ⟨w.heap.size, 0, none⟩ = some (.int .u8 wh) ∧ W.cell? ⟨w.heap.size, 7, none⟩ = some (.string s) ∧ W.cell? ⟨w.heap.size + 1, 1, none⟩ = some (.slice a1 n1 k1) ∧ W.cell? ⟨w.heap.size, 4, none⟩ = some (.int .i64 n) ∧ W.cell? ⟨w.heap.size, 3, none⟩ = some (.int .i64 off)) (by kernel_rfl) (by kernel_rfl) (fun _ _ _ _ _ h => h) (HS.out _ bAX.drew bBX.drew) ?_
  simp only [List.map_cons, List.map_nil, Ms.fill, List.getD_cons_zero, List.getD_cons_succ]
  iterate 7 (refine mixT_take (by rfl) ?_ (fun w' hw' => ?_) ?_; rotate_left; (focus (go_simp; (try with_reducible rfl))); (try simp only [Act.put, List.setIfInBounds_toArray, List.set_cons_zero, List.set_cons_succ]))
  refine mixT_step (by rfl) fun K hK => ?_
  go_simp
  refine HW1.out.mono ?_
  rintro e X' ⟨rfl, rfl⟩
  refine hK _ _ (fun _ => HS.out _ bAX.drew bBX.drew) ?_
  clear hK K
  refine mixT_step (by rfl) fun K hK => ?_
  go_simp
  refine HW2.out.mono ?_
  rintro e X' ⟨rfl, rfl⟩
  refine hK _ _ (fun _ => HS.out _ bAX.drew bBX.drew) ?_
  clear hK K HW1 HW2
  refine mixT_step (by rfl) fun K hK => ?_
  go_simp
  refine hK _ _ (fun _ => HS.out _ (by first | exact bAX.drew.far (p := ⟨CB, 0, none⟩) hKA _ | exact (bAX.far (p := ⟨CB, 0, none⟩) hKA _).drew) (by first | exact bBX.drew.far (p := ⟨CB, 0, none⟩) hKB _ | exact (bBX.far (p := ⟨CB, 0, none⟩) hKB _).drew)) ?_
  clear hK K
  (refine mixT_take (by rfl) ?_ (fun w' hw' => ?_) ?_; rotate_left; (focus (go_simp; (try with_reducible rfl))); (try simp only [Act.put, List.setIfInBounds_toArray, List.set_cons_zero, List.set_cons_succ]))
  refine mixT_step (by rfl) fun K hK => ?_
  go_simp
  refine hK _ _ (fun _ => HS.out _ (by first | exact (bAX.drew.far (p := ⟨CB, 0, none⟩) hKA _).far (p := ⟨CB, 3, none⟩) hKA _ | exact ((bAX.far (p := ⟨CB, 0, none⟩) hKA _).far (p := ⟨CB, 3, none⟩) hKA _).drew) (by first | exact (bBX.drew.far (p := ⟨CB, 0, none⟩) hKB _).far (p := ⟨CB, 3, none⟩) hKB _ | exact ((bBX.far (p := ⟨CB, 0, none⟩) hKB _).far (p := ⟨CB, 3, none⟩) hKB _).drew)) ?_
  clear hK K
  (refine mixT_take (by rfl) ?_ (fun w' hw' => ?_) ?_; rotate_left; (focus (go_simp; (try with_reducible rfl))); (try simp only [Act.put, List.setIfInBounds_toArray, List.set_cons_zero, List.set_cons_succ]))
  refine mixT_step (by rfl) fun K hK => ?_
  go_simp
  refine hK _ _ (fun _ => HS.out _ (by first | exact ((bAX.drew.far (p := ⟨CB, 0, none⟩) hKA _).far (p := ⟨CB, 3, none⟩) hKA _).far (p := ⟨CB, 4, none⟩) hKA _ | exact (((bAX.far (p := ⟨CB, 0, none⟩) hKA _).far (p := ⟨CB, 3, none⟩) hKA _).far (p := ⟨CB, 4, none⟩) hKA _).drew) (by first | exact ((bBX.drew.far (p := ⟨CB, 0, none⟩) hKB _).far (p := ⟨CB, 3, none⟩) hKB _).far (p := ⟨CB, 4, none⟩) hKB _ | exact (((bBX.far (p := ⟨CB, 0, none⟩) hKB _).far (p := ⟨CB, 3, none⟩) hKB _).far (p := ⟨CB, 4, none⟩) hKB _).drew)) ?_
  clear hK K
  refine mixT_nil ?_
  have b2 : Blk (((X.drew.setCell ⟨CB, 0, none⟩ (.int .i64 3)).setCell ⟨CB, 3, none⟩ (.int .i64 (off % (z1 + 1)))).setCell ⟨CB, 4, none⟩ (.int .i64 (n % 800))) CB 44 (callC 3 8 z1 (off % (z1 + 1)) (n % 800) (.slice a1 n1 k1) s (.slice none 0 0)) := ((bKX.drew.set_ 0 (.int .i64 3)).set_ 3 (.int .i64 (off % (z1 + 1)))).set_ 4 (.int .i64 (n % 800))
  have r2 : Blk (((X.drew.setCell ⟨CB, 0, none⟩ (.int .i64 3)).setCell ⟨CB, 3, none⟩ (.int .i64 (off % (z1 + 1)))).setCell ⟨CB, 4, none⟩ (.int .i64 (n % 800))) (w.heap.size + 1 + 1) 44 call0 := ((bCX.drew.far (p := ⟨CB, _, none⟩) hKC _).far (p := ⟨CB, _, none⟩) hKC _).far (p := ⟨CB, _, none⟩) hKC _
  have B2 : Below w.heap.size w (((X.drew.setCell ⟨CB, 0, none⟩ (.int .i64 3)).setCell ⟨CB, 3, none⟩ (.int .i64 (off % (z1 + 1)))).setCell ⟨CB, 4, none⟩ (.int .i64 (n % 800))) := ((BX.drew.setCell (p := ⟨CB, 0, none⟩) hKL _).setCell (p := ⟨CB, 3, none⟩) hKL _).setCell (p := ⟨CB, 4, none⟩) hKL _
  obtain ⟨V2, hV2⟩ : ∃ V2, V2 = (((X.drew.setCell ⟨CB, 0, none⟩ (.int .i64 3)).setCell ⟨CB, 3, none⟩ (.int .i64 (off % (z1 + 1)))).setCell ⟨CB, 4, none⟩ (.int .i64 (n % 800))) := ⟨_, rfl⟩
  have hV3 : V2 = (((X.setCell ⟨CB, 0, none⟩ (.int .i64 3)).setCell ⟨CB, 3, none⟩ (.int .i64 (off % (z1 + 1)))).setCell ⟨CB, 4, none⟩ (.int .i64 (n % 800))).drew := hV2
  rw [← hV2] at b2 r2 B2
  first | rw [← hV2] | rw [← hV3]
  have HST := storeRow (ty := 44) (vs := callC 3 8 z1 (off % (z1 + 1)) (n % 800) (.slice a1 n1 k1) s (.slice none 0 0)) r2 rfl (by simp [Value.oneCell']) (by kernel_rfl)
  have lR := r2.lt
  have c2 := b2.cells
  have l2 := b2.lt
  clear hV2 hV3 lK fK cK
  go_wp2_with (refine wpList_storeBy rfl _ _ _ rfl _ _ rfl rfl HST ?_)
  have cF := (r2.setRow (cs' := callC 3 8 z1 (off % (z1 + 1)) (n % 800) (.slice a1 n1 k1) s (.slice none 0 0))).cells
  refine bodyPost_ret (v := .agg (callC 3 8 z1 (off % (z1 + 1)) (n % 800) (.slice a1 n1 k1) s (.slice none 0 0))) (by simp [results, Tryz.results11, go_sem, cF]) rfl ?_
  exact ⟨rfl, Below.setRow B2 (by omega) _⟩

set_option maxRecDepth 100000 in
set_option maxHeartbeats 4000000 in
theorem of_r4_0 (a0 a1 a2 : Option Addr) (n0 k0 n1 k1 n2 k2 : Nat) (z0 z1 : Int) (wh f kd off n size : Int) (xl : Value) (s : ByteArray) (hz : 0 ≤ z0 ∧ z0 ≤ 10000) (hoff : -9223372036854775808 ≤ off ∧ off ≤ 9223372036854775807) (hn : -9223372036854775808 ≤ n ∧ n ≤ 9223372036854775807) (hf : 0 ≤ f ∧ f ≤ 255) (hwh : 0 ≤ wh ∧ wh ≤ 255) (hw8 : wh % 8 = 4) (hf2 : f % 2 = 0) (w : World) :
    Calls Tryz.prog 11 #[.agg (actC wh f kd off n size xl s), .agg (bookC (.slice a0 n0 k0) (.slice a1 n1 k1) (.slice a2 n2 k2) z0 z1)] w fun e w' => e = .returned (.agg (callC 3 8 z0 (off % (z0 + 1)) (n % 800) (.slice a0 n0 k0) s (.slice none 0 0))) ∧ Below w.heap.size w w' := by
  obtain ⟨wA, hA⟩ : ∃ wA, wA = ((w.alloc (.cells (actC wh f kd off n size xl s) 41)).alloc (.cells (bookC (.slice a0 n0 k0) (.slice a1 n1 k1) (.slice a2 n2 k2) z0 z1) 38)).alloc (.cells call0 44) := ⟨_, rfl⟩
  have bA : Blk wA w.heap.size 41 (actC wh f kd off n size xl s) := by rw [hA]; exact (by (repeat' (first | (with_reducible assumption) | exact Blk.new' (by simp) | refine Blk.alloc ?_ _)))
  have bB : Blk wA (w.heap.size + 1) 38 (bookC (.slice a0 n0 k0) (.slice a1 n1 k1) (.slice a2 n2 k2) z0 z1) := by rw [hA]; exact (Blk.new' (by simp)).alloc _
  have bC : Blk wA (w.heap.size + 1 + 1) 44 call0 := by rw [hA]; exact (by (repeat' (first | (with_reducible assumption) | exact Blk.new' (by simp) | refine Blk.alloc ?_ _)))
  have BA : Below w.heap.size w wA := by rw [hA]; (repeat' (first | (with_reducible exact Below.refl _ _) | (with_reducible assumption) | (with_reducible refine Below.alloc ?_ ?_ _) | (with_reducible refine Below.drew ?_) | (with_reducible refine below_drewN' ?_ _) | (with_reducible refine Below.setCell ?_ ?_ _) | (with_reducible exact Nat.le_refl _) | omega | (simp; done) | (simp; omega)))
  have hzA : wA.heap.size = w.heap.size + 1 + 1 + 1 := by rw [hA]; simp
  have h1 : f.tmod 2 = 0 := by rw [← hf2]; exact Int.tmod_eq_emod_of_nonneg hf.1
  have g1 : wh.tmod 8 = 4 := by rw [← hw8]; exact Int.tmod_eq_emod_of_nonneg hwh.1
  have hS : ∀ W, Blk W w.heap.size 41 (actC wh f kd off n size xl s) → Blk W (w.heap.size + 1) 38 (bookC (.slice a0 n0 k0) (.slice a1 n1 k1) (.slice a2 n2 k2) z0 z1) → W.cell? ⟨w.heap.size, 0, none⟩ = some (.int .u8 wh) ∧ W.cell? ⟨w.heap.size, 7, none⟩ = some (.string s) ∧ W.cell? ⟨w.heap.size + 1, 0, none⟩ = some (.slice a0 n0 k0) ∧ W.cell? ⟨w.heap.size, 4, none⟩ = some (.int .i64 n) ∧ W.cell? ⟨w.heap.size, 3, none⟩ = some (.int .i64 off) := fun W b1 b2 => ⟨(b1.cells 0).trans rfl, (b1.cells 7).trans rfl, (b2.cells 0).trans rfl, (b1.cells 4).trans rfl, (b1.cells 3).trans rfl⟩
  have HS := Lib.hid hS
  have cA := bA.cells
  have lA := bA.lt
  have cB := bB.cells
  have lB := bB.lt
  have HZA := Lib.hid hzA
  clear hS hf hwh hw8 hf2 hzA
  go_enter Tryz.func11, Tryz.ntmps11
  go_wp2_with fail
  rw [← hA]
  clear hA
  go_wp2_with fail
  clear cA lA cB lB
  refine wp_region_mix [.take 0, .take 1, .take 2, .take 3, .take 4, .take 5, .take 6, .take 7, .take 8, .take 9, .take 10, .take 11, .one 12, .one 13] 13 (fun W => W.cell? ⟨w.heap.size, 0, none⟩ = some (.int .u8 wh) ∧ W.cell? ⟨w.heap.size, 7, none⟩ = some (.string s) ∧ W.cell? ⟨w.heap.size + 1, 0, none⟩ = some (.slice a0 n0 k0) ∧ W.cell? ⟨w.heap.size, 4, none⟩ = some (.int .i64 n) ∧ W.cell? ⟨w.heap.size, 3, none⟩ = some (.int .i64 off)) (by kernel_rfl) (by kernel_rfl) (fun _ _ _ _ _ h => h) (HS.out _ bA.drew bB.drew) ?_
  simp only [List.map_cons, List.map_nil, Ms.fill, List.getD_cons_zero, List.getD_cons_succ]
  iterate 12 (refine mixT_take (by rfl) ?_ (fun w' hw' => ?_) ?_; rotate_left; (focus (go_simp; (try with_reducible rfl))); (try simp only [Act.put, List.setIfInBounds_toArray, List.set_cons_zero, List.set_cons_succ]))
  obtain ⟨X0, hX0⟩ : ∃ X0, X0 = (wA.alloc (.cells call0 44)).drew := ⟨_, rfl⟩
  have bA0 : Blk X0 w.heap.size 41 (actC wh f kd off n size xl s) := by rw [hX0]; exact (bA.alloc _).drew
  have bB0 : Blk X0 (w.heap.size + 1) 38 (bookC (.slice a0 n0 k0) (.slice a1 n1 k1) (.slice a2 n2 k2) z0 z1) := by rw [hX0]; exact (bB.alloc _).drew
  have bC0 : Blk X0 (w.heap.size + 1 + 1) 44 call0 := by rw [hX0]; exact (bC.alloc _).drew
  have bK0 : Blk X0 wA.heap.size 44 call0 := by rw [hX0]; exact (Blk.new _ _ _).drew
  have BX0 : Below w.heap.size w X0 := by rw [hX0]; exact (BA.alloc BA.size _).drew
  refine mixT_step (by rfl) fun K hK => ?_
  go_simp
  rw [← hX0]
  refine hK _ _ (fun _ => HS.out _ bA0 bB0) ?_
  clear hK K hX0
  refine mixT_step (by rfl) fun K hK => ?_
  have hst := storeRow (ty := 44) (vs := (callC 4 8 z0 0 0 (.slice a0 n0 k0) s (.slice none 0 0))) bK0 rfl (by simp [Value.oneCell']) (by kernel_rfl)
  refine op_storeBy _ _ _ rfl _ _ rfl rfl hst ?_
  refine hK _ _ (fun h => absurd h (by decide)) ?_
  clear hK K
  refine mixT_nil ?_
  have hWA : wA.heap.size = w.heap.size + 1 + 1 + 1 := HZA.out
  obtain ⟨X, hX⟩ : ∃ X, X = X0.setRow wA.heap.size (callC 4 8 z0 0 0 (.slice a0 n0 k0) s (.slice none 0 0)) := ⟨_, rfl⟩
  have bAX : Blk X w.heap.size 41 (actC wh f kd off n size xl s) := by rw [hX]; exact (setRow_other _ _ _ _ (by omega)).trans bA0
  have bBX : Blk X (w.heap.size + 1) 38 (bookC (.slice a0 n0 k0) (.slice a1 n1 k1) (.slice a2 n2 k2) z0 z1) := by rw [hX]; exact (setRow_other _ _ _ _ (by omega)).trans bB0
  have bCX : Blk X (w.heap.size + 1 + 1) 44 call0 := by rw [hX]; exact (setRow_other _ _ _ _ (by omega)).trans bC0
  have bKX : Blk X wA.heap.size 44 (callC 4 8 z0 0 0 (.slice a0 n0 k0) s (.slice none 0 0)) := by rw [hX]; exact bK0.setRow
  have BX : Below w.heap.size w X := by rw [hX]; exact Below.setRow BX0 (by omega) _
  rw [← hX]
  have hKC : w.heap.size + 1 + 1 ≠ wA.heap.size := by omega
  have hKA : w.heap.size ≠ wA.heap.size := by omega
  have hKB : w.heap.size + 1 ≠ wA.heap.size := by omega
  have hKL : w.heap.size ≤ wA.heap.size := by omega
  clear hX hst bA0 bB0 bC0 bK0 BX0 bA bB bC BA hWA HZA
  generalize wA.heap.size = CB at *
  have cK := bKX.cells
  have lK := bKX.lt
  have fK := bKX.free
  have cA := bAX.cells
  have lA := bAX.lt
  have hwr := wrapped_any off (z0 + 1) hoff (by omega) X.drew
  have h9 : IntKind.i64.wrap (z0 + 1) = z0 + 1 := by rw [IntKind.wrap_i64]; omega
  have hwr2 := wrapped_any n 800 hn (by omega) X.drew
  have HW1 := Lib.hid hwr
  have HW2 := Lib.hid hwr2
  clear hwr hwr2
  go_wp2_with fail
  clear cA lA
  refine wp_region_mix [.take 0, .take 1, .take 2, .take 3, .take 5, .take 6, .take 8, .one 4, .one 7, .one 9, .take 10, .one 11, .take 12, .one 13] 14 (fun W => W.cell? ⟨w.heap.size, 0, none⟩ = some (.int .u8 wh) ∧ W.cell? ⟨w.heap.size, 7, none⟩ = some (.string s) ∧ W.cell? ⟨w.heap.size + 1, 0, none⟩ = some (.slice a0 n0 k0) ∧ W.cell? ⟨w.heap.size, 4, none⟩ = some (.int .i64 n) ∧ W.cell? ⟨w.heap.size, 3, none⟩ = some (.int .i64 off)) (by kernel_rfl) (by kernel_rfl) (fun _ _ _ _ _ h => h) (HS.out _ bAX.drew bBX.drew) ?_
  simp only [List.map_cons, List.map_nil, Ms.fill, List.getD_cons_zero, List.getD_cons_succ]
  iterate 7 (refine mixT_take (by rfl) ?_ (fun w' hw' => ?_) ?_; rotate_left; (focus (go_simp; (try with_reducible rfl))); (try simp only [Act.put, List.setIfInBounds_toArray, List.set_cons_zero, List.set_cons_succ]))
  refine mixT_step (by rfl) fun K hK => ?_
  go_simp
  refine HW1.out.mono ?_
  rintro e X' ⟨rfl, rfl⟩
  refine hK _ _ (fun _ => HS.out _ bAX.drew bBX.drew) ?_
  clear hK K
  refine mixT_step (by rfl) fun K hK => ?_
  go_simp
  refine HW2.out.mono ?_
  rintro e X' ⟨rfl, rfl⟩
  refine hK _ _ (fun _ => HS.out _ bAX.drew bBX.drew) ?_
  clear hK K HW1 HW2
  refine mixT_step (by rfl) fun K hK => ?_
  go_simp
  refine hK _ _ (fun _ => HS.out _ (by first | exact bAX.drew.far (p := ⟨CB, 0, none⟩) hKA _ | exact (bAX.far (p := ⟨CB, 0, none⟩) hKA _).drew) (by first | exact bBX.drew.far (p := ⟨CB, 0, none⟩) hKB _ | exact (bBX.far (p := ⟨CB, 0, none⟩) hKB _).drew)) ?_
  clear hK K
  (refine mixT_take (by rfl) ?_ (fun w' hw' => ?_) ?_; rotate_left; (focus (go_simp; (try with_reducible rfl))); (try simp only [Act.put, List.setIfInBounds_toArray, List.set_cons_zero, List.set_cons_succ]))
  refine mixT_step (by rfl) fun K hK => ?_
  go_simp
  refine hK _ _ (fun _ => HS.out _ (by first | exact (bAX.drew.far (p := ⟨CB, 0, none⟩) hKA _).far (p := ⟨CB, 3, none⟩) hKA _ | exact ((bAX.far (p := ⟨CB, 0, none⟩) hKA _).far (p := ⟨CB, 3, none⟩) hKA _).drew) (by first | exact (bBX.drew.far (p := ⟨CB, 0, none⟩) hKB _).far (p := ⟨CB, 3, none⟩) hKB _ | exact ((bBX.far (p := ⟨CB, 0, none⟩) hKB _).far (p := ⟨CB, 3, none⟩) hKB _).drew)) ?_
  clear hK K
  (refine mixT_take (by rfl) ?_ (fun w' hw' => ?_) ?_; rotate_left; (focus (go_simp; (try with_reducible rfl))); (try simp only [Act.put, List.setIfInBounds_toArray, List.set_cons_zero, List.set_cons_succ]))
  refine mixT_step (by rfl) fun K hK => ?_
  go_simp
  refine hK _ _ (fun _ => HS.out _ (by first | exact ((bAX.drew.far (p := ⟨CB, 0, none⟩) hKA _).far (p := ⟨CB, 3, none⟩) hKA _).far (p := ⟨CB, 4, none⟩) hKA _ | exact (((bAX.far (p := ⟨CB, 0, none⟩) hKA _).far (p := ⟨CB, 3, none⟩) hKA _).far (p := ⟨CB, 4, none⟩) hKA _).drew) (by first | exact ((bBX.drew.far (p := ⟨CB, 0, none⟩) hKB _).far (p := ⟨CB, 3, none⟩) hKB _).far (p := ⟨CB, 4, none⟩) hKB _ | exact (((bBX.far (p := ⟨CB, 0, none⟩) hKB _).far (p := ⟨CB, 3, none⟩) hKB _).far (p := ⟨CB, 4, none⟩) hKB _).drew)) ?_
  clear hK K
  refine mixT_nil ?_
  have b2 : Blk (((X.drew.setCell ⟨CB, 0, none⟩ (.int .i64 3)).setCell ⟨CB, 3, none⟩ (.int .i64 (off % (z0 + 1)))).setCell ⟨CB, 4, none⟩ (.int .i64 (n % 800))) CB 44 (callC 3 8 z0 (off % (z0 + 1)) (n % 800) (.slice a0 n0 k0) s (.slice none 0 0)) := ((bKX.drew.set_ 0 (.int .i64 3)).set_ 3 (.int .i64 (off % (z0 + 1)))).set_ 4 (.int .i64 (n % 800))
  have r2 : Blk (((X.drew.setCell ⟨CB, 0, none⟩ (.int .i64 3)).setCell ⟨CB, 3, none⟩ (.int .i64 (off % (z0 + 1)))).setCell ⟨CB, 4, none⟩ (.int .i64 (n % 800))) (w.heap.size + 1 + 1) 44 call0 := ((bCX.drew.far (p := ⟨CB, _, none⟩) hKC _).far (p := ⟨CB, _, none⟩) hKC _).far (p := ⟨CB, _, none⟩) hKC _
  have B2 : Below w.heap.size w (((X.drew.setCell ⟨CB, 0, none⟩ (.int .i64 3)).setCell ⟨CB, 3, none⟩ (.int .i64 (off % (z0 + 1)))).setCell ⟨CB, 4, none⟩ (.int .i64 (n % 800))) := ((BX.drew.setCell (p := ⟨CB, 0, none⟩) hKL _).setCell (p := ⟨CB, 3, none⟩) hKL _).setCell (p := ⟨CB, 4, none⟩) hKL _
  obtain ⟨V2, hV2⟩ : ∃ V2, V2 = (((X.drew.setCell ⟨CB, 0, none⟩ (.int .i64 3)).setCell ⟨CB, 3, none⟩ (.int .i64 (off % (z0 + 1)))).setCell ⟨CB, 4, none⟩ (.int .i64 (n % 800))) := ⟨_, rfl⟩
  have hV3 : V2 = (((X.setCell ⟨CB, 0, none⟩ (.int .i64 3)).setCell ⟨CB, 3, none⟩ (.int .i64 (off % (z0 + 1)))).setCell ⟨CB, 4, none⟩ (.int .i64 (n % 800))).drew := hV2
  rw [← hV2] at b2 r2 B2
  first | rw [← hV2] | rw [← hV3]
  have HST := storeRow (ty := 44) (vs := callC 3 8 z0 (off % (z0 + 1)) (n % 800) (.slice a0 n0 k0) s (.slice none 0 0)) r2 rfl (by simp [Value.oneCell']) (by kernel_rfl)
  have lR := r2.lt
  have c2 := b2.cells
  have l2 := b2.lt
  clear hV2 hV3 lK fK cK
  go_wp2_with (refine wpList_storeBy rfl _ _ _ rfl _ _ rfl rfl HST ?_)
  have cF := (r2.setRow (cs' := callC 3 8 z0 (off % (z0 + 1)) (n % 800) (.slice a0 n0 k0) s (.slice none 0 0))).cells
  refine bodyPost_ret (v := .agg (callC 3 8 z0 (off % (z0 + 1)) (n % 800) (.slice a0 n0 k0) s (.slice none 0 0))) (by simp [results, Tryz.results11, go_sem, cF]) rfl ?_
  exact ⟨rfl, Below.setRow B2 (by omega) _⟩

set_option maxRecDepth 100000 in
set_option maxHeartbeats 4000000 in
theorem of_r4_1 (a0 a1 a2 : Option Addr) (n0 k0 n1 k1 n2 k2 : Nat) (z0 z1 : Int) (wh f kd off n size : Int) (xl : Value) (s : ByteArray) (hz : 0 ≤ z1 ∧ z1 ≤ 10000) (hoff : -9223372036854775808 ≤ off ∧ off ≤ 9223372036854775807) (hn : -9223372036854775808 ≤ n ∧ n ≤ 9223372036854775807) (hf : 0 ≤ f ∧ f ≤ 255) (hwh : 0 ≤ wh ∧ wh ≤ 255) (hw8 : wh % 8 = 4) (hf2 : f % 2 = 1) (w : World) :
    Calls Tryz.prog 11 #[.agg (actC wh f kd off n size xl s), .agg (bookC (.slice a0 n0 k0) (.slice a1 n1 k1) (.slice a2 n2 k2) z0 z1)] w fun e w' => e = .returned (.agg (callC 3 8 z1 (off % (z1 + 1)) (n % 800) (.slice a1 n1 k1) s (.slice none 0 0))) ∧ Below w.heap.size w w' := by
  obtain ⟨wA, hA⟩ : ∃ wA, wA = ((w.alloc (.cells (actC wh f kd off n size xl s) 41)).alloc (.cells (bookC (.slice a0 n0 k0) (.slice a1 n1 k1) (.slice a2 n2 k2) z0 z1) 38)).alloc (.cells call0 44) := ⟨_, rfl⟩
  have bA : Blk wA w.heap.size 41 (actC wh f kd off n size xl s) := by rw [hA]; exact (by (repeat' (first | (with_reducible assumption) | exact Blk.new' (by simp) | refine Blk.alloc ?_ _)))
  have bB : Blk wA (w.heap.size + 1) 38 (bookC (.slice a0 n0 k0) (.slice a1 n1 k1) (.slice a2 n2 k2) z0 z1) := by rw [hA]; exact (Blk.new' (by simp)).alloc _
  have bC : Blk wA (w.heap.size + 1 + 1) 44 call0 := by rw [hA]; exact (by (repeat' (first | (with_reducible assumption) | exact Blk.new' (by simp) | refine Blk.alloc ?_ _)))
  have BA : Below w.heap.size w wA := by rw [hA]; (repeat' (first | (with_reducible exact Below.refl _ _) | (with_reducible assumption) | (with_reducible refine Below.alloc ?_ ?_ _) | (with_reducible refine Below.drew ?_) | (with_reducible refine below_drewN' ?_ _) | (with_reducible refine Below.setCell ?_ ?_ _) | (with_reducible exact Nat.le_refl _) | omega | (simp; done) | (simp; omega)))
  have hzA : wA.heap.size = w.heap.size + 1 + 1 + 1 := by rw [hA]; simp
  have h1 : f.tmod 2 = 1 := by rw [← hf2]; exact Int.tmod_eq_emod_of_nonneg hf.1
  have g1 : wh.tmod 8 = 4 := by rw [← hw8]; exact Int.tmod_eq_emod_of_nonneg hwh.1
  have hS : ∀ W, Blk W w.heap.size 41 (actC wh f kd off n size xl s) → Blk W (w.heap.size + 1) 38 (bookC (.slice a0 n0 k0) (.slice a1 n1 k1) (.slice a2 n2 k2) z0 z1) → W.cell? ⟨w.heap.size, 0, none⟩ = some (.int .u8 wh) ∧ W.cell? ⟨w.heap.size, 7, none⟩ = some (.string s) ∧ W.cell? ⟨w.heap.size + 1, 1, none⟩ = some (.slice a1 n1 k1) ∧ W.cell? ⟨w.heap.size, 4, none⟩ = some (.int .i64 n) ∧ W.cell? ⟨w.heap.size, 3, none⟩ = some (.int .i64 off) := fun W b1 b2 => ⟨(b1.cells 0).trans rfl, (b1.cells 7).trans rfl, (b2.cells 1).trans rfl, (b1.cells 4).trans rfl, (b1.cells 3).trans rfl⟩
  have HS := Lib.hid hS
  have cA := bA.cells
  have lA := bA.lt
  have cB := bB.cells
  have lB := bB.lt
  have HZA := Lib.hid hzA
  clear hS hf hwh hw8 hf2 hzA
  go_enter Tryz.func11, Tryz.ntmps11
  go_wp2_with fail
  rw [← hA]
  clear hA
  go_wp2_with fail
  clear cA lA cB lB
  refine wp_region_mix [.take 0, .take 1, .take 2, .take 3, .take 4, .take 5, .take 6, .take 7, .take 8, .take 9, .take 10, .take 11, .one 12, .one 13] 13 (fun W => W.cell? ⟨w.heap.size, 0, none⟩ = some (.int .u8 wh) ∧ W.cell? ⟨w.heap.size, 7, none⟩ = some (.string s) ∧ W.cell? ⟨w.heap.size + 1, 1, none⟩ = some (.slice a1 n1 k1) ∧ W.cell? ⟨w.heap.size, 4, none⟩ = some (.int .i64 n) ∧ W.cell? ⟨w.heap.size, 3, none⟩ = some (.int .i64 off)) (by kernel_rfl) (by kernel_rfl) (fun _ _ _ _ _ h => h) (HS.out _ bA.drew bB.drew) ?_
  simp only [List.map_cons, List.map_nil, Ms.fill, List.getD_cons_zero, List.getD_cons_succ]
  iterate 12 (refine mixT_take (by rfl) ?_ (fun w' hw' => ?_) ?_; rotate_left; (focus (go_simp; (try with_reducible rfl))); (try simp only [Act.put, List.setIfInBounds_toArray, List.set_cons_zero, List.set_cons_succ]))
  obtain ⟨X0, hX0⟩ : ∃ X0, X0 = (wA.alloc (.cells call0 44)).drew := ⟨_, rfl⟩
  have bA0 : Blk X0 w.heap.size 41 (actC wh f kd off n size xl s) := by rw [hX0]; exact (bA.alloc _).drew
  have bB0 : Blk X0 (w.heap.size + 1) 38 (bookC (.slice a0 n0 k0) (.slice a1 n1 k1) (.slice a2 n2 k2) z0 z1) := by rw [hX0]; exact (bB.alloc _).drew
  have bC0 : Blk X0 (w.heap.size + 1 + 1) 44 call0 := by rw [hX0]; exact (bC.alloc _).drew
  have bK0 : Blk X0 wA.heap.size 44 call0 := by rw [hX0]; exact (Blk.new _ _ _).drew
  have BX0 : Below w.heap.size w X0 := by rw [hX0]; exact (BA.alloc BA.size _).drew
  refine mixT_step (by rfl) fun K hK => ?_
  go_simp
  rw [← hX0]
  refine hK _ _ (fun _ => HS.out _ bA0 bB0) ?_
  clear hK K hX0
  refine mixT_step (by rfl) fun K hK => ?_
  have hst := storeRow (ty := 44) (vs := (callC 4 8 z1 0 0 (.slice a1 n1 k1) s (.slice none 0 0))) bK0 rfl (by simp [Value.oneCell']) (by kernel_rfl)
  refine op_storeBy _ _ _ rfl _ _ rfl rfl hst ?_
  refine hK _ _ (fun h => absurd h (by decide)) ?_
  clear hK K
  refine mixT_nil ?_
  have hWA : wA.heap.size = w.heap.size + 1 + 1 + 1 := HZA.out
  obtain ⟨X, hX⟩ : ∃ X, X = X0.setRow wA.heap.size (callC 4 8 z1 0 0 (.slice a1 n1 k1) s (.slice none 0 0)) := ⟨_, rfl⟩
  have bAX : Blk X w.heap.size 41 (actC wh f kd off n size xl s) := by rw [hX]; exact (setRow_other _ _ _ _ (by omega)).trans bA0
  have bBX : Blk X (w.heap.size + 1) 38 (bookC (.slice a0 n0 k0) (.slice a1 n1 k1) (.slice a2 n2 k2) z0 z1) := by rw [hX]; exact (setRow_other _ _ _ _ (by omega)).trans bB0
  have bCX : Blk X (w.heap.size + 1 + 1) 44 call0 := by rw [hX]; exact (setRow_other _ _ _ _ (by omega)).trans bC0
  have bKX : Blk X wA.heap.size 44 (callC 4 8 z1 0 0 (.slice a1 n1 k1) s (.slice none 0 0)) := by rw [hX]; exact bK0.setRow
  have BX : Below w.heap.size w X := by rw [hX]; exact Below.setRow BX0 (by omega) _
  rw [← hX]
  have hKC : w.heap.size + 1 + 1 ≠ wA.heap.size := by omega
  have hKA : w.heap.size ≠ wA.heap.size := by omega
  have hKB : w.heap.size + 1 ≠ wA.heap.size := by omega
  have hKL : w.heap.size ≤ wA.heap.size := by omega
  clear hX hst bA0 bB0 bC0 bK0 BX0 bA bB bC BA hWA HZA
  generalize wA.heap.size = CB at *
  have cK := bKX.cells
  have lK := bKX.lt
  have fK := bKX.free
  have cA := bAX.cells
  have lA := bAX.lt
  have hwr := wrapped_any off (z1 + 1) hoff (by omega) X.drew
  have h9 : IntKind.i64.wrap (z1 + 1) = z1 + 1 := by rw [IntKind.wrap_i64]; omega
  have hwr2 := wrapped_any n 800 hn (by omega) X.drew
  have HW1 := Lib.hid hwr
  have HW2 := Lib.hid hwr2
  clear hwr hwr2
  go_wp2_with fail
  clear cA lA
  refine wp_region_mix [.take 0, .take 1, .take 2, .take 3, .take 5, .take 6, .take 8, .one 4, .one 7, .one 9, .take 10, .one 11, .take 12, .one 13] 14 (fun W => W.cell? ⟨w.heap.size, 0, none⟩ = some (.int .u8 wh) ∧ W.cell? ⟨w.heap.size, 7, none⟩ = some (.string s) ∧ W.cell? ⟨w.heap.size + 1, 1, none⟩ = some (.slice a1 n1 k1) ∧ W.cell? ⟨w.heap.size, 4, none⟩ = some (.int .i64 n) ∧ W.cell? ⟨w.heap.size, 3, none⟩ = some (.int .i64 off)) (by kernel_rfl) (by kernel_rfl) (fun _ _ _ _ _ h => h) (HS.out _ bAX.drew bBX.drew) ?_
  simp only [List.map_cons, List.map_nil, Ms.fill, List.getD_cons_zero, List.getD_cons_succ]
  iterate 7 (refine mixT_take (by rfl) ?_ (fun w' hw' => ?_) ?_; rotate_left; (focus (go_simp; (try with_reducible rfl))); (try simp only [Act.put, List.setIfInBounds_toArray, List.set_cons_zero, List.set_cons_succ]))
  refine mixT_step (by rfl) fun K hK => ?_
  go_simp
  refine HW1.out.mono ?_
  rintro e X' ⟨rfl, rfl⟩
  refine hK _ _ (fun _ => HS.out _ bAX.drew bBX.drew) ?_
  clear hK K
  refine mixT_step (by rfl) fun K hK => ?_
  go_simp
  refine HW2.out.mono ?_
  rintro e X' ⟨rfl, rfl⟩
  refine hK _ _ (fun _ => HS.out _ bAX.drew bBX.drew) ?_
  clear hK K HW1 HW2
  refine mixT_step (by rfl) fun K hK => ?_
  go_simp
  refine hK _ _ (fun _ => HS.out _ (by first | exact bAX.drew.far (p := ⟨CB, 0, none⟩) hKA _ | exact (bAX.far (p := ⟨CB, 0, none⟩) hKA _).drew) (by first | exact bBX.drew.far (p := ⟨CB, 0, none⟩) hKB _ | exact (bBX.far (p := ⟨CB, 0, none⟩) hKB _).drew)) ?_
  clear hK K
  (refine mixT_take (by rfl) ?_ (fun w' hw' => ?_) ?_; rotate_left; (focus (go_simp; (try with_reducible rfl))); (try simp only [Act.put, List.setIfInBounds_toArray, List.set_cons_zero, List.set_cons_succ]))
  refine mixT_step (by rfl) fun K hK => ?_
  go_simp
  refine hK _ _ (fun _ => HS.out _ (by first | exact (bAX.drew.far (p := ⟨CB, 0, none⟩) hKA _).far (p := ⟨CB, 3, none⟩) hKA _ | exact ((bAX.far (p := ⟨CB, 0, none⟩) hKA _).far (p := ⟨CB, 3, none⟩) hKA _).drew) (by first | exact (bBX.drew.far (p := ⟨CB, 0, none⟩) hKB _).far (p := ⟨CB, 3, none⟩) hKB _ | exact ((bBX.far (p := ⟨CB, 0, none⟩) hKB _).far (p := ⟨CB, 3, none⟩) hKB _).drew)) ?_
  clear hK K
  (refine mixT_take (by rfl) ?_ (fun w' hw' => ?_) ?_; rotate_left; (focus (go_simp; (try with_reducible rfl))); (try simp only [Act.put, List.setIfInBounds_toArray, List.set_cons_zero, List.set_cons_succ]))
  refine mixT_step (by rfl) fun K hK => ?_
  go_simp
  refine hK _ _ (fun _ => HS.out _ (by first | exact ((bAX.drew.far (p := ⟨CB, 0, none⟩) hKA _).far (p := ⟨CB, 3, none⟩) hKA _).far (p := ⟨CB, 4, none⟩) hKA _ | exact (((bAX.far (p := ⟨CB, 0, none⟩) hKA _).far (p := ⟨CB, 3, none⟩) hKA _).far (p := ⟨CB, 4, none⟩) hKA _).drew) (by first | exact ((bBX.drew.far (p := ⟨CB, 0, none⟩) hKB _).far (p := ⟨CB, 3, none⟩) hKB _).far (p := ⟨CB, 4, none⟩) hKB _ | exact (((bBX.far (p := ⟨CB, 0, none⟩) hKB _).far (p := ⟨CB, 3, none⟩) hKB _).far (p := ⟨CB, 4, none⟩) hKB _).drew)) ?_
  clear hK K
  refine mixT_nil ?_
  have b2 : Blk (((X.drew.setCell ⟨CB, 0, none⟩ (.int .i64 3)).setCell ⟨CB, 3, none⟩ (.int .i64 (off % (z1 + 1)))).setCell ⟨CB, 4, none⟩ (.int .i64 (n % 800))) CB 44 (callC 3 8 z1 (off % (z1 + 1)) (n % 800) (.slice a1 n1 k1) s (.slice none 0 0)) := ((bKX.drew.set_ 0 (.int .i64 3)).set_ 3 (.int .i64 (off % (z1 + 1)))).set_ 4 (.int .i64 (n % 800))
  have r2 : Blk (((X.drew.setCell ⟨CB, 0, none⟩ (.int .i64 3)).setCell ⟨CB, 3, none⟩ (.int .i64 (off % (z1 + 1)))).setCell ⟨CB, 4, none⟩ (.int .i64 (n % 800))) (w.heap.size + 1 + 1) 44 call0 := ((bCX.drew.far (p := ⟨CB, _, none⟩) hKC _).far (p := ⟨CB, _, none⟩) hKC _).far (p := ⟨CB, _, none⟩) hKC _
  have B2 : Below w.heap.size w (((X.drew.setCell ⟨CB, 0, none⟩ (.int .i64 3)).setCell ⟨CB, 3, none⟩ (.int .i64 (off % (z1 + 1)))).setCell ⟨CB, 4, none⟩ (.int .i64 (n % 800))) := ((BX.drew.setCell (p := ⟨CB, 0, none⟩) hKL _).setCell (p := ⟨CB, 3, none⟩) hKL _).setCell (p := ⟨CB, 4, none⟩) hKL _
  obtain ⟨V2, hV2⟩ : ∃ V2, V2 = (((X.drew.setCell ⟨CB, 0, none⟩ (.int .i64 3)).setCell ⟨CB, 3, none⟩ (.int .i64 (off % (z1 + 1)))).setCell ⟨CB, 4, none⟩ (.int .i64 (n % 800))) := ⟨_, rfl⟩
  have hV3 : V2 = (((X.setCell ⟨CB, 0, none⟩ (.int .i64 3)).setCell ⟨CB, 3, none⟩ (.int .i64 (off % (z1 + 1)))).setCell ⟨CB, 4, none⟩ (.int .i64 (n % 800))).drew := hV2
  rw [← hV2] at b2 r2 B2
  first | rw [← hV2] | rw [← hV3]
  have HST := storeRow (ty := 44) (vs := callC 3 8 z1 (off % (z1 + 1)) (n % 800) (.slice a1 n1 k1) s (.slice none 0 0)) r2 rfl (by simp [Value.oneCell']) (by kernel_rfl)
  have lR := r2.lt
  have c2 := b2.cells
  have l2 := b2.lt
  clear hV2 hV3 lK fK cK
  go_wp2_with (refine wpList_storeBy rfl _ _ _ rfl _ _ rfl rfl HST ?_)
  have cF := (r2.setRow (cs' := callC 3 8 z1 (off % (z1 + 1)) (n % 800) (.slice a1 n1 k1) s (.slice none 0 0))).cells
  refine bodyPost_ret (v := .agg (callC 3 8 z1 (off % (z1 + 1)) (n % 800) (.slice a1 n1 k1) s (.slice none 0 0))) (by simp [results, Tryz.results11, go_sem, cF]) rfl ?_
  exact ⟨rfl, Below.setRow B2 (by omega) _⟩

end Go.Proofs.YtljmdcegcckblaaGreatDoor
