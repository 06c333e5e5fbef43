/- The laws of layer 12: kept. -/
import Derived.Test.YtljmdcegcckblaaGreatDoorPart46
namespace Go.Proofs.YtljmdcegcckblaaGreatDoor
open Go.RowKit Go.Maps

set_option maxRecDepth 100000 in
set_option maxHeartbeats 4000000 in
theorem kept_write (a0 a1 a2 la : Option Addr) (n0 k0 n1 k1 n2 k2 ln lk : Nat) (z0 z1 : Int) (wh f kd off n size : Int) (xl : Value) (s : ByteArray) (ck cz co cn : Int) (cl : Value) (cs : ByteArray) (cp pv : Value) (t : ByteArray) (z : Int) (hf : 0 ≤ f ∧ f ≤ 255) (hwh : 0 ≤ wh ∧ wh ≤ 255) (hw7 : wh % 8 ≠ 7) (f2 : Nat) (hf2 : f % 2 = f2) (w : World) :
    Calls Tryz.prog 13 #[.agg (bookC (.slice a0 n0 k0) (.slice a1 n1 k1) (.slice a2 n2 k2) z0 z1), .agg (actC wh f kd off n size xl s), .agg (callC 0 ck cz co cn cl cs cp), .agg (ansC (.slice la ln lk) pv t z 0)] w fun e w' =>
      e = .returned (.agg (((bookC (.slice a0 n0 k0) (.slice a1 n1 k1) (.slice a2 n2 k2) z0 z1).setIfInBounds f2 (.slice la ln lk)).setIfInBounds (3 + f2) (.int .i64 z))) ∧ Below w.heap.size w w' := by
  obtain ⟨wA, hA⟩ : ∃ wA, wA = ((((w.alloc (.cells (bookC (.slice a0 n0 k0) (.slice a1 n1 k1) (.slice a2 n2 k2) z0 z1) 38)).alloc (.cells (actC wh f kd off n size xl s) 41)).alloc (.cells (callC 0 ck cz co cn cl cs cp) 44)).alloc (.cells (ansC (.slice la ln lk) pv t z 0) 48)).alloc (.cells (bookC (.slice none 0 0) (.slice none 0 0) (.slice none 0 0) 0 0) 38) := ⟨_, rfl⟩
  have bB : Blk wA w.heap.size 38 (bookC (.slice a0 n0 k0) (.slice a1 n1 k1) (.slice a2 n2 k2) z0 z1) := by rw [hA]; exact ((((Blk.new _ _ _).alloc _).alloc _).alloc _).alloc _
  have bX : Blk wA (w.heap.size + 1) 41 (actC wh f kd off n size xl s) := by rw [hA]; exact (((Blk.new' (by simp)).alloc _).alloc _).alloc _
  have bC : Blk wA (w.heap.size + 1 + 1) 44 (callC 0 ck cz co cn cl cs cp) := by rw [hA]; exact ((Blk.new' (by simp)).alloc _).alloc _
  have bN : Blk wA (w.heap.size + 1 + 1 + 1) 48 (ansC (.slice la ln lk) pv t z 0) := by rw [hA]; exact (Blk.new' (by simp)).alloc _
  have bR : Blk wA (w.heap.size + 1 + 1 + 1 + 1) 38 (bookC (.slice none 0 0) (.slice none 0 0) (.slice none 0 0) 0 0) := by rw [hA]; exact Blk.new' (by simp)
  have BA : Below w.heap.size w wA := by rw [hA]; (repeat' (first | (with_reducible exact Below.refl _ _) | (with_reducible assumption) | (with_reducible refine Below.alloc ?_ ?_ _) | (with_reducible refine Below.drew ?_) | (with_reducible refine below_drewN' ?_ _) | (with_reducible refine Below.setCell ?_ ?_ _) | (with_reducible exact Nat.le_refl _) | omega | (simp; done) | (simp; omega)))
  have h1 : f.tmod 2 = f2 := by rw [← hf2]; exact Int.tmod_eq_emod_of_nonneg hf.1
  have h3 : IntKind.u8.wrap (f2 : Int) = f2 := by rw [IntKind.wrap_u8]; omega
  have h5 : IntKind.i64.wrap (f2 : Int) = f2 := by rw [IntKind.wrap_i64]; omega
  have g1 : wh.tmod 8 = wh % 8 := Int.tmod_eq_emod_of_nonneg hwh.1
  have g3 : IntKind.u8.wrap (wh % 8) = wh % 8 := by rw [IntKind.wrap_u8]; omega
  have g7 : (wh % 8 == 7) = false := by simpa using hw7
  have hf22 : f2 = 0 ∨ f2 = 1 := by omega
  have cB := bB.cells
  have lB := bB.lt
  have cX := bX.cells
  have lX := bX.lt
  have cC := bC.cells
  have lC := bC.lt
  have cN := bN.cells
  have lN := bN.lt
  clear hf hwh hw7 hf2
  go_enter Tryz.func13, Tryz.ntmps13
  go_wp2_with fail
  rw [← hA]
  clear hA
  have hSN : ∀ W, Blk W (w.heap.size + 1 + 1 + 1) 48 (ansC (.slice la ln lk) pv t z 0) → Blk W (w.heap.size + 1 + 1) 44 (callC 0 ck cz co cn cl cs cp) → W.cell? ⟨w.heap.size + 1 + 1 + 1, 0, none⟩ = some (.slice la ln lk) ∧ W.cell? ⟨w.heap.size + 1 + 1 + 1, 3, none⟩ = some (.int .i64 z) ∧ W.cell? ⟨w.heap.size + 1 + 1, 4, none⟩ = some (.int .i64 cn) := fun W b b' => ⟨(b.cells 0).trans rfl, (b.cells 3).trans rfl, (b'.cells 4).trans rfl⟩
  have HSN := Lib.hid hSN
  have bB' := bB.drew
  have bN' := bN.drew
  have bC' := bC.drew
  have bR' := bR.drew
  clear hSN
  rcases hf22 with rfl | rfl
  focus
    go_wp2_with fail
    clear cX lX cC lC
    have fB := bB.free
    refine wp_region_mix [.take 0, .take 1, .take 2, .take 3, .take 4, .take 5, .take 6, .take 9, .take 7, .one 8, .take 10, .one 11] 12 (fun W => W.cell? ⟨w.heap.size + 1 + 1 + 1, 0, none⟩ = some (.slice la ln lk) ∧ W.cell? ⟨w.heap.size + 1 + 1 + 1, 3, none⟩ = some (.int .i64 z) ∧ W.cell? ⟨w.heap.size + 1 + 1, 4, none⟩ = some (.int .i64 cn)) (by kernel_rfl) (by kernel_rfl) (fun _ _ _ _ _ h => h) (HSN.out _ bN' bC') ?_
    simp only [List.map_cons, List.map_nil, Ms.fill, List.getD_cons_zero, List.getD_cons_succ]
    iterate 9 (refine mixT_take (by rfl) ?_ (fun w' hw' => ?_) ?_; rotate_left; (focus (go_simp; (try with_reducible rfl))); (try simp only [Act.put, List.setIfInBounds_toArray, List.set_cons_zero, List.set_cons_succ]))
    refine mixT_step (by rfl) fun K hK => ?_
    go_simp
    refine hK _ _ (fun _ => HSN.out _ (bN'.far (p := ⟨w.heap.size, _, none⟩) (by simp <;> omega) _) (bC'.far (p := ⟨w.heap.size, _, none⟩) (by simp <;> omega) _)) ?_
    clear hK K
    (refine mixT_take (by rfl) ?_ (fun w' hw' => ?_) ?_; rotate_left; (focus (go_simp; (try with_reducible rfl))); (try simp only [Act.put, List.setIfInBounds_toArray, List.set_cons_zero, List.set_cons_succ]))
    refine mixT_step (by rfl) fun K hK => ?_
    go_simp
    refine hK _ _ (fun _ => HSN.out _ ((bN'.far (p := ⟨w.heap.size, _, none⟩) (by simp <;> omega) _).far (p := ⟨w.heap.size, _, none⟩) (by simp <;> omega) _) ((bC'.far (p := ⟨w.heap.size, _, none⟩) (by simp <;> omega) _).far (p := ⟨w.heap.size, _, none⟩) (by simp <;> omega) _)) ?_
    clear hK K
    refine mixT_nil ?_
    have b2 : Blk ((wA.drew.setCell ⟨w.heap.size, 0, none⟩ (.slice la ln lk)).setCell ⟨w.heap.size, 3, none⟩ (.int .i64 z)) w.heap.size 38 (bookC (.slice la ln lk) (.slice a1 n1 k1) (.slice a2 n2 k2) z z1) := (bB'.set_ 0 (.slice la ln lk)).set_ 3 (.int .i64 z)
    have r2 : Blk ((wA.drew.setCell ⟨w.heap.size, 0, none⟩ (.slice la ln lk)).setCell ⟨w.heap.size, 3, none⟩ (.int .i64 z)) (w.heap.size + 1 + 1 + 1 + 1) 38 (bookC (.slice none 0 0) (.slice none 0 0) (.slice none 0 0) 0 0) := (bR'.far (p := ⟨w.heap.size, _, none⟩) (by simp <;> omega) _).far (p := ⟨w.heap.size, _, none⟩) (by simp <;> omega) _
    have B2 : Below w.heap.size w ((wA.drew.setCell ⟨w.heap.size, 0, none⟩ (.slice la ln lk)).setCell ⟨w.heap.size, 3, none⟩ (.int .i64 z)) := (BA.drew.setCell (p := ⟨w.heap.size, 0, none⟩) (Nat.le_refl _) _).setCell (p := ⟨w.heap.size, 3, none⟩) (Nat.le_refl _) _
    have HST := storeRow (ty := 38) (vs := bookC (.slice la ln lk) (.slice a1 n1 k1) (.slice a2 n2 k2) z z1) r2 rfl (by simp [Value.oneCell']) (by kernel_rfl)
    have lR := r2.lt
    obtain ⟨V2, hV2⟩ : ∃ V2, V2 = ((wA.drew.setCell ⟨w.heap.size, 0, none⟩ (.slice la ln lk)).setCell ⟨w.heap.size, 3, none⟩ (.int .i64 z)) := ⟨_, rfl⟩
    have hV3 : V2 = (((wA.setCell ⟨w.heap.size, 0, none⟩ (.slice la ln lk)).setCell ⟨w.heap.size, 3, none⟩ (.int .i64 z))).drew := hV2
    have c2 := b2.cells
    rw [← hV2] at c2 HST B2 r2 lR
    first | rw [← hV2] | rw [← hV3]
    have l2 := b2.lt
    rw [← hV2] at l2
    clear hV2 hV3 b2 cB lB cN lN fB
    go_wp2_with (refine wpList_storeBy rfl _ _ _ rfl _ _ rfl rfl HST ?_)
    have cF := (r2.setRow (cs' := bookC (.slice la ln lk) (.slice a1 n1 k1) (.slice a2 n2 k2) z z1)).cells
    refine bodyPost_ret (v := .agg (bookC (.slice la ln lk) (.slice a1 n1 k1) (.slice a2 n2 k2) z z1)) (by simp [results, Tryz.results13, go_sem, cF]) rfl ?_
    exact ⟨rfl, Below.setRow B2 (by omega) _⟩
  focus
    go_wp2_with fail
    clear cX lX cC lC
    have fB := bB.free
    refine wp_region_mix [.take 0, .take 1, .take 2, .take 3, .take 4, .take 5, .take 6, .take 9, .take 7, .one 8, .take 10, .one 11] 12 (fun W => W.cell? ⟨w.heap.size + 1 + 1 + 1, 0, none⟩ = some (.slice la ln lk) ∧ W.cell? ⟨w.heap.size + 1 + 1 + 1, 3, none⟩ = some (.int .i64 z) ∧ W.cell? ⟨w.heap.size + 1 + 1, 4, none⟩ = some (.int .i64 cn)) (by kernel_rfl) (by kernel_rfl) (fun _ _ _ _ _ h => h) (HSN.out _ bN' bC') ?_
    simp only [List.map_cons, List.map_nil, Ms.fill, List.getD_cons_zero, List.getD_cons_succ]
    iterate 9 (refine mixT_take (by rfl) ?_ (fun w' hw' => ?_) ?_; rotate_left; (focus (go_simp; (try with_reducible rfl))); (try simp only [Act.put, List.setIfInBounds_toArray, List.set_cons_zero, List.set_cons_succ]))
    refine mixT_step (by rfl) fun K hK => ?_
    go_simp
    refine hK _ _ (fun _ => HSN.out _ (bN'.far (p := ⟨w.heap.size, _, none⟩) (by simp <;> omega) _) (bC'.far (p := ⟨w.heap.size, _, none⟩) (by simp <;> omega) _)) ?_
    clear hK K
    (refine mixT_take (by rfl) ?_ (fun w' hw' => ?_) ?_; rotate_left; (focus (go_simp; (try with_reducible rfl))); (try simp only [Act.put, List.setIfInBounds_toArray, List.set_cons_zero, List.set_cons_succ]))
    refine mixT_step (by rfl) fun K hK => ?_
    go_simp
    refine hK _ _ (fun _ => HSN.out _ ((bN'.far (p := ⟨w.heap.size, _, none⟩) (by simp <;> omega) _).far (p := ⟨w.heap.size, _, none⟩) (by simp <;> omega) _) ((bC'.far (p := ⟨w.heap.size, _, none⟩) (by simp <;> omega) _).far (p := ⟨w.heap.size, _, none⟩) (by simp <;> omega) _)) ?_
    clear hK K
    refine mixT_nil ?_
    have b2 : Blk ((wA.drew.setCell ⟨w.heap.size, 1, none⟩ (.slice la ln lk)).setCell ⟨w.heap.size, 4, none⟩ (.int .i64 z)) w.heap.size 38 (bookC (.slice a0 n0 k0) (.slice la ln lk) (.slice a2 n2 k2) z0 z) := (bB'.set_ 1 (.slice la ln lk)).set_ 4 (.int .i64 z)
    have r2 : Blk ((wA.drew.setCell ⟨w.heap.size, 1, none⟩ (.slice la ln lk)).setCell ⟨w.heap.size, 4, none⟩ (.int .i64 z)) (w.heap.size + 1 + 1 + 1 + 1) 38 (bookC (.slice none 0 0) (.slice none 0 0) (.slice none 0 0) 0 0) := (bR'.far (p := ⟨w.heap.size, _, none⟩) (by simp <;> omega) _).far (p := ⟨w.heap.size, _, none⟩) (by simp <;> omega) _
    have B2 : Below w.heap.size w ((wA.drew.setCell ⟨w.heap.size, 1, none⟩ (.slice la ln lk)).setCell ⟨w.heap.size, 4, none⟩ (.int .i64 z)) := (BA.drew.setCell (p := ⟨w.heap.size, 1, none⟩) (Nat.le_refl _) _).setCell (p := ⟨w.heap.size, 4, none⟩) (Nat.le_refl _) _
    have HST := storeRow (ty := 38) (vs := bookC (.slice a0 n0 k0) (.slice la ln lk) (.slice a2 n2 k2) z0 z) r2 rfl (by simp [Value.oneCell']) (by kernel_rfl)
    have lR := r2.lt
    obtain ⟨V2, hV2⟩ : ∃ V2, V2 = ((wA.drew.setCell ⟨w.heap.size, 1, none⟩ (.slice la ln lk)).setCell ⟨w.heap.size, 4, none⟩ (.int .i64 z)) := ⟨_, rfl⟩
    have hV3 : V2 = (((wA.setCell ⟨w.heap.size, 1, none⟩ (.slice la ln lk)).setCell ⟨w.heap.size, 4, none⟩ (.int .i64 z))).drew := hV2
    have c2 := b2.cells
    rw [← hV2] at c2 HST B2 r2 lR
    first | rw [← hV2] | rw [← hV3]
    have l2 := b2.lt
    rw [← hV2] at l2
    clear hV2 hV3 b2 cB lB cN lN fB
    go_wp2_with (refine wpList_storeBy rfl _ _ _ rfl _ _ rfl rfl HST ?_)
    have cF := (r2.setRow (cs' := bookC (.slice a0 n0 k0) (.slice la ln lk) (.slice a2 n2 k2) z0 z)).cells
    refine bodyPost_ret (v := .agg (bookC (.slice a0 n0 k0) (.slice la ln lk) (.slice a2 n2 k2) z0 z)) (by simp [results, Tryz.results13, go_sem, cF]) rfl ?_
    exact ⟨rfl, Below.setRow B2 (by omega) _⟩
set_option maxRecDepth 100000 in
set_option maxHeartbeats 4000000 in
theorem kept_cut (a0 a1 a2 la : Option Addr) (n0 k0 n1 k1 n2 k2 ln lk : Nat) (z0 z1 : Int) (wh f kd off n size : Int) (xl : Value) (s : ByteArray) (ck cz co cn : Int) (cl : Value) (cs : ByteArray) (cp pv : Value) (t : ByteArray) (z : Int) (hf : 0 ≤ f ∧ f ≤ 255) (hwh : 0 ≤ wh ∧ wh ≤ 255) (hw7 : wh % 8 ≠ 7) (f2 : Nat) (hf2 : f % 2 = f2) (w : World) :
    Calls Tryz.prog 13 #[.agg (bookC (.slice a0 n0 k0) (.slice a1 n1 k1) (.slice a2 n2 k2) z0 z1), .agg (actC wh f kd off n size xl s), .agg (callC 2 ck cz co cn cl cs cp), .agg (ansC (.slice la ln lk) pv t z 0)] w fun e w' =>
      e = .returned (.agg (((bookC (.slice a0 n0 k0) (.slice a1 n1 k1) (.slice a2 n2 k2) z0 z1).setIfInBounds f2 (.slice la ln lk)).setIfInBounds (3 + f2) (.int .i64 cn))) ∧ Below w.heap.size w w' := by
  obtain ⟨wA, hA⟩ : ∃ wA, wA = ((((w.alloc (.cells (bookC (.slice a0 n0 k0) (.slice a1 n1 k1) (.slice a2 n2 k2) z0 z1) 38)).alloc (.cells (actC wh f kd off n size xl s) 41)).alloc (.cells (callC 2 ck cz co cn cl cs cp) 44)).alloc (.cells (ansC (.slice la ln lk) pv t z 0) 48)).alloc (.cells (bookC (.slice none 0 0) (.slice none 0 0) (.slice none 0 0) 0 0) 38) := ⟨_, rfl⟩
  have bB : Blk wA w.heap.size 38 (bookC (.slice a0 n0 k0) (.slice a1 n1 k1) (.slice a2 n2 k2) z0 z1) := by rw [hA]; exact ((((Blk.new _ _ _).alloc _).alloc _).alloc _).alloc _
  have bX : Blk wA (w.heap.size + 1) 41 (actC wh f kd off n size xl s) := by rw [hA]; exact (((Blk.new' (by simp)).alloc _).alloc _).alloc _
  have bC : Blk wA (w.heap.size + 1 + 1) 44 (callC 2 ck cz co cn cl cs cp) := by rw [hA]; exact ((Blk.new' (by simp)).alloc _).alloc _
  have bN : Blk wA (w.heap.size + 1 + 1 + 1) 48 (ansC (.slice la ln lk) pv t z 0) := by rw [hA]; exact (Blk.new' (by simp)).alloc _
  have bR : Blk wA (w.heap.size + 1 + 1 + 1 + 1) 38 (bookC (.slice none 0 0) (.slice none 0 0) (.slice none 0 0) 0 0) := by rw [hA]; exact Blk.new' (by simp)
  have BA : Below w.heap.size w wA := by rw [hA]; (repeat' (first | (with_reducible exact Below.refl _ _) | (with_reducible assumption) | (with_reducible refine Below.alloc ?_ ?_ _) | (with_reducible refine Below.drew ?_) | (with_reducible refine below_drewN' ?_ _) | (with_reducible refine Below.setCell ?_ ?_ _) | (with_reducible exact Nat.le_refl _) | omega | (simp; done) | (simp; omega)))
  have h1 : f.tmod 2 = f2 := by rw [← hf2]; exact Int.tmod_eq_emod_of_nonneg hf.1
  have h3 : IntKind.u8.wrap (f2 : Int) = f2 := by rw [IntKind.wrap_u8]; omega
  have h5 : IntKind.i64.wrap (f2 : Int) = f2 := by rw [IntKind.wrap_i64]; omega
  have g1 : wh.tmod 8 = wh % 8 := Int.tmod_eq_emod_of_nonneg hwh.1
  have g3 : IntKind.u8.wrap (wh % 8) = wh % 8 := by rw [IntKind.wrap_u8]; omega
  have g7 : (wh % 8 == 7) = false := by simpa using hw7
  have hf22 : f2 = 0 ∨ f2 = 1 := by omega
  have cB := bB.cells
  have lB := bB.lt
  have cX := bX.cells
  have lX := bX.lt
  have cC := bC.cells
  have lC := bC.lt
  have cN := bN.cells
  have lN := bN.lt
  clear hf hwh hw7 hf2
  go_enter Tryz.func13, Tryz.ntmps13
  go_wp2_with fail
  rw [← hA]
  clear hA
  have hSN : ∀ W, Blk W (w.heap.size + 1 + 1 + 1) 48 (ansC (.slice la ln lk) pv t z 0) → Blk W (w.heap.size + 1 + 1) 44 (callC 2 ck cz co cn cl cs cp) → W.cell? ⟨w.heap.size + 1 + 1 + 1, 0, none⟩ = some (.slice la ln lk) ∧ W.cell? ⟨w.heap.size + 1 + 1 + 1, 3, none⟩ = some (.int .i64 z) ∧ W.cell? ⟨w.heap.size + 1 + 1, 4, none⟩ = some (.int .i64 cn) := fun W b b' => ⟨(b.cells 0).trans rfl, (b.cells 3).trans rfl, (b'.cells 4).trans rfl⟩
  have HSN := Lib.hid hSN
  have bB' := bB.drew
  have bN' := bN.drew
  have bC' := bC.drew
  have bR' := bR.drew
  clear hSN
  rcases hf22 with rfl | rfl
  focus
    go_wp2_with fail
    clear cX lX cC lC
    have fB := bB.free
    refine wp_region_mix [.take 0, .take 1, .take 2, .take 3, .take 4, .take 5, .take 6, .take 9, .take 7, .one 8, .take 10, .one 11] 12 (fun W => W.cell? ⟨w.heap.size + 1 + 1 + 1, 0, none⟩ = some (.slice la ln lk) ∧ W.cell? ⟨w.heap.size + 1 + 1 + 1, 3, none⟩ = some (.int .i64 z) ∧ W.cell? ⟨w.heap.size + 1 + 1, 4, none⟩ = some (.int .i64 cn)) (by kernel_rfl) (by kernel_rfl) (fun _ _ _ _ _ h => h) (HSN.out _ bN' bC') ?_
    simp only [List.map_cons, List.map_nil, Ms.fill, List.getD_cons_zero, List.getD_cons_succ]
    iterate 9 (refine mixT_take (by rfl) ?_ (fun w' hw' => ?_) ?_; rotate_left; (focus (go_simp; (try with_reducible rfl))); (try simp only [Act.put, List.setIfInBounds_toArray, List.set_cons_zero, List.set_cons_succ]))
    refine mixT_step (by rfl) fun K hK => ?_
    go_simp
    refine hK _ _ (fun _ => HSN.out _ (bN'.far (p := ⟨w.heap.size, _, none⟩) (by simp <;> omega) _) (bC'.far (p := ⟨w.heap.size, _, none⟩) (by simp <;> omega) _)) ?_
    clear hK K
    (refine mixT_take (by rfl) ?_ (fun w' hw' => ?_) ?_; rotate_left; (focus (go_simp; (try with_reducible rfl))); (try simp only [Act.put, List.setIfInBounds_toArray, List.set_cons_zero, List.set_cons_succ]))
    refine mixT_step (by rfl) fun K hK => ?_
    go_simp
    refine hK _ _ (fun _ => HSN.out _ ((bN'.far (p := ⟨w.heap.size, _, none⟩) (by simp <;> omega) _).far (p := ⟨w.heap.size, _, none⟩) (by simp <;> omega) _) ((bC'.far (p := ⟨w.heap.size, _, none⟩) (by simp <;> omega) _).far (p := ⟨w.heap.size, _, none⟩) (by simp <;> omega) _)) ?_
    clear hK K
    refine mixT_nil ?_
    have b2 : Blk ((wA.drew.setCell ⟨w.heap.size, 0, none⟩ (.slice la ln lk)).setCell ⟨w.heap.size, 3, none⟩ (.int .i64 cn)) w.heap.size 38 (bookC (.slice la ln lk) (.slice a1 n1 k1) (.slice a2 n2 k2) cn z1) := (bB'.set_ 0 (.slice la ln lk)).set_ 3 (.int .i64 cn)
    have r2 : Blk ((wA.drew.setCell ⟨w.heap.size, 0, none⟩ (.slice la ln lk)).setCell ⟨w.heap.size, 3, none⟩ (.int .i64 cn)) (w.heap.size + 1 + 1 + 1 + 1) 38 (bookC (.slice none 0 0) (.slice none 0 0) (.slice none 0 0) 0 0) := (bR'.far (p := ⟨w.heap.size, _, none⟩) (by simp <;> omega) _).far (p := ⟨w.heap.size, _, none⟩) (by simp <;> omega) _
    have B2 : Below w.heap.size w ((wA.drew.setCell ⟨w.heap.size, 0, none⟩ (.slice la ln lk)).setCell ⟨w.heap.size, 3, none⟩ (.int .i64 cn)) := (BA.drew.setCell (p := ⟨w.heap.size, 0, none⟩) (Nat.le_refl _) _).setCell (p := ⟨w.heap.size, 3, none⟩) (Nat.le_refl _) _
    have HST := storeRow (ty := 38) (vs := bookC (.slice la ln lk) (.slice a1 n1 k1) (.slice a2 n2 k2) cn z1) r2 rfl (by simp [Value.oneCell']) (by kernel_rfl)
    have lR := r2.lt
    obtain ⟨V2, hV2⟩ : ∃ V2, V2 = ((wA.drew.setCell ⟨w.heap.size, 0, none⟩ (.slice la ln lk)).setCell ⟨w.heap.size, 3, none⟩ (.int .i64 cn)) := ⟨_, rfl⟩
    have hV3 : V2 = (((wA.setCell ⟨w.heap.size, 0, none⟩ (.slice la ln lk)).setCell ⟨w.heap.size, 3, none⟩ (.int .i64 cn))).drew := hV2
    have c2 := b2.cells
    rw [← hV2] at c2 HST B2 r2 lR
    first | rw [← hV2] | rw [← hV3]
    have l2 := b2.lt
    rw [← hV2] at l2
    clear hV2 hV3 b2 cB lB cN lN fB
    go_wp2_with (refine wpList_storeBy rfl _ _ _ rfl _ _ rfl rfl HST ?_)
    have cF := (r2.setRow (cs' := bookC (.slice la ln lk) (.slice a1 n1 k1) (.slice a2 n2 k2) cn z1)).cells
    refine bodyPost_ret (v := .agg (bookC (.slice la ln lk) (.slice a1 n1 k1) (.slice a2 n2 k2) cn z1)) (by simp [results, Tryz.results13, go_sem, cF]) rfl ?_
    exact ⟨rfl, Below.setRow B2 (by omega) _⟩
  focus
    go_wp2_with fail
    clear cX lX cC lC
    have fB := bB.free
    refine wp_region_mix [.take 0, .take 1, .take 2, .take 3, .take 4, .take 5, .take 6, .take 9, .take 7, .one 8, .take 10, .one 11] 12 (fun W => W.cell? ⟨w.heap.size + 1 + 1 + 1, 0, none⟩ = some (.slice la ln lk) ∧ W.cell? ⟨w.heap.size + 1 + 1 + 1, 3, none⟩ = some (.int .i64 z) ∧ W.cell? ⟨w.heap.size + 1 + 1, 4, none⟩ = some (.int .i64 cn)) (by kernel_rfl) (by kernel_rfl) (fun _ _ _ _ _ h => h) (HSN.out _ bN' bC') ?_
    simp only [List.map_cons, List.map_nil, Ms.fill, List.getD_cons_zero, List.getD_cons_succ]
    iterate 9 (refine mixT_take (by rfl) ?_ (fun w' hw' => ?_) ?_; rotate_left; (focus (go_simp; (try with_reducible rfl))); (try simp only [Act.put, List.setIfInBounds_toArray, List.set_cons_zero, List.set_cons_succ]))
    refine mixT_step (by rfl) fun K hK => ?_
    go_simp
    refine hK _ _ (fun _ => HSN.out _ (bN'.far (p := ⟨w.heap.size, _, none⟩) (by simp <;> omega) _) (bC'.far (p := ⟨w.heap.size, _, none⟩) (by simp <;> omega) _)) ?_
    clear hK K
    (refine mixT_take (by rfl) ?_ (fun w' hw' => ?_) ?_; rotate_left; (focus (go_simp; (try with_reducible rfl))); (try simp only [Act.put, List.setIfInBounds_toArray, List.set_cons_zero, List.set_cons_succ]))
    refine mixT_step (by rfl) fun K hK => ?_
    go_simp
    refine hK _ _ (fun _ => HSN.out _ ((bN'.far (p := ⟨w.heap.size, _, none⟩) (by simp <;> omega) _).far (p := ⟨w.heap.size, _, none⟩) (by simp <;> omega) _) ((bC'.far (p := ⟨w.heap.size, _, none⟩) (by simp <;> omega) _).far (p := ⟨w.heap.size, _, none⟩) (by simp <;> omega) _)) ?_
    clear hK K
    refine mixT_nil ?_
    have b2 : Blk ((wA.drew.setCell ⟨w.heap.size, 1, none⟩ (.slice la ln lk)).setCell ⟨w.heap.size, 4, none⟩ (.int .i64 cn)) w.heap.size 38 (bookC (.slice a0 n0 k0) (.slice la ln lk) (.slice a2 n2 k2) z0 cn) := (bB'.set_ 1 (.slice la ln lk)).set_ 4 (.int .i64 cn)
    have r2 : Blk ((wA.drew.setCell ⟨w.heap.size, 1, none⟩ (.slice la ln lk)).setCell ⟨w.heap.size, 4, none⟩ (.int .i64 cn)) (w.heap.size + 1 + 1 + 1 + 1) 38 (bookC (.slice none 0 0) (.slice none 0 0) (.slice none 0 0) 0 0) := (bR'.far (p := ⟨w.heap.size, _, none⟩) (by simp <;> omega) _).far (p := ⟨w.heap.size, _, none⟩) (by simp <;> omega) _
    have B2 : Below w.heap.size w ((wA.drew.setCell ⟨w.heap.size, 1, none⟩ (.slice la ln lk)).setCell ⟨w.heap.size, 4, none⟩ (.int .i64 cn)) := (BA.drew.setCell (p := ⟨w.heap.size, 1, none⟩) (Nat.le_refl _) _).setCell (p := ⟨w.heap.size, 4, none⟩) (Nat.le_refl _) _
    have HST := storeRow (ty := 38) (vs := bookC (.slice a0 n0 k0) (.slice la ln lk) (.slice a2 n2 k2) z0 cn) r2 rfl (by simp [Value.oneCell']) (by kernel_rfl)
    have lR := r2.lt
    obtain ⟨V2, hV2⟩ : ∃ V2, V2 = ((wA.drew.setCell ⟨w.heap.size, 1, none⟩ (.slice la ln lk)).setCell ⟨w.heap.size, 4, none⟩ (.int .i64 cn)) := ⟨_, rfl⟩
    have hV3 : V2 = (((wA.setCell ⟨w.heap.size, 1, none⟩ (.slice la ln lk)).setCell ⟨w.heap.size, 4, none⟩ (.int .i64 cn))).drew := hV2
    have c2 := b2.cells
    rw [← hV2] at c2 HST B2 r2 lR
    first | rw [← hV2] | rw [← hV3]
    have l2 := b2.lt
    rw [← hV2] at l2
    clear hV2 hV3 b2 cB lB cN lN fB
    go_wp2_with (refine wpList_storeBy rfl _ _ _ rfl _ _ rfl rfl HST ?_)
    have cF := (r2.setRow (cs' := bookC (.slice a0 n0 k0) (.slice la ln lk) (.slice a2 n2 k2) z0 cn)).cells
    refine bodyPost_ret (v := .agg (bookC (.slice a0 n0 k0) (.slice la ln lk) (.slice a2 n2 k2) z0 cn)) (by simp [results, Tryz.results13, go_sem, cF]) rfl ?_
    exact ⟨rfl, Below.setRow B2 (by omega) _⟩
set_option maxRecDepth 100000 in
set_option maxHeartbeats 4000000 in
theorem kept_store (a0 a1 a2 la : Option Addr) (n0 k0 n1 k1 n2 k2 ln lk : Nat) (z0 z1 : Int) (wh f kd off n size : Int) (xl : Value) (s : ByteArray) (_cw ck cz co cn : Int) (cl : Value) (cs : ByteArray) (cp pv : Value) (t : ByteArray) (z _e0 : Int) (hf : 0 ≤ f ∧ f ≤ 255) (hwh : 0 ≤ wh ∧ wh ≤ 255) (hw7 : wh % 8 ≠ 7) (w : World) :
    Calls Tryz.prog 13 #[.agg (bookC (.slice a0 n0 k0) (.slice a1 n1 k1) (.slice a2 n2 k2) z0 z1), .agg (actC wh f kd off n size xl s), .agg (callC 5 ck cz co cn cl cs cp), .agg (ansC (.slice la ln lk) pv t z 0)] w fun e w' =>
      e = .returned (.agg (bookC (.slice a0 n0 k0) (.slice a1 n1 k1) (.slice la ln lk) z0 z1)) ∧ Below w.heap.size w w' := by
  obtain ⟨f2, hf2⟩ : ∃ f2 : Nat, f % 2 = f2 := ⟨(f % 2).toNat, by omega⟩
  have h1 : f.tmod 2 = f2 := by rw [← hf2]; exact Int.tmod_eq_emod_of_nonneg hf.1
  have h3 : IntKind.u8.wrap (f2 : Int) = f2 := by rw [IntKind.wrap_u8]; omega
  have h5 : IntKind.i64.wrap (f2 : Int) = f2 := by rw [IntKind.wrap_i64]; omega
  have g1 : wh.tmod 8 = wh % 8 := Int.tmod_eq_emod_of_nonneg hwh.1
  have g3 : IntKind.u8.wrap (wh % 8) = wh % 8 := by rw [IntKind.wrap_u8]; omega
  have g7 : (wh % 8 == 7) = false := by simpa using hw7
  clear hf hwh hw7 hf2
  go_enter Tryz.func13, Tryz.ntmps13
  go_wp2_with fail
  refine bodyPost_ret (v := .agg (bookC (.slice a0 n0 k0) (.slice a1 n1 k1) (.slice la ln lk) z0 z1)) (by simp [results, Tryz.results13, go_sem]) rfl ?_
  exact ⟨rfl, by (repeat' (first | (with_reducible exact Below.refl _ _) | (with_reducible assumption) | (with_reducible refine Below.alloc ?_ ?_ _) | (with_reducible refine Below.drew ?_) | (with_reducible refine below_drewN' ?_ _) | (with_reducible refine Below.setCell ?_ ?_ _) | (with_reducible exact Nat.le_refl _) | omega | (simp; done) | (simp; omega)))⟩

set_option maxRecDepth 100000 in
set_option maxHeartbeats 4000000 in
theorem kept_none (a0 a1 a2 la : Option Addr) (n0 k0 n1 k1 n2 k2 ln lk : Nat) (z0 z1 : Int) (wh f kd off n size : Int) (xl : Value) (s : ByteArray) (cw ck cz co cn : Int) (cl : Value) (cs : ByteArray) (cp pv : Value) (t : ByteArray) (z _e0 : Int) (hf : 0 ≤ f ∧ f ≤ 255) (hwh : 0 ≤ wh ∧ wh ≤ 255) (hw7 : wh % 8 ≠ 7) (hcw : cw = 3 ∨ cw = 6) (w : World) :
    Calls Tryz.prog 13 #[.agg (bookC (.slice a0 n0 k0) (.slice a1 n1 k1) (.slice a2 n2 k2) z0 z1), .agg (actC wh f kd off n size xl s), .agg (callC cw ck cz co cn cl cs cp), .agg (ansC (.slice la ln lk) pv t z 0)] w fun e w' =>
      e = .returned (.agg ((bookC (.slice a0 n0 k0) (.slice a1 n1 k1) (.slice a2 n2 k2) z0 z1))) ∧ Below w.heap.size w w' := by
  obtain ⟨f2, hf2⟩ : ∃ f2 : Nat, f % 2 = f2 := ⟨(f % 2).toNat, by omega⟩
  have h1 : f.tmod 2 = f2 := by rw [← hf2]; exact Int.tmod_eq_emod_of_nonneg hf.1
  have h3 : IntKind.u8.wrap (f2 : Int) = f2 := by rw [IntKind.wrap_u8]; omega
  have h5 : IntKind.i64.wrap (f2 : Int) = f2 := by rw [IntKind.wrap_i64]; omega
  have g1 : wh.tmod 8 = wh % 8 := Int.tmod_eq_emod_of_nonneg hwh.1
  have g3 : IntKind.u8.wrap (wh % 8) = wh % 8 := by rw [IntKind.wrap_u8]; omega
  have g7 : (wh % 8 == 7) = false := by simpa using hw7
  have q0 : (cw == 0) = false := by rcases hcw with rfl | rfl <;> rfl
  have q2 : (cw == 2) = false := by rcases hcw with rfl | rfl <;> rfl
  have q5 : (cw == 5) = false := by rcases hcw with rfl | rfl <;> rfl
  clear hf hwh hw7 hf2 hcw
  go_enter Tryz.func13, Tryz.ntmps13
  go_wp2_with fail
  refine bodyPost_ret (v := .agg ((bookC (.slice a0 n0 k0) (.slice a1 n1 k1) (.slice a2 n2 k2) z0 z1))) (by simp [results, Tryz.results13, go_sem]) rfl ?_
  exact ⟨rfl, by (repeat' (first | (with_reducible exact Below.refl _ _) | (with_reducible assumption) | (with_reducible refine Below.alloc ?_ ?_ _) | (with_reducible refine Below.drew ?_) | (with_reducible refine below_drewN' ?_ _) | (with_reducible refine Below.setCell ?_ ?_ _) | (with_reducible exact Nat.le_refl _) | omega | (simp; done) | (simp; omega)))⟩

set_option maxRecDepth 100000 in
set_option maxHeartbeats 4000000 in
theorem kept_err (a0 a1 a2 la : Option Addr) (n0 k0 n1 k1 n2 k2 ln lk : Nat) (z0 z1 : Int) (wh f kd off n size : Int) (xl : Value) (s : ByteArray) (cw ck cz co cn : Int) (cl : Value) (cs : ByteArray) (cp pv : Value) (t : ByteArray) (z e0 : Int) (hf : 0 ≤ f ∧ f ≤ 255) (hwh : 0 ≤ wh ∧ wh ≤ 255) (he : e0 ≠ 0) (w : World) :
    Calls Tryz.prog 13 #[.agg (bookC (.slice a0 n0 k0) (.slice a1 n1 k1) (.slice a2 n2 k2) z0 z1), .agg (actC wh f kd off n size xl s), .agg (callC cw ck cz co cn cl cs cp), .agg (ansC (.slice la ln lk) pv t z e0)] w fun e w' =>
      e = .returned (.agg ((bookC (.slice a0 n0 k0) (.slice a1 n1 k1) (.slice a2 n2 k2) z0 z1))) ∧ Below w.heap.size w w' := by
  obtain ⟨f2, hf2⟩ : ∃ f2 : Nat, f % 2 = f2 := ⟨(f % 2).toNat, by omega⟩
  have h1 : f.tmod 2 = f2 := by rw [← hf2]; exact Int.tmod_eq_emod_of_nonneg hf.1
  have h3 : IntKind.u8.wrap (f2 : Int) = f2 := by rw [IntKind.wrap_u8]; omega
  have h5 : IntKind.i64.wrap (f2 : Int) = f2 := by rw [IntKind.wrap_i64]; omega
  have g1 : wh.tmod 8 = wh % 8 := Int.tmod_eq_emod_of_nonneg hwh.1
  have g3 : IntKind.u8.wrap (wh % 8) = wh % 8 := by rw [IntKind.wrap_u8]; omega
  have qe : (e0 != 0) = true := by simpa using he
  clear hf hwh hf2 he
  go_enter Tryz.func13, Tryz.ntmps13
  go_wp2_with fail
  refine bodyPost_ret (v := .agg ((bookC (.slice a0 n0 k0) (.slice a1 n1 k1) (.slice a2 n2 k2) z0 z1))) (by simp [results, Tryz.results13, go_sem]) rfl ?_
  exact ⟨rfl, by (repeat' (first | (with_reducible exact Below.refl _ _) | (with_reducible assumption) | (with_reducible refine Below.alloc ?_ ?_ _) | (with_reducible refine Below.drew ?_) | (with_reducible refine below_drewN' ?_ _) | (with_reducible refine Below.setCell ?_ ?_ _) | (with_reducible exact Nat.le_refl _) | omega | (simp; done) | (simp; omega)))⟩

end Go.Proofs.YtljmdcegcckblaaGreatDoor
