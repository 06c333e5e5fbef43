/- The laws of layer 12: of, for a call with raw numbers. -/
import Derived.Test.YtljmdcegcckblaaGreatDoorPart43
namespace Go.Proofs.YtljmdcegcckblaaGreatDoor
open Go.RowKit Go.Maps

abbrev actC (wh f kd off n size : Int) (lv : Value) (s : ByteArray) : Array Value := #[.int .u8 wh, .int .u8 f, .int .i64 kd, .int .i64 off, .int .i64 n, .int .i64 size, lv, .string s]
abbrev bookC (L0 L1 L2 : Value) (z0 z1 : Int) : Array Value := #[L0, L1, L2, .int .i64 z0, .int .i64 z1]
abbrev callC (wh kd size off n : Int) (lv : Value) (s : ByteArray) (pv : Value) : Array Value := #[.int .i64 wh, .int .i64 kd, .int .i64 size, .int .i64 off, .int .i64 n, lv, .string s, pv]
abbrev call0 : Array Value := #[.int .i64 0, .int .i64 0, .int .i64 0, .int .i64 0, .int .i64 0, .slice none 0 0, .string ⟨#[]⟩, .slice none 0 0]

def OfRaw (w : World) (kd off n size : Int) (lv : Value) (s : ByteArray) (e : Ending) (w' : World) : Prop :=
  Below w.heap.size w w' ∧ ∃ ci pv, (ci = 0 ∨ ci = 2 ∨ ci = 3 ∨ ci = 5 ∨ ci = 6) ∧ e = .returned (.agg (callC ci kd size off n lv s pv)) ∧ ∃ ps : List ByteArray, w'.ownsRow w.heap.size 9 1 pv ps.length (ps.map .string)

/-- A call with raw numbers. -/
def OfRaw7 (w : World) (kd off n size : Int) (lv : Value) (s : ByteArray) (e : Ending) (w' : World) : Prop :=
  Below w.heap.size w w' ∧ ∃ ci pv, (ci = 0 ∨ ci = 2 ∨ ci = 3 ∨ ci = 5 ∨ ci = 6) ∧ e = .returned (.agg (callC ci kd size off n lv s pv)) ∧ ∃ ps : List ByteArray, w'.ownsRow w.heap.size 9 1 pv ps.length (ps.map .string) ∧ ps.length ≤ 901 ∧ ∀ p ∈ ps, p.size ≤ 1000
theorem parts_small {s : ByteArray} {q1 kk : Nat} (hs : s.size ≤ 900) (hq : 1 ≤ q1) (h : q1 * kk ≤ s.size) : (piecesL s q1 kk ++ [restN s q1 kk]).length ≤ 901 ∧ ∀ p ∈ piecesL s q1 kk ++ [restN s q1 kk], p.size ≤ 1000 := by
  have hkk : kk ≤ 900 := by
    have : 1 * kk ≤ q1 * kk := Nat.mul_le_mul_right _ hq
    omega
  refine ⟨by rw [List.length_append, piecesL_length]; simp; omega, fun p hp => ?_⟩
  rcases List.mem_append.1 hp with hp | hp
  · unfold piecesL at hp
    obtain ⟨i, -, rfl⟩ := List.mem_map.1 hp
    unfold pieceAt
    rw [ByteArray.size_extract]; omega
  · simp only [List.mem_singleton] at hp
    subst hp
    rw [restN_size]; omega

set_option maxRecDepth 100000 in
set_option maxHeartbeats 4000000 in
theorem of_raw7 (a0 a1 a2 : Option Addr) (n0 k0 n1 k1 n2 k2 : Nat) (z0 z1 : Int) (wh f kd off n size : Int) (A : Option Addr) (m c : Nat) (s : ByteArray) (hs : s.size ≤ 900) (hf : 0 ≤ f ∧ f ≤ 255) (hwh : 0 ≤ wh ∧ wh ≤ 255) (hw8 : wh % 8 = 7) (hz : -9223372036854775808 ≤ size ∧ size ≤ 9223372036854775807) (w : World) :
    Calls Tryz.prog 11 #[.agg (actC wh f kd off n size (.slice A m c) s), .agg (bookC (.slice a0 n0 k0) (.slice a1 n1 k1) (.slice a2 n2 k2) z0 z1)] w (OfRaw7 w kd off n size (.slice A m c) s) := by
  obtain ⟨wA, hA⟩ : ∃ wA, wA = ((w.alloc (.cells (actC wh f kd off n size (.slice A m c) s) 41)).alloc (.cells (bookC (.slice a0 n0 k0) (.slice a1 n1 k1) (.slice a2 n2 k2) z0 z1) 38)).alloc (.cells call0 44) := ⟨_, rfl⟩
  have bA : Blk wA w.heap.size 41 (actC wh f kd off n size (.slice A m c) s) := by rw [hA]; exact (by (repeat' (first | (with_reducible assumption) | exact Blk.new' (by simp) | refine Blk.alloc ?_ _)))
  have bB : Blk wA (w.heap.size + 1) 38 (bookC (.slice a0 n0 k0) (.slice a1 n1 k1) (.slice a2 n2 k2) z0 z1) := by rw [hA]; exact (by (repeat' (first | (with_reducible assumption) | exact Blk.new' (by simp) | refine Blk.alloc ?_ _)))
  have bC : Blk wA (w.heap.size + 1 + 1) 44 call0 := by rw [hA]; exact (by (repeat' (first | (with_reducible assumption) | exact Blk.new' (by simp) | refine Blk.alloc ?_ _)))
  have B1 : Below w.heap.size w wA := by rw [hA]; (repeat' (first | (with_reducible exact Below.refl _ _) | (with_reducible assumption) | (with_reducible refine Below.alloc ?_ ?_ _) | (with_reducible refine Below.drew ?_) | (with_reducible refine below_drewN' ?_ _) | (with_reducible refine Below.setCell ?_ ?_ _) | (with_reducible exact Nat.le_refl _) | omega | (simp; done) | (simp; omega)))
  obtain ⟨f2, hf2⟩ : ∃ f2 : Nat, f % 2 = f2 := ⟨(f % 2).toNat, by omega⟩
  have hwt : wh.tmod 8 = 7 := by rw [← hw8]; exact Int.tmod_eq_emod_of_nonneg hwh.1
  clear hw8 hwh
  have h1 : f.tmod 2 = f2 := by rw [← hf2]; exact Int.tmod_eq_emod_of_nonneg hf.1
  have h3 : IntKind.u8.wrap (f2 : Int) = f2 := by rw [IntKind.wrap_u8]; omega
  have h5 : IntKind.i64.wrap (f2 : Int) = f2 := by rw [IntKind.wrap_i64]; omega
  have hf20 : (0 : Int) ≤ (f2 : Int) := by omega
  have hf21 : (f2 : Int) < 2 := by omega
  have hf23 : (f2 : Int) < 3 := by omega
  have hf22 : f2 = 0 ∨ f2 = 1 := by omega
  obtain ⟨fa, fn, fc, zf, hB1⟩ : ∃ (fa : Option Addr) (fn fc : Nat) (zf : Int), ∀ W, Blk W (w.heap.size + 1) 38 (bookC (.slice a0 n0 k0) (.slice a1 n1 k1) (.slice a2 n2 k2) z0 z1) → W.cell? ⟨w.heap.size + 1, f2, none⟩ = some (.slice fa fn fc) ∧ W.cell? ⟨w.heap.size + 1, 3 + f2, none⟩ = some (.int .i64 zf) := by
    rcases hf22 with rfl | rfl
    · exact ⟨a0, n0, k0, z0, fun W b => ⟨(b.cells _).trans rfl, (b.cells _).trans rfl⟩⟩
    · exact ⟨a1, n1, k1, z1, fun W b => ⟨(b.cells _).trans rfl, (b.cells _).trans rfl⟩⟩
  clear hf2 hf22
  have g1 : f.tmod 5 = f % 5 := Int.tmod_eq_emod_of_nonneg hf.1
  have g3 : IntKind.u8.wrap (f % 5) = f % 5 := by rw [IntKind.wrap_u8]; omega
  have hzA : wA.heap.size = w.heap.size + 1 + 1 + 1 := by rw [hA]; simp
  have HZA := Lib.hid hzA
  clear hzA
  obtain ⟨q, hq⟩ : ∃ q : Nat, size % 97 = q := ⟨(size % 97).toNat, by omega⟩
  obtain ⟨g5, hg5⟩ : ∃ g5 : Nat, f % 5 = g5 := ⟨(f % 5).toNat, by omega⟩
  have hq97 : q < 97 := by omega
  have hg50 : (0 : Int) ≤ (g5 : Int) := by omega
  have hg51 : (g5 : Int) < 5 := by omega
  obtain ⟨q1, hq1⟩ : ∃ q1 : Nat, q1 = 1 + q := ⟨_, rfl⟩
  have hct : ∀ W, Calls Tryz.prog 36 #[.string s, .int .i64 (1 + (q : Int))] W (CutPost s q1 W) := fun W => by
    have h := cut_any s (by omega) q1 (by omega) W
    rwa [show (q1 : Int) = 1 + (q : Int) from by omega] at h
  have h9 : IntKind.i64.wrap (1 + (q : Int)) = 1 + (q : Int) := by rw [IntKind.wrap_i64]; omega
  have HCT := Lib.hid hct
  clear hct
  rw [hg5] at g1 g3
  have hci : ∃ ci : Int, (#[Value.int .i64 0, .int .i64 2, .int .i64 3, .int .i64 5, .int .i64 6])[g5]? = some (.int .i64 ci) ∧ (ci = 0 ∨ ci = 2 ∨ ci = 3 ∨ ci = 5 ∨ ci = 6) := by
    have h : g5 = 0 ∨ g5 = 1 ∨ g5 = 2 ∨ g5 = 3 ∨ g5 = 4 := by omega
    rcases h with rfl | rfl | rfl | rfl | rfl
    · exact ⟨0, rfl, by simp⟩
    · exact ⟨2, rfl, by simp⟩
    · exact ⟨3, rfl, by simp⟩
    · exact ⟨5, rfl, by simp⟩
    · exact ⟨6, rfl, by simp⟩
  obtain ⟨ci, hci1, hci2⟩ := hci
  have HCI := Lib.hid (And.intro hci1 hci2)
  have hwr := fun W => wrapped_any size 97 hz (by omega) W
  rw [hq] at hwr
  have HWR := Lib.hid hwr
  have HQ := Lib.hid hq
  clear hci1 hci2 hwr hq
  have hSA : ∀ W, Blk W w.heap.size 41 (actC wh f kd off n size (.slice A m c) s) → Blk W (w.heap.size + 1) 38 (bookC (.slice a0 n0 k0) (.slice a1 n1 k1) (.slice a2 n2 k2) z0 z1) → W.cell? ⟨w.heap.size, 0, none⟩ = some (.int .u8 wh) ∧ W.cell? ⟨w.heap.size, 7, none⟩ = some (.string s) ∧ W.cell? ⟨w.heap.size + 1, f2, none⟩ = some (.slice fa fn fc) := fun W b1 b2 => ⟨by rw [b1.cells]; rfl, by rw [b1.cells]; rfl, (hB1 W b2).1⟩
  have hSB : ∀ W, Blk W w.heap.size 41 (actC wh f kd off n size (.slice A m c) s) → W.cell? ⟨w.heap.size, 1, none⟩ = some (.int .u8 f) ∧ W.cell? ⟨w.heap.size, 2, none⟩ = some (.int .i64 kd) ∧ W.cell? ⟨w.heap.size, 3, none⟩ = some (.int .i64 off) ∧ W.cell? ⟨w.heap.size, 4, none⟩ = some (.int .i64 n) ∧ W.cell? ⟨w.heap.size, 5, none⟩ = some (.int .i64 size) ∧ W.cell? ⟨w.heap.size, 6, none⟩ = some (.slice A m c) ∧ W.cell? ⟨w.heap.size, 7, none⟩ = some (.string s) := fun W b1 => ⟨by rw [b1.cells]; rfl, by rw [b1.cells]; rfl, by rw [b1.cells]; rfl, by rw [b1.cells]; rfl, by rw [b1.cells]; rfl, by rw [b1.cells]; rfl, by rw [b1.cells]; rfl⟩
  have HSA := Lib.hid hSA
  have HSB := Lib.hid hSB
  clear hSA hSB
  have HPS : Hid (∀ kk, q1 * kk ≤ s.size → (piecesL s q1 kk ++ [restN s q1 kk]).length ≤ 901 ∧ ∀ p ∈ piecesL s q1 kk ++ [restN s q1 kk], p.size ≤ 1000) := Lib.hid fun kk h => parts_small hs (by omega) h
  unfold OfRaw7
  go_enter Tryz.func11, Tryz.ntmps11
  focus
    have cA := bA.cells
    obtain ⟨cB1, cB2⟩ := hB1 _ bB
    have cBx := cB2
    rw [hA] at cBx
    simp only [call0] at cBx
    have lA := bA.lt
    have lB := bB.lt
    go_wp2_with fail
    rw [← hA]
    clear hA
    go_wp2_with fail
    clear cA cB1 cB2 cBx
    refine wp_region_mix [.take 0, .take 1, .take 2, .take 3, .take 4, .take 5, .take 6, .take 7, .take 8, .take 9, .take 10, .take 11, .one 12, .one 13] 13 (fun w' => w'.cell? ⟨w.heap.size, 0, none⟩ = some (.int .u8 wh) ∧ w'.cell? ⟨w.heap.size, 7, none⟩ = some (.string s) ∧ w'.cell? ⟨w.heap.size + 1, f2, none⟩ = some (.slice fa fn fc)) (by kernel_rfl) (by kernel_rfl) (fun _ _ _ _ _ h => h) (HSA.out _ bA.drew bB.drew) ?_
    simp only [List.map_cons, List.map_nil, Ms.fill, List.getD_cons_zero, List.getD_cons_succ]
    iterate 12 (refine mixT_take (by rfl) ?_ (fun w' hw' => ?_) ?_; rotate_left; (focus (go_simp; (try with_reducible rfl))); (try simp only [Act.put, List.setIfInBounds_toArray, List.set_cons_zero, List.set_cons_succ]))
    obtain ⟨X0, hX0⟩ : ∃ X0, X0 = (wA.alloc (.cells call0 44)).drew := ⟨_, rfl⟩
    have bA0 : Blk X0 w.heap.size 41 (actC wh f kd off n size (.slice A m c) s) := by rw [hX0]; exact (bA.alloc _).drew
    have bB0 : Blk X0 (w.heap.size + 1) 38 (bookC (.slice a0 n0 k0) (.slice a1 n1 k1) (.slice a2 n2 k2) z0 z1) := by rw [hX0]; exact (bB.alloc _).drew
    have bC0 : Blk X0 (w.heap.size + 1 + 1) 44 call0 := by rw [hX0]; exact (bC.alloc _).drew
    have bK0 : Blk X0 wA.heap.size 44 call0 := by rw [hX0]; exact (Blk.new _ _ _).drew
    have BX0 : Below w.heap.size w X0 := by rw [hX0]; exact (B1.alloc B1.size _).drew
    refine mixT_step (by rfl) fun K hK => ?_
    go_simp
    rw [← hX0]
    refine hK _ _ (fun _ => HSA.out _ bA0 bB0) ?_
    clear hK K hX0
    refine mixT_step (by rfl) fun K hK => ?_
    have hst := storeRow (ty := 44) (vs := callC 7 8 zf 0 0 (.slice fa fn fc) s (.slice none 0 0)) bK0 rfl (by simp [Value.oneCell']) (by kernel_rfl)
    refine op_storeBy _ _ _ rfl _ _ rfl rfl hst ?_
    refine hK _ _ (fun h => absurd h (by decide)) ?_
    clear hK K
    refine mixT_nil ?_
    have hWA : wA.heap.size = w.heap.size + 1 + 1 + 1 := HZA.out
    obtain ⟨X, hX⟩ : ∃ X, X = X0.setRow wA.heap.size (callC 7 8 zf 0 0 (.slice fa fn fc) s (.slice none 0 0)) := ⟨_, rfl⟩
    have bAX : Blk X w.heap.size 41 (actC wh f kd off n size (.slice A m c) s) := by rw [hX]; exact (setRow_other _ _ _ _ (by omega)).trans bA0
    have bCX : Blk X (w.heap.size + 1 + 1) 44 call0 := by rw [hX]; exact (setRow_other _ _ _ _ (by omega)).trans bC0
    have bKX : Blk X wA.heap.size 44 (callC 7 8 zf 0 0 (.slice fa fn fc) s (.slice none 0 0)) := by rw [hX]; exact bK0.setRow
    have BX : Below w.heap.size w X := by rw [hX]; exact Below.setRow BX0 (by omega) _
    rw [← hX]
    have hKC : w.heap.size + 1 + 1 ≠ wA.heap.size := by omega
    have hKA : w.heap.size ≤ wA.heap.size := by omega
    clear hX hst bA0 bB0 bC0 bK0 BX0 bA bB bC B1 lA lB hWA
    generalize wA.heap.size = CB at *
    have cK := bKX.cells
    have lK := bKX.lt
    go_wp2_with fail
    clear cK lK
    refine wp_region_plan (.take 1 (.take 2 (.take 3 (.take 6 (.take 7 (.take 8 (.take 9 (.take 10 (.take 11 (.take 12 (.take 13 (.take 14 (.take 15 (.take 16 (.take 17 (.take 18 (.take 19 (.take 20 (.take 21
      (.fork 0 22 (.mix [.take 4, .take 5, .one 22, .one 23, .one 24, .one 25, .one 26]) (.fork 0 23 (.mix [.take 4, .take 5, .one 23, .one 24, .one 25, .one 26]) (.fork 0 24 (.mix [.take 4, .take 5, .one 24, .one 25, .one 26]) (.mix [.one 0, .one 4, .one 5, .one 25, .one 26])))))))))))))))))))))))
      26 (fun W => W.cell? ⟨w.heap.size, 1, none⟩ = some (.int .u8 f) ∧ W.cell? ⟨w.heap.size, 2, none⟩ = some (.int .i64 kd) ∧ W.cell? ⟨w.heap.size, 3, none⟩ = some (.int .i64 off) ∧ W.cell? ⟨w.heap.size, 4, none⟩ = some (.int .i64 n) ∧ W.cell? ⟨w.heap.size, 5, none⟩ = some (.int .i64 size) ∧ W.cell? ⟨w.heap.size, 6, none⟩ = some (.slice A m c) ∧ W.cell? ⟨w.heap.size, 7, none⟩ = some (.string s)) (by kernel_rfl) (by kernel_rfl) (fun _ _ _ _ _ h => h) (HSB.out _ bAX.drew) ?_
    simp only [Pl.fill, List.map_cons, List.map_nil, Ms.fill, List.getD_cons_zero, List.getD_cons_succ]
    iterate 19 (refine plT_take (by rfl) ?_ (fun w' hw' => ?_) ?_; rotate_left; (focus (go_simp; (try with_reducible rfl))); (try simp only [Act.put, List.setIfInBounds_toArray, List.set_cons_zero, List.set_cons_succ]))
    have bAD := bAX.drew
    have bCD := bCX.drew
    have bKD := bKX.drew
    have BD := BX.drew
    generalize X.drew = Y at *
    clear bAX bCX bKX BX
    -- LEAVES
    refine plT_fork (fun K hK => ?_) (fun K hK => ?_)
    focus
      go_simp
      obtain ⟨Y1, hY⟩ : ∃ Y1, Y1 = Y.alloc (.cells #[.int .i64 0, .int .i64 2, .int .i64 3, .int .i64 5, .int .i64 6] 3) := ⟨_, rfl⟩
      have bA1 : Blk Y1 w.heap.size 41 (actC wh f kd off n size (.slice A m c) s) := by rw [hY]; exact bAD.alloc _
      have bC1 : Blk Y1 (w.heap.size + 1 + 1) 44 call0 := by rw [hY]; exact bCD.alloc _
      have bK1 : Blk Y1 CB 44 (callC 7 8 zf 0 0 (.slice fa fn fc) s (.slice none 0 0)) := by rw [hY]; exact bKD.alloc _
      have bN1 : Blk Y1 Y.heap.size 3 #[.int .i64 0, .int .i64 2, .int .i64 3, .int .i64 5, .int .i64 6] := by rw [hY]; exact Blk.new _ _ _
      have B1 : Below w.heap.size w Y1 := by rw [hY]; exact BD.alloc BD.size _
      rw [← hY]
      refine hK _ _ (HSB.out _ bA1) ?_
      clear hK K hY
      refine plT_mix (fun W => (W.cell? ⟨w.heap.size, 1, none⟩ = some (.int .u8 f) ∧ W.cell? ⟨w.heap.size, 2, none⟩ = some (.int .i64 kd) ∧ W.cell? ⟨w.heap.size, 3, none⟩ = some (.int .i64 off) ∧ W.cell? ⟨w.heap.size, 4, none⟩ = some (.int .i64 n) ∧ W.cell? ⟨w.heap.size, 5, none⟩ = some (.int .i64 size) ∧ W.cell? ⟨w.heap.size, 6, none⟩ = some (.slice A m c) ∧ W.cell? ⟨w.heap.size, 7, none⟩ = some (.string s)) ∧ W.cell? ⟨Y.heap.size, g5, none⟩ = some (.int .i64 ci)) (fun _ h => h.1) ⟨HSB.out _ bA1, (bN1.cells g5).trans HCI.out.1⟩ ?_
      iterate 2 (refine mixT_take (by rfl) ?_ (fun w' hw' => ?_) ?_; rotate_left; (focus (go_simp; (try with_reducible rfl))); (try simp only [Act.put, List.setIfInBounds_toArray, List.set_cons_zero, List.set_cons_succ]))
      refine mixT_step (by rfl) fun K hK => ?_
      go_simp
      refine (HWR.out _).mono ?_
      rintro e W' ⟨rfl, hW'⟩
      replace hW' := hW'.symm
      subst hW'
      refine hK _ _ (fun _ => ⟨HSB.out _ bA1, (bN1.cells g5).trans HCI.out.1⟩) ?_
      clear hK K
      refine mixT_step (by rfl) fun K hK => ?_
      go_simp
      refine hK _ _ (fun _ => ⟨HSB.out _ bA1, (bN1.cells g5).trans HCI.out.1⟩) ?_
      clear hK K
      refine mixT_step (by rfl) fun K hK => ?_
      go_simp
      have hcx := HCT.out Y1
      refine Calls.mono hcx ?_
      clear hcx
      rintro e Z1z ⟨hbZ, kk, pv0, rfl, hkq, -, -, hoZ⟩
      obtain ⟨Ap, cp, rfl⟩ := own_slice hoZ
      have HKK := Lib.hid (HPS.out _ hkq)
      clear hkq
      have lCB := bK1.lt
      have bA1z := bA1.belowAll hbZ
      have bC1z := bC1.belowAll hbZ
      have bK1z := bK1.belowAll hbZ
      have bN1z := bN1.belowAll hbZ
      have B1z := B1.trans (hbZ.mono B1.size)
      have zB := B1.size
      have hoF : ∀ q0, (Value.slice Ap (kk + 1) cp).ownBlock = some q0 → q0 ≠ CB := fun q0 h0 => by have := (own_lt hoZ q0 h0).1; omega
      have hoW := own_base hoZ zB
      have hoC : ∀ q0, (Value.slice Ap (kk + 1) cp).ownBlock = some q0 → q0 ≠ w.heap.size + 1 + 1 := fun q0 h0 => by have := (own_lt hoZ q0 h0).1; have := bC1.lt; omega
      refine hK _ _ (fun _ => ⟨HSB.out _ bA1z, (bN1z.cells g5).trans HCI.out.1⟩) ?_
      clear hK K
      refine mixT_step (by rfl) fun K hK => ?_
      go_simp
      refine hK _ _ (fun _ => ⟨HSB.out _ bA1z, (bN1z.cells g5).trans HCI.out.1⟩) ?_
      clear hK K
      refine mixT_step (by rfl) fun K hK => ?_
      have hst2 := storeRow (ty := 44) (vs := callC ci kd size off n (.slice A m c) s (.slice Ap (kk + 1) cp)) bK1z rfl (by simp [Value.oneCell']) (by kernel_rfl)
      refine op_storeBy _ _ _ rfl _ _ rfl rfl hst2 ?_
      refine hK _ _ (fun h => absurd h (by decide)) ?_
      clear hK K
      refine mixT_nil ?_
      have bK10 := bK1z.setRow (cs' := callC ci kd size off n (.slice A m c) s (.slice Ap (kk + 1) cp))
      have bC10 := bC1z.rowFar (k := CB) (cs' := callC ci kd size off n (.slice A m c) s (.slice Ap (kk + 1) cp)) hKC
      have B10 := Below.setRow B1z hKA (callC ci kd size off n (.slice A m c) s (.slice Ap (kk + 1) cp))
      have ho10 : (Z1z.setRow CB (callC ci kd size off n (.slice A m c) s (.slice Ap (kk + 1) cp))).ownsRow w.heap.size 9 1 (.slice Ap (kk + 1) cp) (kk + 1) ((piecesL s q1 kk ++ [restN s q1 kk]).map .string) := own_block hoW fun q0 h0 => setRow_other _ _ _ _ (hoF q0 h0)
      obtain ⟨Z10, hZ10⟩ : ∃ Z10, Z10 = Z1z.setRow CB (callC ci kd size off n (.slice A m c) s (.slice Ap (kk + 1) cp)) := ⟨_, rfl⟩
      rw [← hZ10] at bK10 bC10 B10 ho10 ⊢
      clear hZ10 hst2 hoW hoF hoZ hbZ
      have cK := bK10.cells
      have lK := bK10.lt
      have lC := bC10.lt
      have HST := storeRow (ty := 44) (vs := callC ci kd size off n (.slice A m c) s (.slice Ap (kk + 1) cp)) bC10 rfl (by simp [Value.oneCell']) (by kernel_rfl)
      go_wp2_with (refine wpList_storeBy rfl _ _ _ rfl _ _ rfl rfl HST ?_)
      have cF := (bC10.setRow (cs' := callC ci kd size off n (.slice A m c) s (.slice Ap (kk + 1) cp))).cells
      refine bodyPost_ret (v := .agg (callC ci kd size off n (.slice A m c) s (.slice Ap (kk + 1) cp))) (by simp [results, Tryz.results11, go_sem, cF]) rfl ?_
      have hlen : (piecesL s q1 kk ++ [restN s q1 kk]).length = kk + 1 := by simp [piecesL_length]
      exact ⟨Below.setRow B10 (by omega) _, ci, (.slice Ap (kk + 1) cp), HCI.out.2, rfl, _, by rw [hlen]; exact own_block ho10 fun q0 h0 => setRow_other _ _ _ _ (fun e0 => by have := (own_lt ho10 q0 h0).1; exact hoC q0 h0 e0), HKK.out⟩
    go_simp
    refine (HWR.out _).mono ?_
    rintro e W' ⟨rfl, hW'⟩
    replace hW' := hW'.symm
    subst hW'
    refine hK _ _ (HSB.out _ bAD) ?_
    clear hK K
    refine plT_fork (fun K hK => ?_) (fun K hK => ?_)
    focus
      go_simp
      obtain ⟨Y1, hY⟩ : ∃ Y1, Y1 = Y.alloc (.cells #[.int .i64 0, .int .i64 2, .int .i64 3, .int .i64 5, .int .i64 6] 3) := ⟨_, rfl⟩
      have bA1 : Blk Y1 w.heap.size 41 (actC wh f kd off n size (.slice A m c) s) := by rw [hY]; exact bAD.alloc _
      have bC1 : Blk Y1 (w.heap.size + 1 + 1) 44 call0 := by rw [hY]; exact bCD.alloc _
      have bK1 : Blk Y1 CB 44 (callC 7 8 zf 0 0 (.slice fa fn fc) s (.slice none 0 0)) := by rw [hY]; exact bKD.alloc _
      have bN1 : Blk Y1 Y.heap.size 3 #[.int .i64 0, .int .i64 2, .int .i64 3, .int .i64 5, .int .i64 6] := by rw [hY]; exact Blk.new _ _ _
      have B1 : Below w.heap.size w Y1 := by rw [hY]; exact BD.alloc BD.size _
      rw [← hY]
      refine hK _ _ (HSB.out _ bA1) ?_
      clear hK K hY
      refine plT_mix (fun W => (W.cell? ⟨w.heap.size, 1, none⟩ = some (.int .u8 f) ∧ W.cell? ⟨w.heap.size, 2, none⟩ = some (.int .i64 kd) ∧ W.cell? ⟨w.heap.size, 3, none⟩ = some (.int .i64 off) ∧ W.cell? ⟨w.heap.size, 4, none⟩ = some (.int .i64 n) ∧ W.cell? ⟨w.heap.size, 5, none⟩ = some (.int .i64 size) ∧ W.cell? ⟨w.heap.size, 6, none⟩ = some (.slice A m c) ∧ W.cell? ⟨w.heap.size, 7, none⟩ = some (.string s)) ∧ W.cell? ⟨Y.heap.size, g5, none⟩ = some (.int .i64 ci)) (fun _ h => h.1) ⟨HSB.out _ bA1, (bN1.cells g5).trans HCI.out.1⟩ ?_
      iterate 2 (refine mixT_take (by rfl) ?_ (fun w' hw' => ?_) ?_; rotate_left; (focus (go_simp; (try with_reducible rfl))); (try simp only [Act.put, List.setIfInBounds_toArray, List.set_cons_zero, List.set_cons_succ]))
      refine mixT_step (by rfl) fun K hK => ?_
      go_simp
      refine hK _ _ (fun _ => ⟨HSB.out _ bA1, (bN1.cells g5).trans HCI.out.1⟩) ?_
      clear hK K
      refine mixT_step (by rfl) fun K hK => ?_
      go_simp
      have hcx := HCT.out Y1
      refine Calls.mono hcx ?_
      clear hcx
      rintro e Z1z ⟨hbZ, kk, pv0, rfl, hkq, -, -, hoZ⟩
      obtain ⟨Ap, cp, rfl⟩ := own_slice hoZ
      have HKK := Lib.hid (HPS.out _ hkq)
      clear hkq
      have lCB := bK1.lt
      have bA1z := bA1.belowAll hbZ
      have bC1z := bC1.belowAll hbZ
      have bK1z := bK1.belowAll hbZ
      have bN1z := bN1.belowAll hbZ
      have B1z := B1.trans (hbZ.mono B1.size)
      have zB := B1.size
      have hoF : ∀ q0, (Value.slice Ap (kk + 1) cp).ownBlock = some q0 → q0 ≠ CB := fun q0 h0 => by have := (own_lt hoZ q0 h0).1; omega
      have hoW := own_base hoZ zB
      have hoC : ∀ q0, (Value.slice Ap (kk + 1) cp).ownBlock = some q0 → q0 ≠ w.heap.size + 1 + 1 := fun q0 h0 => by have := (own_lt hoZ q0 h0).1; have := bC1.lt; omega
      refine hK _ _ (fun _ => ⟨HSB.out _ bA1z, (bN1z.cells g5).trans HCI.out.1⟩) ?_
      clear hK K
      refine mixT_step (by rfl) fun K hK => ?_
      go_simp
      refine hK _ _ (fun _ => ⟨HSB.out _ bA1z, (bN1z.cells g5).trans HCI.out.1⟩) ?_
      clear hK K
      refine mixT_step (by rfl) fun K hK => ?_
      have hst2 := storeRow (ty := 44) (vs := callC ci kd size off n (.slice A m c) s (.slice Ap (kk + 1) cp)) bK1z rfl (by simp [Value.oneCell']) (by kernel_rfl)
      refine op_storeBy _ _ _ rfl _ _ rfl rfl hst2 ?_
      refine hK _ _ (fun h => absurd h (by decide)) ?_
      clear hK K
      refine mixT_nil ?_
      have bK10 := bK1z.setRow (cs' := callC ci kd size off n (.slice A m c) s (.slice Ap (kk + 1) cp))
      have bC10 := bC1z.rowFar (k := CB) (cs' := callC ci kd size off n (.slice A m c) s (.slice Ap (kk + 1) cp)) hKC
      have B10 := Below.setRow B1z hKA (callC ci kd size off n (.slice A m c) s (.slice Ap (kk + 1) cp))
      have ho10 : (Z1z.setRow CB (callC ci kd size off n (.slice A m c) s (.slice Ap (kk + 1) cp))).ownsRow w.heap.size 9 1 (.slice Ap (kk + 1) cp) (kk + 1) ((piecesL s q1 kk ++ [restN s q1 kk]).map .string) := own_block hoW fun q0 h0 => setRow_other _ _ _ _ (hoF q0 h0)
      obtain ⟨Z10, hZ10⟩ : ∃ Z10, Z10 = Z1z.setRow CB (callC ci kd size off n (.slice A m c) s (.slice Ap (kk + 1) cp)) := ⟨_, rfl⟩
      rw [← hZ10] at bK10 bC10 B10 ho10 ⊢
      clear hZ10 hst2 hoW hoF hoZ hbZ
      have cK := bK10.cells
      have lK := bK10.lt
      have lC := bC10.lt
      have HST := storeRow (ty := 44) (vs := callC ci kd size off n (.slice A m c) s (.slice Ap (kk + 1) cp)) bC10 rfl (by simp [Value.oneCell']) (by kernel_rfl)
      go_wp2_with (refine wpList_storeBy rfl _ _ _ rfl _ _ rfl rfl HST ?_)
      have cF := (bC10.setRow (cs' := callC ci kd size off n (.slice A m c) s (.slice Ap (kk + 1) cp))).cells
      refine bodyPost_ret (v := .agg (callC ci kd size off n (.slice A m c) s (.slice Ap (kk + 1) cp))) (by simp [results, Tryz.results11, go_sem, cF]) rfl ?_
      have hlen : (piecesL s q1 kk ++ [restN s q1 kk]).length = kk + 1 := by simp [piecesL_length]
      exact ⟨Below.setRow B10 (by omega) _, ci, (.slice Ap (kk + 1) cp), HCI.out.2, rfl, _, by rw [hlen]; exact own_block ho10 fun q0 h0 => setRow_other _ _ _ _ (fun e0 => by have := (own_lt ho10 q0 h0).1; exact hoC q0 h0 e0), HKK.out⟩
    go_simp
    refine hK _ _ (HSB.out _ bAD) ?_
    clear hK K
    refine plT_fork (fun K hK => ?_) (fun K hK => ?_)
    focus
      go_simp
      obtain ⟨Y1, hY⟩ : ∃ Y1, Y1 = Y.alloc (.cells #[.int .i64 0, .int .i64 2, .int .i64 3, .int .i64 5, .int .i64 6] 3) := ⟨_, rfl⟩
      have bA1 : Blk Y1 w.heap.size 41 (actC wh f kd off n size (.slice A m c) s) := by rw [hY]; exact bAD.alloc _
      have bC1 : Blk Y1 (w.heap.size + 1 + 1) 44 call0 := by rw [hY]; exact bCD.alloc _
      have bK1 : Blk Y1 CB 44 (callC 7 8 zf 0 0 (.slice fa fn fc) s (.slice none 0 0)) := by rw [hY]; exact bKD.alloc _
      have bN1 : Blk Y1 Y.heap.size 3 #[.int .i64 0, .int .i64 2, .int .i64 3, .int .i64 5, .int .i64 6] := by rw [hY]; exact Blk.new _ _ _
      have B1 : Below w.heap.size w Y1 := by rw [hY]; exact BD.alloc BD.size _
      rw [← hY]
      refine hK _ _ (HSB.out _ bA1) ?_
      clear hK K hY
      refine plT_mix (fun W => (W.cell? ⟨w.heap.size, 1, none⟩ = some (.int .u8 f) ∧ W.cell? ⟨w.heap.size, 2, none⟩ = some (.int .i64 kd) ∧ W.cell? ⟨w.heap.size, 3, none⟩ = some (.int .i64 off) ∧ W.cell? ⟨w.heap.size, 4, none⟩ = some (.int .i64 n) ∧ W.cell? ⟨w.heap.size, 5, none⟩ = some (.int .i64 size) ∧ W.cell? ⟨w.heap.size, 6, none⟩ = some (.slice A m c) ∧ W.cell? ⟨w.heap.size, 7, none⟩ = some (.string s)) ∧ W.cell? ⟨Y.heap.size, g5, none⟩ = some (.int .i64 ci)) (fun _ h => h.1) ⟨HSB.out _ bA1, (bN1.cells g5).trans HCI.out.1⟩ ?_
      iterate 2 (refine mixT_take (by rfl) ?_ (fun w' hw' => ?_) ?_; rotate_left; (focus (go_simp; (try with_reducible rfl))); (try simp only [Act.put, List.setIfInBounds_toArray, List.set_cons_zero, List.set_cons_succ]))
      refine mixT_step (by rfl) fun K hK => ?_
      go_simp
      have hcx := HCT.out Y1
      refine Calls.mono hcx ?_
      clear hcx
      rintro e Z1z ⟨hbZ, kk, pv0, rfl, hkq, -, -, hoZ⟩
      obtain ⟨Ap, cp, rfl⟩ := own_slice hoZ
      have HKK := Lib.hid (HPS.out _ hkq)
      clear hkq
      have lCB := bK1.lt
      have bA1z := bA1.belowAll hbZ
      have bC1z := bC1.belowAll hbZ
      have bK1z := bK1.belowAll hbZ
      have bN1z := bN1.belowAll hbZ
      have B1z := B1.trans (hbZ.mono B1.size)
      have zB := B1.size
      have hoF : ∀ q0, (Value.slice Ap (kk + 1) cp).ownBlock = some q0 → q0 ≠ CB := fun q0 h0 => by have := (own_lt hoZ q0 h0).1; omega
      have hoW := own_base hoZ zB
      have hoC : ∀ q0, (Value.slice Ap (kk + 1) cp).ownBlock = some q0 → q0 ≠ w.heap.size + 1 + 1 := fun q0 h0 => by have := (own_lt hoZ q0 h0).1; have := bC1.lt; omega
      refine hK _ _ (fun _ => ⟨HSB.out _ bA1z, (bN1z.cells g5).trans HCI.out.1⟩) ?_
      clear hK K
      refine mixT_step (by rfl) fun K hK => ?_
      go_simp
      refine hK _ _ (fun _ => ⟨HSB.out _ bA1z, (bN1z.cells g5).trans HCI.out.1⟩) ?_
      clear hK K
      refine mixT_step (by rfl) fun K hK => ?_
      have hst2 := storeRow (ty := 44) (vs := callC ci kd size off n (.slice A m c) s (.slice Ap (kk + 1) cp)) bK1z rfl (by simp [Value.oneCell']) (by kernel_rfl)
      refine op_storeBy _ _ _ rfl _ _ rfl rfl hst2 ?_
      refine hK _ _ (fun h => absurd h (by decide)) ?_
      clear hK K
      refine mixT_nil ?_
      have bK10 := bK1z.setRow (cs' := callC ci kd size off n (.slice A m c) s (.slice Ap (kk + 1) cp))
      have bC10 := bC1z.rowFar (k := CB) (cs' := callC ci kd size off n (.slice A m c) s (.slice Ap (kk + 1) cp)) hKC
      have B10 := Below.setRow B1z hKA (callC ci kd size off n (.slice A m c) s (.slice Ap (kk + 1) cp))
      have ho10 : (Z1z.setRow CB (callC ci kd size off n (.slice A m c) s (.slice Ap (kk + 1) cp))).ownsRow w.heap.size 9 1 (.slice Ap (kk + 1) cp) (kk + 1) ((piecesL s q1 kk ++ [restN s q1 kk]).map .string) := own_block hoW fun q0 h0 => setRow_other _ _ _ _ (hoF q0 h0)
      obtain ⟨Z10, hZ10⟩ : ∃ Z10, Z10 = Z1z.setRow CB (callC ci kd size off n (.slice A m c) s (.slice Ap (kk + 1) cp)) := ⟨_, rfl⟩
      rw [← hZ10] at bK10 bC10 B10 ho10 ⊢
      clear hZ10 hst2 hoW hoF hoZ hbZ
      have cK := bK10.cells
      have lK := bK10.lt
      have lC := bC10.lt
      have HST := storeRow (ty := 44) (vs := callC ci kd size off n (.slice A m c) s (.slice Ap (kk + 1) cp)) bC10 rfl (by simp [Value.oneCell']) (by kernel_rfl)
      go_wp2_with (refine wpList_storeBy rfl _ _ _ rfl _ _ rfl rfl HST ?_)
      have cF := (bC10.setRow (cs' := callC ci kd size off n (.slice A m c) s (.slice Ap (kk + 1) cp))).cells
      refine bodyPost_ret (v := .agg (callC ci kd size off n (.slice A m c) s (.slice Ap (kk + 1) cp))) (by simp [results, Tryz.results11, go_sem, cF]) rfl ?_
      have hlen : (piecesL s q1 kk ++ [restN s q1 kk]).length = kk + 1 := by simp [piecesL_length]
      exact ⟨Below.setRow B10 (by omega) _, ci, (.slice Ap (kk + 1) cp), HCI.out.2, rfl, _, by rw [hlen]; exact own_block ho10 fun q0 h0 => setRow_other _ _ _ _ (fun e0 => by have := (own_lt ho10 q0 h0).1; exact hoC q0 h0 e0), HKK.out⟩
    go_simp
    have hcx := HCT.out Y
    refine Calls.mono hcx ?_
    clear hcx
    rintro e Zz ⟨hbZ, kk, pv0, rfl, hkq, -, -, hoZ⟩
    obtain ⟨Ap, cp, rfl⟩ := own_slice hoZ
    have HKK := Lib.hid (HPS.out _ hkq)
    clear hkq
    have lCB := bKD.lt
    have bAz := bAD.belowAll hbZ
    have bCz := bCD.belowAll hbZ
    have bKz := bKD.belowAll hbZ
    have Bz := BD.trans (hbZ.mono BD.size)
    have zB := BD.size
    have hoF : ∀ q0, (Value.slice Ap (kk + 1) cp).ownBlock = some q0 → q0 ≠ CB := fun q0 h0 => by have := (own_lt hoZ q0 h0).1; omega
    have hoW := own_base hoZ zB
    have hoC : ∀ q0, (Value.slice Ap (kk + 1) cp).ownBlock = some q0 → q0 ≠ w.heap.size + 1 + 1 := fun q0 h0 => by have := (own_lt hoZ q0 h0).1; have := bCD.lt; omega
    refine hK _ _ (HSB.out _ bAz) ?_
    clear hK K
    refine plT_mix (fun W => W.cell? ⟨w.heap.size, 1, none⟩ = some (.int .u8 f) ∧ W.cell? ⟨w.heap.size, 2, none⟩ = some (.int .i64 kd) ∧ W.cell? ⟨w.heap.size, 3, none⟩ = some (.int .i64 off) ∧ W.cell? ⟨w.heap.size, 4, none⟩ = some (.int .i64 n) ∧ W.cell? ⟨w.heap.size, 5, none⟩ = some (.int .i64 size) ∧ W.cell? ⟨w.heap.size, 6, none⟩ = some (.slice A m c) ∧ W.cell? ⟨w.heap.size, 7, none⟩ = some (.string s)) (fun _ h => h) (HSB.out _ bAz) ?_
    refine mixT_step (by rfl) fun K hK => ?_
    go_simp
    obtain ⟨Yy, hY⟩ : ∃ Yy, Yy = Zz.alloc (.cells #[.int .i64 0, .int .i64 2, .int .i64 3, .int .i64 5, .int .i64 6] 3) := ⟨_, rfl⟩
    have bAy : Blk Yy w.heap.size 41 (actC wh f kd off n size (.slice A m c) s) := by rw [hY]; exact bAz.alloc _
    have bCy : Blk Yy (w.heap.size + 1 + 1) 44 call0 := by rw [hY]; exact bCz.alloc _
    have bKy : Blk Yy CB 44 (callC 7 8 zf 0 0 (.slice fa fn fc) s (.slice none 0 0)) := by rw [hY]; exact bKz.alloc _
    have bNy : Blk Yy Zz.heap.size 3 #[.int .i64 0, .int .i64 2, .int .i64 3, .int .i64 5, .int .i64 6] := by rw [hY]; exact Blk.new _ _ _
    have By : Below w.heap.size w Yy := by rw [hY]; exact Bz.alloc Bz.size _
    rw [← hY]
    have ho2 : Yy.ownsRow w.heap.size 9 1 (.slice Ap (kk + 1) cp) (kk + 1) ((piecesL s q1 kk ++ [restN s q1 kk]).map .string) := by rw [hY]; exact own_below hoW ((Below.refl _ _).alloc (Nat.le_refl _) _)
    refine hK _ _ (fun _ => HSB.out _ bAy) ?_
    clear hK K hY hoW
    have hoW := ho2
    have cN := (bNy.cells g5).trans HCI.out.1
    have lN := bNy.lt
    refine mixT_step (by rfl) fun K hK => ?_
    go_simp
    refine hK _ _ (fun _ => HSB.out _ bAy) ?_
    clear hK K
    refine mixT_step (by rfl) fun K hK => ?_
    go_simp
    refine hK _ _ (fun _ => HSB.out _ bAy) ?_
    clear hK K
    refine mixT_step (by rfl) fun K hK => ?_
    go_simp
    refine hK _ _ (fun _ => HSB.out _ bAy) ?_
    clear hK K
    refine mixT_step (by rfl) fun K hK => ?_
    have hst2 := storeRow (ty := 44) (vs := callC ci kd size off n (.slice A m c) s (.slice Ap (kk + 1) cp)) bKy rfl (by simp [Value.oneCell']) (by kernel_rfl)
    refine op_storeBy _ _ _ rfl _ _ rfl rfl hst2 ?_
    refine hK _ _ (fun h => absurd h (by decide)) ?_
    clear hK K
    refine mixT_nil ?_
    have bK10 := bKy.setRow (cs' := callC ci kd size off n (.slice A m c) s (.slice Ap (kk + 1) cp))
    have bC10 := bCy.rowFar (k := CB) (cs' := callC ci kd size off n (.slice A m c) s (.slice Ap (kk + 1) cp)) hKC
    have B10 := Below.setRow By hKA (callC ci kd size off n (.slice A m c) s (.slice Ap (kk + 1) cp))
    have ho10 : (Yy.setRow CB (callC ci kd size off n (.slice A m c) s (.slice Ap (kk + 1) cp))).ownsRow w.heap.size 9 1 (.slice Ap (kk + 1) cp) (kk + 1) ((piecesL s q1 kk ++ [restN s q1 kk]).map .string) := own_block hoW fun q0 h0 => setRow_other _ _ _ _ (hoF q0 h0)
    obtain ⟨Z10, hZ10⟩ : ∃ Z10, Z10 = Yy.setRow CB (callC ci kd size off n (.slice A m c) s (.slice Ap (kk + 1) cp)) := ⟨_, rfl⟩
    rw [← hZ10] at bK10 bC10 B10 ho10 ⊢
    clear hZ10 hst2 hoW hoF hoZ hbZ
    have cK := bK10.cells
    have lK := bK10.lt
    have lC := bC10.lt
    have HST := storeRow (ty := 44) (vs := callC ci kd size off n (.slice A m c) s (.slice Ap (kk + 1) cp)) bC10 rfl (by simp [Value.oneCell']) (by kernel_rfl)
    go_wp2_with (refine wpList_storeBy rfl _ _ _ rfl _ _ rfl rfl HST ?_)
    have cF := (bC10.setRow (cs' := callC ci kd size off n (.slice A m c) s (.slice Ap (kk + 1) cp))).cells
    refine bodyPost_ret (v := .agg (callC ci kd size off n (.slice A m c) s (.slice Ap (kk + 1) cp))) (by simp [results, Tryz.results11, go_sem, cF]) rfl ?_
    have hlen : (piecesL s q1 kk ++ [restN s q1 kk]).length = kk + 1 := by simp [piecesL_length]
    exact ⟨Below.setRow B10 (by omega) _, ci, (.slice Ap (kk + 1) cp), HCI.out.2, rfl, _, by rw [hlen]; exact own_block ho10 fun q0 h0 => setRow_other _ _ _ _ (fun e0 => by have := (own_lt ho10 q0 h0).1; exact hoC q0 h0 e0), HKK.out⟩

end Go.Proofs.YtljmdcegcckblaaGreatDoor
