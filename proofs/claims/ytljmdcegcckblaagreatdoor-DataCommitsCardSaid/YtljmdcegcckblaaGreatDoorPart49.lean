/- The laws of layer 12: of, for acts on parts. -/
import Derived.Test.YtljmdcegcckblaaGreatDoorPart48
namespace Go.Proofs.YtljmdcegcckblaaGreatDoor
open Go.RowKit Go.Maps

/-- What of hands back for an act on parts. -/
def OfParts (w : World) (C z : Int) (lv : Value) (s : ByteArray) (q1 : Nat) (e : Ending) (w' : World) : Prop :=
  Below w.heap.size w w' ∧ ∃ kk pv, e = .returned (.agg (callC C 7 z 0 0 lv s pv)) ∧ q1 * kk ≤ s.size ∧ (restN s q1 kk).size ≤ q1 ∧ (kk = 0 ∨ 0 < (restN s q1 kk).size) ∧ w'.ownsRow w.heap.size 9 1 pv (kk + 1) ((piecesL s q1 kk ++ [restN s q1 kk]).map .string)

set_option maxRecDepth 100000 in
set_option maxHeartbeats 4000000 in
theorem of_p5_0 (a0 a1 a2 : Option Addr) (n0 k0 n1 k1 n2 k2 : Nat) (z0 z1 : Int) (wh f kd off n size : Int) (xl : Value) (s : ByteArray) (hs9 : s.size ≤ 1000) (hsz : -9223372036854775808 ≤ size ∧ size ≤ 9223372036854775807) (hf : 0 ≤ f ∧ f ≤ 255) (hwh : 0 ≤ wh ∧ wh ≤ 255) (hw8 : wh % 8 = 5) (hf2 : f % 2 = 0) (w : World) :
    Calls Tryz.prog 11 #[.agg (actC wh f kd off n size xl s), .agg (bookC (.slice a0 n0 k0) (.slice a1 n1 k1) (.slice a2 n2 k2) z0 z1)] w (OfParts w 5 z0 (.slice a2 n2 k2) s (1 + size % 97).toNat) := by
  obtain ⟨q, hq⟩ : ∃ q : Nat, size % 97 = q := ⟨(size % 97).toNat, by omega⟩
  obtain ⟨q1, hq1⟩ : ∃ q1 : Nat, q1 = 1 + q := ⟨_, rfl⟩
  rw [show (1 + size % 97).toNat = q1 from by omega]
  have hct : ∀ W, Calls Tryz.prog 36 #[.string s, .int .i64 (1 + (q : Int))] W (CutPost s q1 W) := fun W => by
    have h := cut_any s (by omega) q1 (by omega) W
    rwa [show (q1 : Int) = 1 + (q : Int) from by omega] at h
  have h9 : IntKind.i64.wrap (1 + (q : Int)) = 1 + (q : Int) := by rw [IntKind.wrap_i64]; omega
  have hwr := fun W => wrapped_any size 97 hsz (by omega) W
  rw [hq] at hwr
  have HCT := Lib.hid hct
  have HWR := Lib.hid hwr
  have HQ1 := Lib.hid hq1
  clear hct hwr hq hq1 hsz
  unfold OfParts
  obtain ⟨wA, hA⟩ : ∃ wA, wA = ((w.alloc (.cells (actC wh f kd off n size xl s) 41)).alloc (.cells (bookC (.slice a0 n0 k0) (.slice a1 n1 k1) (.slice a2 n2 k2) z0 z1) 38)).alloc (.cells call0 44) := ⟨_, rfl⟩
  have bA : Blk wA w.heap.size 41 (actC wh f kd off n size xl s) := by rw [hA]; exact (by (repeat' (first | (with_reducible assumption) | exact Blk.new' (by simp) | refine Blk.alloc ?_ _)))
  have bB : Blk wA (w.heap.size + 1) 38 (bookC (.slice a0 n0 k0) (.slice a1 n1 k1) (.slice a2 n2 k2) z0 z1) := by rw [hA]; exact (Blk.new' (by simp)).alloc _
  have bC : Blk wA (w.heap.size + 1 + 1) 44 call0 := by rw [hA]; exact (by (repeat' (first | (with_reducible assumption) | exact Blk.new' (by simp) | refine Blk.alloc ?_ _)))
  have BA : Below w.heap.size w wA := by rw [hA]; (repeat' (first | (with_reducible exact Below.refl _ _) | (with_reducible assumption) | (with_reducible refine Below.alloc ?_ ?_ _) | (with_reducible refine Below.drew ?_) | (with_reducible refine below_drewN' ?_ _) | (with_reducible refine Below.setCell ?_ ?_ _) | (with_reducible exact Nat.le_refl _) | omega | (simp; done) | (simp; omega)))
  have hzA : wA.heap.size = w.heap.size + 1 + 1 + 1 := by rw [hA]; simp
  have h1 : f.tmod 2 = 0 := by rw [← hf2]; exact Int.tmod_eq_emod_of_nonneg hf.1
  have g1 : wh.tmod 8 = 5 := by rw [← hw8]; exact Int.tmod_eq_emod_of_nonneg hwh.1
  have hS : ∀ W, Blk W w.heap.size 41 (actC wh f kd off n size xl s) → Blk W (w.heap.size + 1) 38 (bookC (.slice a0 n0 k0) (.slice a1 n1 k1) (.slice a2 n2 k2) z0 z1) → W.cell? ⟨w.heap.size, 0, none⟩ = some (.int .u8 wh) ∧ W.cell? ⟨w.heap.size, 7, none⟩ = some (.string s) ∧ W.cell? ⟨w.heap.size + 1, 0, none⟩ = some (.slice a0 n0 k0) ∧ W.cell? ⟨w.heap.size + 1, 2, none⟩ = some (.slice a2 n2 k2) ∧ W.cell? ⟨w.heap.size, 5, none⟩ = some (.int .i64 size) := fun W b1 b2 => ⟨(b1.cells 0).trans rfl, (b1.cells 7).trans rfl, (b2.cells 0).trans rfl, (b2.cells 2).trans rfl, (b1.cells 5).trans rfl⟩
  have HS := Lib.hid hS
  have cA := bA.cells
  have lA := bA.lt
  have cB := bB.cells
  have lB := bB.lt
  have HZA := Lib.hid hzA
  clear hS hf hwh hw8 hf2 hzA
  go_enter Tryz.func11, Tryz.ntmps11
  go_wp2_with fail
  rw [← hA]
  clear hA
  go_wp2_with fail
  clear cA lA cB lB
  refine wp_region_mix [.take 0, .take 1, .take 2, .take 3, .take 4, .take 5, .take 6, .take 7, .take 8, .take 9, .take 10, .take 11, .one 12, .one 13] 13 (fun W => W.cell? ⟨w.heap.size, 0, none⟩ = some (.int .u8 wh) ∧ W.cell? ⟨w.heap.size, 7, none⟩ = some (.string s) ∧ W.cell? ⟨w.heap.size + 1, 0, none⟩ = some (.slice a0 n0 k0) ∧ W.cell? ⟨w.heap.size + 1, 2, none⟩ = some (.slice a2 n2 k2) ∧ W.cell? ⟨w.heap.size, 5, none⟩ = some (.int .i64 size)) (by kernel_rfl) (by kernel_rfl) (fun _ _ _ _ _ h => h) (HS.out _ bA.drew bB.drew) ?_
  simp only [List.map_cons, List.map_nil, Ms.fill, List.getD_cons_zero, List.getD_cons_succ]
  iterate 12 (refine mixT_take (by rfl) ?_ (fun w' hw' => ?_) ?_; rotate_left; (focus (go_simp; (try with_reducible rfl))); (try simp only [Act.put, List.setIfInBounds_toArray, List.set_cons_zero, List.set_cons_succ]))
  obtain ⟨X0, hX0⟩ : ∃ X0, X0 = (wA.alloc (.cells call0 44)).drew := ⟨_, rfl⟩
  have bA0 : Blk X0 w.heap.size 41 (actC wh f kd off n size xl s) := by rw [hX0]; exact (bA.alloc _).drew
  have bB0 : Blk X0 (w.heap.size + 1) 38 (bookC (.slice a0 n0 k0) (.slice a1 n1 k1) (.slice a2 n2 k2) z0 z1) := by rw [hX0]; exact (bB.alloc _).drew
  have bC0 : Blk X0 (w.heap.size + 1 + 1) 44 call0 := by rw [hX0]; exact (bC.alloc _).drew
  have bK0 : Blk X0 wA.heap.size 44 call0 := by rw [hX0]; exact (Blk.new _ _ _).drew
  have BX0 : Below w.heap.size w X0 := by rw [hX0]; exact (BA.alloc BA.size _).drew
  refine mixT_step (by rfl) fun K hK => ?_
  go_simp
  rw [← hX0]
  refine hK _ _ (fun _ => HS.out _ bA0 bB0) ?_
  clear hK K hX0
  refine mixT_step (by rfl) fun K hK => ?_
  have hst := storeRow (ty := 44) (vs := (callC 5 8 z0 0 0 (.slice a0 n0 k0) s (.slice none 0 0))) bK0 rfl (by simp [Value.oneCell']) (by kernel_rfl)
  refine op_storeBy _ _ _ rfl _ _ rfl rfl hst ?_
  refine hK _ _ (fun h => absurd h (by decide)) ?_
  clear hK K
  refine mixT_nil ?_
  have hWA : wA.heap.size = w.heap.size + 1 + 1 + 1 := HZA.out
  obtain ⟨X, hX⟩ : ∃ X, X = X0.setRow wA.heap.size (callC 5 8 z0 0 0 (.slice a0 n0 k0) s (.slice none 0 0)) := ⟨_, rfl⟩
  have bAX : Blk X w.heap.size 41 (actC wh f kd off n size xl s) := by rw [hX]; exact (setRow_other _ _ _ _ (by omega)).trans bA0
  have bBX : Blk X (w.heap.size + 1) 38 (bookC (.slice a0 n0 k0) (.slice a1 n1 k1) (.slice a2 n2 k2) z0 z1) := by rw [hX]; exact (setRow_other _ _ _ _ (by omega)).trans bB0
  have bCX : Blk X (w.heap.size + 1 + 1) 44 call0 := by rw [hX]; exact (setRow_other _ _ _ _ (by omega)).trans bC0
  have bKX : Blk X wA.heap.size 44 (callC 5 8 z0 0 0 (.slice a0 n0 k0) s (.slice none 0 0)) := by rw [hX]; exact bK0.setRow
  have BX : Below w.heap.size w X := by rw [hX]; exact Below.setRow BX0 (by omega) _
  rw [← hX]
  have hKC : w.heap.size + 1 + 1 ≠ wA.heap.size := by omega
  have hKA : w.heap.size ≠ wA.heap.size := by omega
  have hKB : w.heap.size + 1 ≠ wA.heap.size := by omega
  have hKL : w.heap.size ≤ wA.heap.size := by omega
  clear hX hst bA0 bB0 bC0 bK0 BX0 bA bB bC BA hWA HZA
  generalize wA.heap.size = CB at *
  have cK := bKX.cells
  have lK := bKX.lt
  have fK := bKX.free
  have cA := bAX.cells
  have lA := bAX.lt
  go_wp2_with fail
  clear cA lA cK lK fK
  refine wp_region_mix [.take 0, .take 1, .take 2, .take 3, .take 4, .take 5, .take 6, .take 10, .one 7, .one 8, .one 9, .one 11, .take 12, .one 13, .take 14, .one 15] 16 (fun W => W.cell? ⟨w.heap.size, 0, none⟩ = some (.int .u8 wh) ∧ W.cell? ⟨w.heap.size, 7, none⟩ = some (.string s) ∧ W.cell? ⟨w.heap.size + 1, 0, none⟩ = some (.slice a0 n0 k0) ∧ W.cell? ⟨w.heap.size + 1, 2, none⟩ = some (.slice a2 n2 k2) ∧ W.cell? ⟨w.heap.size, 5, none⟩ = some (.int .i64 size)) (by kernel_rfl) (by kernel_rfl) (fun _ _ _ _ _ h => h) (HS.out _ bAX.drew bBX.drew) ?_
  simp only [List.map_cons, List.map_nil, Ms.fill, List.getD_cons_zero, List.getD_cons_succ]
  iterate 8 (refine mixT_take (by rfl) ?_ (fun w' hw' => ?_) ?_; rotate_left; (focus (go_simp; (try with_reducible rfl))); (try simp only [Act.put, List.setIfInBounds_toArray, List.set_cons_zero, List.set_cons_succ]))
  refine mixT_step (by rfl) fun K hK => ?_
  go_simp
  refine (HWR.out _).mono ?_
  rintro e X' ⟨rfl, hX'⟩
  replace hX' := hX'.symm
  subst hX'
  refine hK _ _ (fun _ => HS.out _ bAX.drew bBX.drew) ?_
  clear hK K
  refine mixT_step (by rfl) fun K hK => ?_
  go_simp
  refine hK _ _ (fun _ => HS.out _ bAX.drew bBX.drew) ?_
  clear hK K
  refine mixT_step (by rfl) fun K hK => ?_
  go_simp
  have hcx := HCT.out X.drew
  refine Calls.mono hcx ?_
  clear hcx
  rintro e Z ⟨hbZ, kk, pv0, rfl, m1, m2, m3, hoZ⟩
  obtain ⟨Ap, cp, rfl⟩ := own_slice hoZ
  have bAZ := bAX.drew.belowAll hbZ
  have bBZ := bBX.drew.belowAll hbZ
  have bCZ := bCX.drew.belowAll hbZ
  have bKZ := bKX.drew.belowAll hbZ
  have BZ := BX.drew.trans (hbZ.mono BX.drew.size)
  have lCB : CB < X.heap.size := bKX.lt
  have hoF : ∀ q0, (Value.slice Ap (kk + 1) cp).ownBlock = some q0 → q0 ≠ CB := fun q0 h0 => by have := (own_lt hoZ q0 h0).1; have h2 : X.drew.heap.size = X.heap.size := rfl; omega
  have hoC : ∀ q0, (Value.slice Ap (kk + 1) cp).ownBlock = some q0 → q0 ≠ w.heap.size + 1 + 1 := fun q0 h0 => by have := (own_lt hoZ q0 h0).1; have := bCX.lt; have h2 : X.drew.heap.size = X.heap.size := rfl; omega
  have hoW := own_base hoZ BX.drew.size
  refine hK _ _ (fun _ => HS.out _ bAZ bBZ) ?_
  have HM := Lib.hid (And.intro m1 (And.intro m2 m3))
  clear hK K bAX bBX bCX bKX BX hbZ hoZ lCB m1 m2 m3 HWR HCT
  have cK := bKZ.cells
  have lK := bKZ.lt
  have fK := bKZ.free
  refine mixT_step (by rfl) fun K hK => ?_
  go_simp
  refine hK _ _ (fun _ => HS.out _ (bAZ.far (p := ⟨CB, 1, none⟩) hKA _) (bBZ.far (p := ⟨CB, 1, none⟩) hKB _)) ?_
  clear hK K
  (refine mixT_take (by rfl) ?_ (fun w' hw' => ?_) ?_; rotate_left; (focus (go_simp; (try with_reducible rfl))); (try simp only [Act.put, List.setIfInBounds_toArray, List.set_cons_zero, List.set_cons_succ]))
  refine mixT_step (by rfl) fun K hK => ?_
  go_simp
  refine hK _ _ (fun _ => HS.out _ ((bAZ.far (p := ⟨CB, 1, none⟩) hKA _).far (p := ⟨CB, 5, none⟩) hKA _) ((bBZ.far (p := ⟨CB, 1, none⟩) hKB _).far (p := ⟨CB, 5, none⟩) hKB _)) ?_
  clear hK K
  (refine mixT_take (by rfl) ?_ (fun w' hw' => ?_) ?_; rotate_left; (focus (go_simp; (try with_reducible rfl))); (try simp only [Act.put, List.setIfInBounds_toArray, List.set_cons_zero, List.set_cons_succ]))
  refine mixT_step (by rfl) fun K hK => ?_
  go_simp
  refine hK _ _ (fun _ => HS.out _ (((bAZ.far (p := ⟨CB, 1, none⟩) hKA _).far (p := ⟨CB, 5, none⟩) hKA _).far (p := ⟨CB, 7, none⟩) hKA _) (((bBZ.far (p := ⟨CB, 1, none⟩) hKB _).far (p := ⟨CB, 5, none⟩) hKB _).far (p := ⟨CB, 7, none⟩) hKB _)) ?_
  clear hK K
  refine mixT_nil ?_
  have b2 : Blk (((Z.setCell ⟨CB, 1, none⟩ (.int .i64 7)).setCell ⟨CB, 5, none⟩ (.slice a2 n2 k2)).setCell ⟨CB, 7, none⟩ (.slice Ap (kk + 1) cp)) CB 44 (callC 5 7 z0 0 0 (.slice a2 n2 k2) s (.slice Ap (kk + 1) cp)) := ((bKZ.set_ 1 (.int .i64 7)).set_ 5 (.slice a2 n2 k2)).set_ 7 (.slice Ap (kk + 1) cp)
  have r2 : Blk (((Z.setCell ⟨CB, 1, none⟩ (.int .i64 7)).setCell ⟨CB, 5, none⟩ (.slice a2 n2 k2)).setCell ⟨CB, 7, none⟩ (.slice Ap (kk + 1) cp)) (w.heap.size + 1 + 1) 44 call0 := ((bCZ.far (p := ⟨CB, _, none⟩) hKC _).far (p := ⟨CB, _, none⟩) hKC _).far (p := ⟨CB, _, none⟩) hKC _
  have B2 : Below w.heap.size w (((Z.setCell ⟨CB, 1, none⟩ (.int .i64 7)).setCell ⟨CB, 5, none⟩ (.slice a2 n2 k2)).setCell ⟨CB, 7, none⟩ (.slice Ap (kk + 1) cp)) := ((BZ.setCell (p := ⟨CB, 1, none⟩) hKL _).setCell (p := ⟨CB, 5, none⟩) hKL _).setCell (p := ⟨CB, 7, none⟩) hKL _
  have ho2 : (((Z.setCell ⟨CB, 1, none⟩ (.int .i64 7)).setCell ⟨CB, 5, none⟩ (.slice a2 n2 k2)).setCell ⟨CB, 7, none⟩ (.slice Ap (kk + 1) cp)).ownsRow w.heap.size 9 1 (.slice Ap (kk + 1) cp) (kk + 1) ((piecesL s q1 kk ++ [restN s q1 kk]).map .string) := own_block hoW fun q0 h0 => (Below.heap_setCell _ _ _ _ (hoF q0 h0)).trans ((Below.heap_setCell _ _ _ _ (hoF q0 h0)).trans (Below.heap_setCell _ _ _ _ (hoF q0 h0)))
  obtain ⟨V2, hV2⟩ : ∃ V2, V2 = (((Z.setCell ⟨CB, 1, none⟩ (.int .i64 7)).setCell ⟨CB, 5, none⟩ (.slice a2 n2 k2)).setCell ⟨CB, 7, none⟩ (.slice Ap (kk + 1) cp)) := ⟨_, rfl⟩
  rw [← hV2] at b2 r2 B2 ho2 ⊢
  have HST := storeRow (ty := 44) (vs := callC 5 7 z0 0 0 (.slice a2 n2 k2) s (.slice Ap (kk + 1) cp)) r2 rfl (by simp [Value.oneCell']) (by kernel_rfl)
  have lR := r2.lt
  have c2 := b2.cells
  have l2 := b2.lt
  clear hV2 lK fK cK
  go_wp2_with (refine wpList_storeBy rfl _ _ _ rfl _ _ rfl rfl HST ?_)
  have cF := (r2.setRow (cs' := callC 5 7 z0 0 0 (.slice a2 n2 k2) s (.slice Ap (kk + 1) cp))).cells
  refine bodyPost_ret (v := .agg (callC 5 7 z0 0 0 (.slice a2 n2 k2) s (.slice Ap (kk + 1) cp))) (by simp [results, Tryz.results11, go_sem, cF]) rfl ?_
  exact ⟨Below.setRow B2 (by omega) _, kk, _, rfl, HM.out.1, HM.out.2.1, HM.out.2.2, own_block ho2 fun q0 h0 => setRow_other _ _ _ _ (hoC q0 h0)⟩

set_option maxRecDepth 100000 in
set_option maxHeartbeats 4000000 in
theorem of_p5_1 (a0 a1 a2 : Option Addr) (n0 k0 n1 k1 n2 k2 : Nat) (z0 z1 : Int) (wh f kd off n size : Int) (xl : Value) (s : ByteArray) (hs9 : s.size ≤ 1000) (hsz : -9223372036854775808 ≤ size ∧ size ≤ 9223372036854775807) (hf : 0 ≤ f ∧ f ≤ 255) (hwh : 0 ≤ wh ∧ wh ≤ 255) (hw8 : wh % 8 = 5) (hf2 : f % 2 = 1) (w : World) :
    Calls Tryz.prog 11 #[.agg (actC wh f kd off n size xl s), .agg (bookC (.slice a0 n0 k0) (.slice a1 n1 k1) (.slice a2 n2 k2) z0 z1)] w (OfParts w 5 z1 (.slice a2 n2 k2) s (1 + size % 97).toNat) := by
  obtain ⟨q, hq⟩ : ∃ q : Nat, size % 97 = q := ⟨(size % 97).toNat, by omega⟩
  obtain ⟨q1, hq1⟩ : ∃ q1 : Nat, q1 = 1 + q := ⟨_, rfl⟩
  rw [show (1 + size % 97).toNat = q1 from by omega]
  have hct : ∀ W, Calls Tryz.prog 36 #[.string s, .int .i64 (1 + (q : Int))] W (CutPost s q1 W) := fun W => by
    have h := cut_any s (by omega) q1 (by omega) W
    rwa [show (q1 : Int) = 1 + (q : Int) from by omega] at h
  have h9 : IntKind.i64.wrap (1 + (q : Int)) = 1 + (q : Int) := by rw [IntKind.wrap_i64]; omega
  have hwr := fun W => wrapped_any size 97 hsz (by omega) W
  rw [hq] at hwr
  have HCT := Lib.hid hct
  have HWR := Lib.hid hwr
  have HQ1 := Lib.hid hq1
  clear hct hwr hq hq1 hsz
  unfold OfParts
  obtain ⟨wA, hA⟩ : ∃ wA, wA = ((w.alloc (.cells (actC wh f kd off n size xl s) 41)).alloc (.cells (bookC (.slice a0 n0 k0) (.slice a1 n1 k1) (.slice a2 n2 k2) z0 z1) 38)).alloc (.cells call0 44) := ⟨_, rfl⟩
  have bA : Blk wA w.heap.size 41 (actC wh f kd off n size xl s) := by rw [hA]; exact (by (repeat' (first | (with_reducible assumption) | exact Blk.new' (by simp) | refine Blk.alloc ?_ _)))
  have bB : Blk wA (w.heap.size + 1) 38 (bookC (.slice a0 n0 k0) (.slice a1 n1 k1) (.slice a2 n2 k2) z0 z1) := by rw [hA]; exact (Blk.new' (by simp)).alloc _
  have bC : Blk wA (w.heap.size + 1 + 1) 44 call0 := by rw [hA]; exact (by (repeat' (first | (with_reducible assumption) | exact Blk.new' (by simp) | refine Blk.alloc ?_ _)))
  have BA : Below w.heap.size w wA := by rw [hA]; (repeat' (first | (with_reducible exact Below.refl _ _) | (with_reducible assumption) | (with_reducible refine Below.alloc ?_ ?_ _) | (with_reducible refine Below.drew ?_) | (with_reducible refine below_drewN' ?_ _) | (with_reducible refine Below.setCell ?_ ?_ _) | (with_reducible exact Nat.le_refl _) | omega | (simp; done) | (simp; omega)))
  have hzA : wA.heap.size = w.heap.size + 1 + 1 + 1 := by rw [hA]; simp
  have h1 : f.tmod 2 = 1 := by rw [← hf2]; exact Int.tmod_eq_emod_of_nonneg hf.1
  have g1 : wh.tmod 8 = 5 := by rw [← hw8]; exact Int.tmod_eq_emod_of_nonneg hwh.1
  have hS : ∀ W, Blk W w.heap.size 41 (actC wh f kd off n size xl s) → Blk W (w.heap.size + 1) 38 (bookC (.slice a0 n0 k0) (.slice a1 n1 k1) (.slice a2 n2 k2) z0 z1) → W.cell? ⟨w.heap.size, 0, none⟩ = some (.int .u8 wh) ∧ W.cell? ⟨w.heap.size, 7, none⟩ = some (.string s) ∧ W.cell? ⟨w.heap.size + 1, 1, none⟩ = some (.slice a1 n1 k1) ∧ W.cell? ⟨w.heap.size + 1, 2, none⟩ = some (.slice a2 n2 k2) ∧ W.cell? ⟨w.heap.size, 5, none⟩ = some (.int .i64 size) := fun W b1 b2 => ⟨(b1.cells 0).trans rfl, (b1.cells 7).trans rfl, (b2.cells 1).trans rfl, (b2.cells 2).trans rfl, (b1.cells 5).trans rfl⟩
  have HS := Lib.hid hS
  have cA := bA.cells
  have lA := bA.lt
  have cB := bB.cells
  have lB := bB.lt
  have HZA := Lib.hid hzA
  clear hS hf hwh hw8 hf2 hzA
  go_enter Tryz.func11, Tryz.ntmps11
  go_wp2_with fail
  rw [← hA]
  clear hA
  go_wp2_with fail
  clear cA lA cB lB
  refine wp_region_mix [.take 0, .take 1, .take 2, .take 3, .take 4, .take 5, .take 6, .take 7, .take 8, .take 9, .take 10, .take 11, .one 12, .one 13] 13 (fun W => W.cell? ⟨w.heap.size, 0, none⟩ = some (.int .u8 wh) ∧ W.cell? ⟨w.heap.size, 7, none⟩ = some (.string s) ∧ W.cell? ⟨w.heap.size + 1, 1, none⟩ = some (.slice a1 n1 k1) ∧ W.cell? ⟨w.heap.size + 1, 2, none⟩ = some (.slice a2 n2 k2) ∧ W.cell? ⟨w.heap.size, 5, none⟩ = some (.int .i64 size)) (by kernel_rfl) (by kernel_rfl) (fun _ _ _ _ _ h => h) (HS.out _ bA.drew bB.drew) ?_
  simp only [List.map_cons, List.map_nil, Ms.fill, List.getD_cons_zero, List.getD_cons_succ]
  iterate 12 (refine mixT_take (by rfl) ?_ (fun w' hw' => ?_) ?_; rotate_left; (focus (go_simp; (try with_reducible rfl))); (try simp only [Act.put, List.setIfInBounds_toArray, List.set_cons_zero, List.set_cons_succ]))
  obtain ⟨X0, hX0⟩ : ∃ X0, X0 = (wA.alloc (.cells call0 44)).drew := ⟨_, rfl⟩
  have bA0 : Blk X0 w.heap.size 41 (actC wh f kd off n size xl s) := by rw [hX0]; exact (bA.alloc _).drew
  have bB0 : Blk X0 (w.heap.size + 1) 38 (bookC (.slice a0 n0 k0) (.slice a1 n1 k1) (.slice a2 n2 k2) z0 z1) := by rw [hX0]; exact (bB.alloc _).drew
  have bC0 : Blk X0 (w.heap.size + 1 + 1) 44 call0 := by rw [hX0]; exact (bC.alloc _).drew
  have bK0 : Blk X0 wA.heap.size 44 call0 := by rw [hX0]; exact (Blk.new _ _ _).drew
  have BX0 : Below w.heap.size w X0 := by rw [hX0]; exact (BA.alloc BA.size _).drew
  refine mixT_step (by rfl) fun K hK => ?_
  go_simp
  rw [← hX0]
  refine hK _ _ (fun _ => HS.out _ bA0 bB0) ?_
  clear hK K hX0
  refine mixT_step (by rfl) fun K hK => ?_
  have hst := storeRow (ty := 44) (vs := (callC 5 8 z1 0 0 (.slice a1 n1 k1) s (.slice none 0 0))) bK0 rfl (by simp [Value.oneCell']) (by kernel_rfl)
  refine op_storeBy _ _ _ rfl _ _ rfl rfl hst ?_
  refine hK _ _ (fun h => absurd h (by decide)) ?_
  clear hK K
  refine mixT_nil ?_
  have hWA : wA.heap.size = w.heap.size + 1 + 1 + 1 := HZA.out
  obtain ⟨X, hX⟩ : ∃ X, X = X0.setRow wA.heap.size (callC 5 8 z1 0 0 (.slice a1 n1 k1) s (.slice none 0 0)) := ⟨_, rfl⟩
  have bAX : Blk X w.heap.size 41 (actC wh f kd off n size xl s) := by rw [hX]; exact (setRow_other _ _ _ _ (by omega)).trans bA0
  have bBX : Blk X (w.heap.size + 1) 38 (bookC (.slice a0 n0 k0) (.slice a1 n1 k1) (.slice a2 n2 k2) z0 z1) := by rw [hX]; exact (setRow_other _ _ _ _ (by omega)).trans bB0
  have bCX : Blk X (w.heap.size + 1 + 1) 44 call0 := by rw [hX]; exact (setRow_other _ _ _ _ (by omega)).trans bC0
  have bKX : Blk X wA.heap.size 44 (callC 5 8 z1 0 0 (.slice a1 n1 k1) s (.slice none 0 0)) := by rw [hX]; exact bK0.setRow
  have BX : Below w.heap.size w X := by rw [hX]; exact Below.setRow BX0 (by omega) _
  rw [← hX]
  have hKC : w.heap.size + 1 + 1 ≠ wA.heap.size := by omega
  have hKA : w.heap.size ≠ wA.heap.size := by omega
  have hKB : w.heap.size + 1 ≠ wA.heap.size := by omega
  have hKL : w.heap.size ≤ wA.heap.size := by omega
  clear hX hst bA0 bB0 bC0 bK0 BX0 bA bB bC BA hWA HZA
  generalize wA.heap.size = CB at *
  have cK := bKX.cells
  have lK := bKX.lt
  have fK := bKX.free
  have cA := bAX.cells
  have lA := bAX.lt
  go_wp2_with fail
  clear cA lA cK lK fK
  refine wp_region_mix [.take 0, .take 1, .take 2, .take 3, .take 4, .take 5, .take 6, .take 10, .one 7, .one 8, .one 9, .one 11, .take 12, .one 13, .take 14, .one 15] 16 (fun W => W.cell? ⟨w.heap.size, 0, none⟩ = some (.int .u8 wh) ∧ W.cell? ⟨w.heap.size, 7, none⟩ = some (.string s) ∧ W.cell? ⟨w.heap.size + 1, 1, none⟩ = some (.slice a1 n1 k1) ∧ W.cell? ⟨w.heap.size + 1, 2, none⟩ = some (.slice a2 n2 k2) ∧ W.cell? ⟨w.heap.size, 5, none⟩ = some (.int .i64 size)) (by kernel_rfl) (by kernel_rfl) (fun _ _ _ _ _ h => h) (HS.out _ bAX.drew bBX.drew) ?_
  simp only [List.map_cons, List.map_nil, Ms.fill, List.getD_cons_zero, List.getD_cons_succ]
  iterate 8 (refine mixT_take (by rfl) ?_ (fun w' hw' => ?_) ?_; rotate_left; (focus (go_simp; (try with_reducible rfl))); (try simp only [Act.put, List.setIfInBounds_toArray, List.set_cons_zero, List.set_cons_succ]))
  refine mixT_step (by rfl) fun K hK => ?_
  go_simp
  refine (HWR.out _).mono ?_
  rintro e X' ⟨rfl, hX'⟩
  replace hX' := hX'.symm
  subst hX'
  refine hK _ _ (fun _ => HS.out _ bAX.drew bBX.drew) ?_
  clear hK K
  refine mixT_step (by rfl) fun K hK => ?_
  go_simp
  refine hK _ _ (fun _ => HS.out _ bAX.drew bBX.drew) ?_
  clear hK K
  refine mixT_step (by rfl) fun K hK => ?_
  go_simp
  have hcx := HCT.out X.drew
  refine Calls.mono hcx ?_
  clear hcx
  rintro e Z ⟨hbZ, kk, pv0, rfl, m1, m2, m3, hoZ⟩
  obtain ⟨Ap, cp, rfl⟩ := own_slice hoZ
  have bAZ := bAX.drew.belowAll hbZ
  have bBZ := bBX.drew.belowAll hbZ
  have bCZ := bCX.drew.belowAll hbZ
  have bKZ := bKX.drew.belowAll hbZ
  have BZ := BX.drew.trans (hbZ.mono BX.drew.size)
  have lCB : CB < X.heap.size := bKX.lt
  have hoF : ∀ q0, (Value.slice Ap (kk + 1) cp).ownBlock = some q0 → q0 ≠ CB := fun q0 h0 => by have := (own_lt hoZ q0 h0).1; have h2 : X.drew.heap.size = X.heap.size := rfl; omega
  have hoC : ∀ q0, (Value.slice Ap (kk + 1) cp).ownBlock = some q0 → q0 ≠ w.heap.size + 1 + 1 := fun q0 h0 => by have := (own_lt hoZ q0 h0).1; have := bCX.lt; have h2 : X.drew.heap.size = X.heap.size := rfl; omega
  have hoW := own_base hoZ BX.drew.size
  refine hK _ _ (fun _ => HS.out _ bAZ bBZ) ?_
  have HM := Lib.hid (And.intro m1 (And.intro m2 m3))
  clear hK K bAX bBX bCX bKX BX hbZ hoZ lCB m1 m2 m3 HWR HCT
  have cK := bKZ.cells
  have lK := bKZ.lt
  have fK := bKZ.free
  refine mixT_step (by rfl) fun K hK => ?_
  go_simp
  refine hK _ _ (fun _ => HS.out _ (bAZ.far (p := ⟨CB, 1, none⟩) hKA _) (bBZ.far (p := ⟨CB, 1, none⟩) hKB _)) ?_
  clear hK K
  (refine mixT_take (by rfl) ?_ (fun w' hw' => ?_) ?_; rotate_left; (focus (go_simp; (try with_reducible rfl))); (try simp only [Act.put, List.setIfInBounds_toArray, List.set_cons_zero, List.set_cons_succ]))
  refine mixT_step (by rfl) fun K hK => ?_
  go_simp
  refine hK _ _ (fun _ => HS.out _ ((bAZ.far (p := ⟨CB, 1, none⟩) hKA _).far (p := ⟨CB, 5, none⟩) hKA _) ((bBZ.far (p := ⟨CB, 1, none⟩) hKB _).far (p := ⟨CB, 5, none⟩) hKB _)) ?_
  clear hK K
  (refine mixT_take (by rfl) ?_ (fun w' hw' => ?_) ?_; rotate_left; (focus (go_simp; (try with_reducible rfl))); (try simp only [Act.put, List.setIfInBounds_toArray, List.set_cons_zero, List.set_cons_succ]))
  refine mixT_step (by rfl) fun K hK => ?_
  go_simp
  refine hK _ _ (fun _ => HS.out _ (((bAZ.far (p := ⟨CB, 1, none⟩) hKA _).far (p := ⟨CB, 5, none⟩) hKA _).far (p := ⟨CB, 7, none⟩) hKA _) (((bBZ.far (p := ⟨CB, 1, none⟩) hKB _).far (p := ⟨CB, 5, none⟩) hKB _).far (p := ⟨CB, 7, none⟩) hKB _)) ?_
  clear hK K
  refine mixT_nil ?_
  have b2 : Blk (((Z.setCell ⟨CB, 1, none⟩ (.int .i64 7)).setCell ⟨CB, 5, none⟩ (.slice a2 n2 k2)).setCell ⟨CB, 7, none⟩ (.slice Ap (kk + 1) cp)) CB 44 (callC 5 7 z1 0 0 (.slice a2 n2 k2) s (.slice Ap (kk + 1) cp)) := ((bKZ.set_ 1 (.int .i64 7)).set_ 5 (.slice a2 n2 k2)).set_ 7 (.slice Ap (kk + 1) cp)
  have r2 : Blk (((Z.setCell ⟨CB, 1, none⟩ (.int .i64 7)).setCell ⟨CB, 5, none⟩ (.slice a2 n2 k2)).setCell ⟨CB, 7, none⟩ (.slice Ap (kk + 1) cp)) (w.heap.size + 1 + 1) 44 call0 := ((bCZ.far (p := ⟨CB, _, none⟩) hKC _).far (p := ⟨CB, _, none⟩) hKC _).far (p := ⟨CB, _, none⟩) hKC _
  have B2 : Below w.heap.size w (((Z.setCell ⟨CB, 1, none⟩ (.int .i64 7)).setCell ⟨CB, 5, none⟩ (.slice a2 n2 k2)).setCell ⟨CB, 7, none⟩ (.slice Ap (kk + 1) cp)) := ((BZ.setCell (p := ⟨CB, 1, none⟩) hKL _).setCell (p := ⟨CB, 5, none⟩) hKL _).setCell (p := ⟨CB, 7, none⟩) hKL _
  have ho2 : (((Z.setCell ⟨CB, 1, none⟩ (.int .i64 7)).setCell ⟨CB, 5, none⟩ (.slice a2 n2 k2)).setCell ⟨CB, 7, none⟩ (.slice Ap (kk + 1) cp)).ownsRow w.heap.size 9 1 (.slice Ap (kk + 1) cp) (kk + 1) ((piecesL s q1 kk ++ [restN s q1 kk]).map .string) := own_block hoW fun q0 h0 => (Below.heap_setCell _ _ _ _ (hoF q0 h0)).trans ((Below.heap_setCell _ _ _ _ (hoF q0 h0)).trans (Below.heap_setCell _ _ _ _ (hoF q0 h0)))
  obtain ⟨V2, hV2⟩ : ∃ V2, V2 = (((Z.setCell ⟨CB, 1, none⟩ (.int .i64 7)).setCell ⟨CB, 5, none⟩ (.slice a2 n2 k2)).setCell ⟨CB, 7, none⟩ (.slice Ap (kk + 1) cp)) := ⟨_, rfl⟩
  rw [← hV2] at b2 r2 B2 ho2 ⊢
  have HST := storeRow (ty := 44) (vs := callC 5 7 z1 0 0 (.slice a2 n2 k2) s (.slice Ap (kk + 1) cp)) r2 rfl (by simp [Value.oneCell']) (by kernel_rfl)
  have lR := r2.lt
  have c2 := b2.cells
  have l2 := b2.lt
  clear hV2 lK fK cK
  go_wp2_with (refine wpList_storeBy rfl _ _ _ rfl _ _ rfl rfl HST ?_)
  have cF := (r2.setRow (cs' := callC 5 7 z1 0 0 (.slice a2 n2 k2) s (.slice Ap (kk + 1) cp))).cells
  refine bodyPost_ret (v := .agg (callC 5 7 z1 0 0 (.slice a2 n2 k2) s (.slice Ap (kk + 1) cp))) (by simp [results, Tryz.results11, go_sem, cF]) rfl ?_
  exact ⟨Below.setRow B2 (by omega) _, kk, _, rfl, HM.out.1, HM.out.2.1, HM.out.2.2, own_block ho2 fun q0 h0 => setRow_other _ _ _ _ (hoC q0 h0)⟩

set_option maxRecDepth 100000 in
set_option maxHeartbeats 4000000 in
theorem of_p6_0 (a0 a1 a2 : Option Addr) (n0 k0 n1 k1 n2 k2 : Nat) (z0 z1 : Int) (wh f kd off n size : Int) (xl : Value) (s : ByteArray) (hs9 : s.size ≤ 1000) (hsz : -9223372036854775808 ≤ size ∧ size ≤ 9223372036854775807) (hf : 0 ≤ f ∧ f ≤ 255) (hwh : 0 ≤ wh ∧ wh ≤ 255) (hw8 : wh % 8 = 6) (hf2 : f % 2 = 0) (w : World) :
    Calls Tryz.prog 11 #[.agg (actC wh f kd off n size xl s), .agg (bookC (.slice a0 n0 k0) (.slice a1 n1 k1) (.slice a2 n2 k2) z0 z1)] w (OfParts w 6 z0 (.slice a2 n2 k2) s (1 + size % 97).toNat) := by
  obtain ⟨q, hq⟩ : ∃ q : Nat, size % 97 = q := ⟨(size % 97).toNat, by omega⟩
  obtain ⟨q1, hq1⟩ : ∃ q1 : Nat, q1 = 1 + q := ⟨_, rfl⟩
  rw [show (1 + size % 97).toNat = q1 from by omega]
  have hct : ∀ W, Calls Tryz.prog 36 #[.string s, .int .i64 (1 + (q : Int))] W (CutPost s q1 W) := fun W => by
    have h := cut_any s (by omega) q1 (by omega) W
    rwa [show (q1 : Int) = 1 + (q : Int) from by omega] at h
  have h9 : IntKind.i64.wrap (1 + (q : Int)) = 1 + (q : Int) := by rw [IntKind.wrap_i64]; omega
  have hwr := fun W => wrapped_any size 97 hsz (by omega) W
  rw [hq] at hwr
  have HCT := Lib.hid hct
  have HWR := Lib.hid hwr
  have HQ1 := Lib.hid hq1
  clear hct hwr hq hq1 hsz
  unfold OfParts
  obtain ⟨wA, hA⟩ : ∃ wA, wA = ((w.alloc (.cells (actC wh f kd off n size xl s) 41)).alloc (.cells (bookC (.slice a0 n0 k0) (.slice a1 n1 k1) (.slice a2 n2 k2) z0 z1) 38)).alloc (.cells call0 44) := ⟨_, rfl⟩
  have bA : Blk wA w.heap.size 41 (actC wh f kd off n size xl s) := by rw [hA]; exact (by (repeat' (first | (with_reducible assumption) | exact Blk.new' (by simp) | refine Blk.alloc ?_ _)))
  have bB : Blk wA (w.heap.size + 1) 38 (bookC (.slice a0 n0 k0) (.slice a1 n1 k1) (.slice a2 n2 k2) z0 z1) := by rw [hA]; exact (Blk.new' (by simp)).alloc _
  have bC : Blk wA (w.heap.size + 1 + 1) 44 call0 := by rw [hA]; exact (by (repeat' (first | (with_reducible assumption) | exact Blk.new' (by simp) | refine Blk.alloc ?_ _)))
  have BA : Below w.heap.size w wA := by rw [hA]; (repeat' (first | (with_reducible exact Below.refl _ _) | (with_reducible assumption) | (with_reducible refine Below.alloc ?_ ?_ _) | (with_reducible refine Below.drew ?_) | (with_reducible refine below_drewN' ?_ _) | (with_reducible refine Below.setCell ?_ ?_ _) | (with_reducible exact Nat.le_refl _) | omega | (simp; done) | (simp; omega)))
  have hzA : wA.heap.size = w.heap.size + 1 + 1 + 1 := by rw [hA]; simp
  have h1 : f.tmod 2 = 0 := by rw [← hf2]; exact Int.tmod_eq_emod_of_nonneg hf.1
  have g1 : wh.tmod 8 = 6 := by rw [← hw8]; exact Int.tmod_eq_emod_of_nonneg hwh.1
  have hS : ∀ W, Blk W w.heap.size 41 (actC wh f kd off n size xl s) → Blk W (w.heap.size + 1) 38 (bookC (.slice a0 n0 k0) (.slice a1 n1 k1) (.slice a2 n2 k2) z0 z1) → W.cell? ⟨w.heap.size, 0, none⟩ = some (.int .u8 wh) ∧ W.cell? ⟨w.heap.size, 7, none⟩ = some (.string s) ∧ W.cell? ⟨w.heap.size + 1, 0, none⟩ = some (.slice a0 n0 k0) ∧ W.cell? ⟨w.heap.size + 1, 2, none⟩ = some (.slice a2 n2 k2) ∧ W.cell? ⟨w.heap.size, 5, none⟩ = some (.int .i64 size) := fun W b1 b2 => ⟨(b1.cells 0).trans rfl, (b1.cells 7).trans rfl, (b2.cells 0).trans rfl, (b2.cells 2).trans rfl, (b1.cells 5).trans rfl⟩
  have HS := Lib.hid hS
  have cA := bA.cells
  have lA := bA.lt
  have cB := bB.cells
  have lB := bB.lt
  have HZA := Lib.hid hzA
  clear hS hf hwh hw8 hf2 hzA
  go_enter Tryz.func11, Tryz.ntmps11
  go_wp2_with fail
  rw [← hA]
  clear hA
  go_wp2_with fail
  clear cA lA cB lB
  refine wp_region_mix [.take 0, .take 1, .take 2, .take 3, .take 4, .take 5, .take 6, .take 7, .take 8, .take 9, .take 10, .take 11, .one 12, .one 13] 13 (fun W => W.cell? ⟨w.heap.size, 0, none⟩ = some (.int .u8 wh) ∧ W.cell? ⟨w.heap.size, 7, none⟩ = some (.string s) ∧ W.cell? ⟨w.heap.size + 1, 0, none⟩ = some (.slice a0 n0 k0) ∧ W.cell? ⟨w.heap.size + 1, 2, none⟩ = some (.slice a2 n2 k2) ∧ W.cell? ⟨w.heap.size, 5, none⟩ = some (.int .i64 size)) (by kernel_rfl) (by kernel_rfl) (fun _ _ _ _ _ h => h) (HS.out _ bA.drew bB.drew) ?_
  simp only [List.map_cons, List.map_nil, Ms.fill, List.getD_cons_zero, List.getD_cons_succ]
  iterate 12 (refine mixT_take (by rfl) ?_ (fun w' hw' => ?_) ?_; rotate_left; (focus (go_simp; (try with_reducible rfl))); (try simp only [Act.put, List.setIfInBounds_toArray, List.set_cons_zero, List.set_cons_succ]))
  obtain ⟨X0, hX0⟩ : ∃ X0, X0 = (wA.alloc (.cells call0 44)).drew := ⟨_, rfl⟩
  have bA0 : Blk X0 w.heap.size 41 (actC wh f kd off n size xl s) := by rw [hX0]; exact (bA.alloc _).drew
  have bB0 : Blk X0 (w.heap.size + 1) 38 (bookC (.slice a0 n0 k0) (.slice a1 n1 k1) (.slice a2 n2 k2) z0 z1) := by rw [hX0]; exact (bB.alloc _).drew
  have bC0 : Blk X0 (w.heap.size + 1 + 1) 44 call0 := by rw [hX0]; exact (bC.alloc _).drew
  have bK0 : Blk X0 wA.heap.size 44 call0 := by rw [hX0]; exact (Blk.new _ _ _).drew
  have BX0 : Below w.heap.size w X0 := by rw [hX0]; exact (BA.alloc BA.size _).drew
  refine mixT_step (by rfl) fun K hK => ?_
  go_simp
  rw [← hX0]
  refine hK _ _ (fun _ => HS.out _ bA0 bB0) ?_
  clear hK K hX0
  refine mixT_step (by rfl) fun K hK => ?_
  have hst := storeRow (ty := 44) (vs := (callC 6 8 z0 0 0 (.slice a0 n0 k0) s (.slice none 0 0))) bK0 rfl (by simp [Value.oneCell']) (by kernel_rfl)
  refine op_storeBy _ _ _ rfl _ _ rfl rfl hst ?_
  refine hK _ _ (fun h => absurd h (by decide)) ?_
  clear hK K
  refine mixT_nil ?_
  have hWA : wA.heap.size = w.heap.size + 1 + 1 + 1 := HZA.out
  obtain ⟨X, hX⟩ : ∃ X, X = X0.setRow wA.heap.size (callC 6 8 z0 0 0 (.slice a0 n0 k0) s (.slice none 0 0)) := ⟨_, rfl⟩
  have bAX : Blk X w.heap.size 41 (actC wh f kd off n size xl s) := by rw [hX]; exact (setRow_other _ _ _ _ (by omega)).trans bA0
  have bBX : Blk X (w.heap.size + 1) 38 (bookC (.slice a0 n0 k0) (.slice a1 n1 k1) (.slice a2 n2 k2) z0 z1) := by rw [hX]; exact (setRow_other _ _ _ _ (by omega)).trans bB0
  have bCX : Blk X (w.heap.size + 1 + 1) 44 call0 := by rw [hX]; exact (setRow_other _ _ _ _ (by omega)).trans bC0
  have bKX : Blk X wA.heap.size 44 (callC 6 8 z0 0 0 (.slice a0 n0 k0) s (.slice none 0 0)) := by rw [hX]; exact bK0.setRow
  have BX : Below w.heap.size w X := by rw [hX]; exact Below.setRow BX0 (by omega) _
  rw [← hX]
  have hKC : w.heap.size + 1 + 1 ≠ wA.heap.size := by omega
  have hKA : w.heap.size ≠ wA.heap.size := by omega
  have hKB : w.heap.size + 1 ≠ wA.heap.size := by omega
  have hKL : w.heap.size ≤ wA.heap.size := by omega
  clear hX hst bA0 bB0 bC0 bK0 BX0 bA bB bC BA hWA HZA
  generalize wA.heap.size = CB at *
  have cK := bKX.cells
  have lK := bKX.lt
  have fK := bKX.free
  have cA := bAX.cells
  have lA := bAX.lt
  go_wp2_with fail
  clear cA lA cK lK fK
  refine wp_region_mix [.take 0, .take 1, .take 2, .take 3, .take 4, .take 5, .take 6, .take 10, .one 7, .one 8, .one 9, .one 11, .take 12, .one 13, .take 14, .one 15] 16 (fun W => W.cell? ⟨w.heap.size, 0, none⟩ = some (.int .u8 wh) ∧ W.cell? ⟨w.heap.size, 7, none⟩ = some (.string s) ∧ W.cell? ⟨w.heap.size + 1, 0, none⟩ = some (.slice a0 n0 k0) ∧ W.cell? ⟨w.heap.size + 1, 2, none⟩ = some (.slice a2 n2 k2) ∧ W.cell? ⟨w.heap.size, 5, none⟩ = some (.int .i64 size)) (by kernel_rfl) (by kernel_rfl) (fun _ _ _ _ _ h => h) (HS.out _ bAX.drew bBX.drew) ?_
  simp only [List.map_cons, List.map_nil, Ms.fill, List.getD_cons_zero, List.getD_cons_succ]
  iterate 8 (refine mixT_take (by rfl) ?_ (fun w' hw' => ?_) ?_; rotate_left; (focus (go_simp; (try with_reducible rfl))); (try simp only [Act.put, List.setIfInBounds_toArray, List.set_cons_zero, List.set_cons_succ]))
  refine mixT_step (by rfl) fun K hK => ?_
  go_simp
  refine (HWR.out _).mono ?_
  rintro e X' ⟨rfl, hX'⟩
  replace hX' := hX'.symm
  subst hX'
  refine hK _ _ (fun _ => HS.out _ bAX.drew bBX.drew) ?_
  clear hK K
  refine mixT_step (by rfl) fun K hK => ?_
  go_simp
  refine hK _ _ (fun _ => HS.out _ bAX.drew bBX.drew) ?_
  clear hK K
  refine mixT_step (by rfl) fun K hK => ?_
  go_simp
  have hcx := HCT.out X.drew
  refine Calls.mono hcx ?_
  clear hcx
  rintro e Z ⟨hbZ, kk, pv0, rfl, m1, m2, m3, hoZ⟩
  obtain ⟨Ap, cp, rfl⟩ := own_slice hoZ
  have bAZ := bAX.drew.belowAll hbZ
  have bBZ := bBX.drew.belowAll hbZ
  have bCZ := bCX.drew.belowAll hbZ
  have bKZ := bKX.drew.belowAll hbZ
  have BZ := BX.drew.trans (hbZ.mono BX.drew.size)
  have lCB : CB < X.heap.size := bKX.lt
  have hoF : ∀ q0, (Value.slice Ap (kk + 1) cp).ownBlock = some q0 → q0 ≠ CB := fun q0 h0 => by have := (own_lt hoZ q0 h0).1; have h2 : X.drew.heap.size = X.heap.size := rfl; omega
  have hoC : ∀ q0, (Value.slice Ap (kk + 1) cp).ownBlock = some q0 → q0 ≠ w.heap.size + 1 + 1 := fun q0 h0 => by have := (own_lt hoZ q0 h0).1; have := bCX.lt; have h2 : X.drew.heap.size = X.heap.size := rfl; omega
  have hoW := own_base hoZ BX.drew.size
  refine hK _ _ (fun _ => HS.out _ bAZ bBZ) ?_
  have HM := Lib.hid (And.intro m1 (And.intro m2 m3))
  clear hK K bAX bBX bCX bKX BX hbZ hoZ lCB m1 m2 m3 HWR HCT
  have cK := bKZ.cells
  have lK := bKZ.lt
  have fK := bKZ.free
  refine mixT_step (by rfl) fun K hK => ?_
  go_simp
  refine hK _ _ (fun _ => HS.out _ (bAZ.far (p := ⟨CB, 1, none⟩) hKA _) (bBZ.far (p := ⟨CB, 1, none⟩) hKB _)) ?_
  clear hK K
  (refine mixT_take (by rfl) ?_ (fun w' hw' => ?_) ?_; rotate_left; (focus (go_simp; (try with_reducible rfl))); (try simp only [Act.put, List.setIfInBounds_toArray, List.set_cons_zero, List.set_cons_succ]))
  refine mixT_step (by rfl) fun K hK => ?_
  go_simp
  refine hK _ _ (fun _ => HS.out _ ((bAZ.far (p := ⟨CB, 1, none⟩) hKA _).far (p := ⟨CB, 5, none⟩) hKA _) ((bBZ.far (p := ⟨CB, 1, none⟩) hKB _).far (p := ⟨CB, 5, none⟩) hKB _)) ?_
  clear hK K
  (refine mixT_take (by rfl) ?_ (fun w' hw' => ?_) ?_; rotate_left; (focus (go_simp; (try with_reducible rfl))); (try simp only [Act.put, List.setIfInBounds_toArray, List.set_cons_zero, List.set_cons_succ]))
  refine mixT_step (by rfl) fun K hK => ?_
  go_simp
  refine hK _ _ (fun _ => HS.out _ (((bAZ.far (p := ⟨CB, 1, none⟩) hKA _).far (p := ⟨CB, 5, none⟩) hKA _).far (p := ⟨CB, 7, none⟩) hKA _) (((bBZ.far (p := ⟨CB, 1, none⟩) hKB _).far (p := ⟨CB, 5, none⟩) hKB _).far (p := ⟨CB, 7, none⟩) hKB _)) ?_
  clear hK K
  refine mixT_nil ?_
  have b2 : Blk (((Z.setCell ⟨CB, 1, none⟩ (.int .i64 7)).setCell ⟨CB, 5, none⟩ (.slice a2 n2 k2)).setCell ⟨CB, 7, none⟩ (.slice Ap (kk + 1) cp)) CB 44 (callC 6 7 z0 0 0 (.slice a2 n2 k2) s (.slice Ap (kk + 1) cp)) := ((bKZ.set_ 1 (.int .i64 7)).set_ 5 (.slice a2 n2 k2)).set_ 7 (.slice Ap (kk + 1) cp)
  have r2 : Blk (((Z.setCell ⟨CB, 1, none⟩ (.int .i64 7)).setCell ⟨CB, 5, none⟩ (.slice a2 n2 k2)).setCell ⟨CB, 7, none⟩ (.slice Ap (kk + 1) cp)) (w.heap.size + 1 + 1) 44 call0 := ((bCZ.far (p := ⟨CB, _, none⟩) hKC _).far (p := ⟨CB, _, none⟩) hKC _).far (p := ⟨CB, _, none⟩) hKC _
  have B2 : Below w.heap.size w (((Z.setCell ⟨CB, 1, none⟩ (.int .i64 7)).setCell ⟨CB, 5, none⟩ (.slice a2 n2 k2)).setCell ⟨CB, 7, none⟩ (.slice Ap (kk + 1) cp)) := ((BZ.setCell (p := ⟨CB, 1, none⟩) hKL _).setCell (p := ⟨CB, 5, none⟩) hKL _).setCell (p := ⟨CB, 7, none⟩) hKL _
  have ho2 : (((Z.setCell ⟨CB, 1, none⟩ (.int .i64 7)).setCell ⟨CB, 5, none⟩ (.slice a2 n2 k2)).setCell ⟨CB, 7, none⟩ (.slice Ap (kk + 1) cp)).ownsRow w.heap.size 9 1 (.slice Ap (kk + 1) cp) (kk + 1) ((piecesL s q1 kk ++ [restN s q1 kk]).map .string) := own_block hoW fun q0 h0 => (Below.heap_setCell _ _ _ _ (hoF q0 h0)).trans ((Below.heap_setCell _ _ _ _ (hoF q0 h0)).trans (Below.heap_setCell _ _ _ _ (hoF q0 h0)))
  obtain ⟨V2, hV2⟩ : ∃ V2, V2 = (((Z.setCell ⟨CB, 1, none⟩ (.int .i64 7)).setCell ⟨CB, 5, none⟩ (.slice a2 n2 k2)).setCell ⟨CB, 7, none⟩ (.slice Ap (kk + 1) cp)) := ⟨_, rfl⟩
  rw [← hV2] at b2 r2 B2 ho2 ⊢
  have HST := storeRow (ty := 44) (vs := callC 6 7 z0 0 0 (.slice a2 n2 k2) s (.slice Ap (kk + 1) cp)) r2 rfl (by simp [Value.oneCell']) (by kernel_rfl)
  have lR := r2.lt
  have c2 := b2.cells
  have l2 := b2.lt
  clear hV2 lK fK cK
  go_wp2_with (refine wpList_storeBy rfl _ _ _ rfl _ _ rfl rfl HST ?_)
  have cF := (r2.setRow (cs' := callC 6 7 z0 0 0 (.slice a2 n2 k2) s (.slice Ap (kk + 1) cp))).cells
  refine bodyPost_ret (v := .agg (callC 6 7 z0 0 0 (.slice a2 n2 k2) s (.slice Ap (kk + 1) cp))) (by simp [results, Tryz.results11, go_sem, cF]) rfl ?_
  exact ⟨Below.setRow B2 (by omega) _, kk, _, rfl, HM.out.1, HM.out.2.1, HM.out.2.2, own_block ho2 fun q0 h0 => setRow_other _ _ _ _ (hoC q0 h0)⟩

set_option maxRecDepth 100000 in
set_option maxHeartbeats 4000000 in
theorem of_p6_1 (a0 a1 a2 : Option Addr) (n0 k0 n1 k1 n2 k2 : Nat) (z0 z1 : Int) (wh f kd off n size : Int) (xl : Value) (s : ByteArray) (hs9 : s.size ≤ 1000) (hsz : -9223372036854775808 ≤ size ∧ size ≤ 9223372036854775807) (hf : 0 ≤ f ∧ f ≤ 255) (hwh : 0 ≤ wh ∧ wh ≤ 255) (hw8 : wh % 8 = 6) (hf2 : f % 2 = 1) (w : World) :
    Calls Tryz.prog 11 #[.agg (actC wh f kd off n size xl s), .agg (bookC (.slice a0 n0 k0) (.slice a1 n1 k1) (.slice a2 n2 k2) z0 z1)] w (OfParts w 6 z1 (.slice a2 n2 k2) s (1 + size % 97).toNat) := by
  obtain ⟨q, hq⟩ : ∃ q : Nat, size % 97 = q := ⟨(size % 97).toNat, by omega⟩
  obtain ⟨q1, hq1⟩ : ∃ q1 : Nat, q1 = 1 + q := ⟨_, rfl⟩
  rw [show (1 + size % 97).toNat = q1 from by omega]
  have hct : ∀ W, Calls Tryz.prog 36 #[.string s, .int .i64 (1 + (q : Int))] W (CutPost s q1 W) := fun W => by
    have h := cut_any s (by omega) q1 (by omega) W
    rwa [show (q1 : Int) = 1 + (q : Int) from by omega] at h
  have h9 : IntKind.i64.wrap (1 + (q : Int)) = 1 + (q : Int) := by rw [IntKind.wrap_i64]; omega
  have hwr := fun W => wrapped_any size 97 hsz (by omega) W
  rw [hq] at hwr
  have HCT := Lib.hid hct
  have HWR := Lib.hid hwr
  have HQ1 := Lib.hid hq1
  clear hct hwr hq hq1 hsz
  unfold OfParts
  obtain ⟨wA, hA⟩ : ∃ wA, wA = ((w.alloc (.cells (actC wh f kd off n size xl s) 41)).alloc (.cells (bookC (.slice a0 n0 k0) (.slice a1 n1 k1) (.slice a2 n2 k2) z0 z1) 38)).alloc (.cells call0 44) := ⟨_, rfl⟩
  have bA : Blk wA w.heap.size 41 (actC wh f kd off n size xl s) := by rw [hA]; exact (by (repeat' (first | (with_reducible assumption) | exact Blk.new' (by simp) | refine Blk.alloc ?_ _)))
  have bB : Blk wA (w.heap.size + 1) 38 (bookC (.slice a0 n0 k0) (.slice a1 n1 k1) (.slice a2 n2 k2) z0 z1) := by rw [hA]; exact (Blk.new' (by simp)).alloc _
  have bC : Blk wA (w.heap.size + 1 + 1) 44 call0 := by rw [hA]; exact (by (repeat' (first | (with_reducible assumption) | exact Blk.new' (by simp) | refine Blk.alloc ?_ _)))
  have BA : Below w.heap.size w wA := by rw [hA]; (repeat' (first | (with_reducible exact Below.refl _ _) | (with_reducible assumption) | (with_reducible refine Below.alloc ?_ ?_ _) | (with_reducible refine Below.drew ?_) | (with_reducible refine below_drewN' ?_ _) | (with_reducible refine Below.setCell ?_ ?_ _) | (with_reducible exact Nat.le_refl _) | omega | (simp; done) | (simp; omega)))
  have hzA : wA.heap.size = w.heap.size + 1 + 1 + 1 := by rw [hA]; simp
  have h1 : f.tmod 2 = 1 := by rw [← hf2]; exact Int.tmod_eq_emod_of_nonneg hf.1
  have g1 : wh.tmod 8 = 6 := by rw [← hw8]; exact Int.tmod_eq_emod_of_nonneg hwh.1
  have hS : ∀ W, Blk W w.heap.size 41 (actC wh f kd off n size xl s) → Blk W (w.heap.size + 1) 38 (bookC (.slice a0 n0 k0) (.slice a1 n1 k1) (.slice a2 n2 k2) z0 z1) → W.cell? ⟨w.heap.size, 0, none⟩ = some (.int .u8 wh) ∧ W.cell? ⟨w.heap.size, 7, none⟩ = some (.string s) ∧ W.cell? ⟨w.heap.size + 1, 1, none⟩ = some (.slice a1 n1 k1) ∧ W.cell? ⟨w.heap.size + 1, 2, none⟩ = some (.slice a2 n2 k2) ∧ W.cell? ⟨w.heap.size, 5, none⟩ = some (.int .i64 size) := fun W b1 b2 => ⟨(b1.cells 0).trans rfl, (b1.cells 7).trans rfl, (b2.cells 1).trans rfl, (b2.cells 2).trans rfl, (b1.cells 5).trans rfl⟩
  have HS := Lib.hid hS
  have cA := bA.cells
  have lA := bA.lt
  have cB := bB.cells
  have lB := bB.lt
  have HZA := Lib.hid hzA
  clear hS hf hwh hw8 hf2 hzA
  go_enter Tryz.func11, Tryz.ntmps11
  go_wp2_with fail
  rw [← hA]
  clear hA
  go_wp2_with fail
  clear cA lA cB lB
  refine wp_region_mix [.take 0, .take 1, .take 2, .take 3, .take 4, .take 5, .take 6, .take 7, .take 8, .take 9, .take 10, .take 11, .one 12, .one 13] 13 (fun W => W.cell? ⟨w.heap.size, 0, none⟩ = some (.int .u8 wh) ∧ W.cell? ⟨w.heap.size, 7, none⟩ = some (.string s) ∧ W.cell? ⟨w.heap.size + 1, 1, none⟩ = some (.slice a1 n1 k1) ∧ W.cell? ⟨w.heap.size + 1, 2, none⟩ = some (.slice a2 n2 k2) ∧ W.cell? ⟨w.heap.size, 5, none⟩ = some (.int .i64 size)) (by kernel_rfl) (by kernel_rfl) (fun _ _ _ _ _ h => h) (HS.out _ bA.drew bB.drew) ?_
  simp only [List.map_cons, List.map_nil, Ms.fill, List.getD_cons_zero, List.getD_cons_succ]
  iterate 12 (refine mixT_take (by rfl) ?_ (fun w' hw' => ?_) ?_; rotate_left; (focus (go_simp; (try with_reducible rfl))); (try simp only [Act.put, List.setIfInBounds_toArray, List.set_cons_zero, List.set_cons_succ]))
  obtain ⟨X0, hX0⟩ : ∃ X0, X0 = (wA.alloc (.cells call0 44)).drew := ⟨_, rfl⟩
  have bA0 : Blk X0 w.heap.size 41 (actC wh f kd off n size xl s) := by rw [hX0]; exact (bA.alloc _).drew
  have bB0 : Blk X0 (w.heap.size + 1) 38 (bookC (.slice a0 n0 k0) (.slice a1 n1 k1) (.slice a2 n2 k2) z0 z1) := by rw [hX0]; exact (bB.alloc _).drew
  have bC0 : Blk X0 (w.heap.size + 1 + 1) 44 call0 := by rw [hX0]; exact (bC.alloc _).drew
  have bK0 : Blk X0 wA.heap.size 44 call0 := by rw [hX0]; exact (Blk.new _ _ _).drew
  have BX0 : Below w.heap.size w X0 := by rw [hX0]; exact (BA.alloc BA.size _).drew
  refine mixT_step (by rfl) fun K hK => ?_
  go_simp
  rw [← hX0]
  refine hK _ _ (fun _ => HS.out _ bA0 bB0) ?_
  clear hK K hX0
  refine mixT_step (by rfl) fun K hK => ?_
  have hst := storeRow (ty := 44) (vs := (callC 6 8 z1 0 0 (.slice a1 n1 k1) s (.slice none 0 0))) bK0 rfl (by simp [Value.oneCell']) (by kernel_rfl)
  refine op_storeBy _ _ _ rfl _ _ rfl rfl hst ?_
  refine hK _ _ (fun h => absurd h (by decide)) ?_
  clear hK K
  refine mixT_nil ?_
  have hWA : wA.heap.size = w.heap.size + 1 + 1 + 1 := HZA.out
  obtain ⟨X, hX⟩ : ∃ X, X = X0.setRow wA.heap.size (callC 6 8 z1 0 0 (.slice a1 n1 k1) s (.slice none 0 0)) := ⟨_, rfl⟩
  have bAX : Blk X w.heap.size 41 (actC wh f kd off n size xl s) := by rw [hX]; exact (setRow_other _ _ _ _ (by omega)).trans bA0
  have bBX : Blk X (w.heap.size + 1) 38 (bookC (.slice a0 n0 k0) (.slice a1 n1 k1) (.slice a2 n2 k2) z0 z1) := by rw [hX]; exact (setRow_other _ _ _ _ (by omega)).trans bB0
  have bCX : Blk X (w.heap.size + 1 + 1) 44 call0 := by rw [hX]; exact (setRow_other _ _ _ _ (by omega)).trans bC0
  have bKX : Blk X wA.heap.size 44 (callC 6 8 z1 0 0 (.slice a1 n1 k1) s (.slice none 0 0)) := by rw [hX]; exact bK0.setRow
  have BX : Below w.heap.size w X := by rw [hX]; exact Below.setRow BX0 (by omega) _
  rw [← hX]
  have hKC : w.heap.size + 1 + 1 ≠ wA.heap.size := by omega
  have hKA : w.heap.size ≠ wA.heap.size := by omega
  have hKB : w.heap.size + 1 ≠ wA.heap.size := by omega
  have hKL : w.heap.size ≤ wA.heap.size := by omega
  clear hX hst bA0 bB0 bC0 bK0 BX0 bA bB bC BA hWA HZA
  generalize wA.heap.size = CB at *
  have cK := bKX.cells
  have lK := bKX.lt
  have fK := bKX.free
  have cA := bAX.cells
  have lA := bAX.lt
  go_wp2_with fail
  clear cA lA cK lK fK
  refine wp_region_mix [.take 0, .take 1, .take 2, .take 3, .take 4, .take 5, .take 6, .take 10, .one 7, .one 8, .one 9, .one 11, .take 12, .one 13, .take 14, .one 15] 16 (fun W => W.cell? ⟨w.heap.size, 0, none⟩ = some (.int .u8 wh) ∧ W.cell? ⟨w.heap.size, 7, none⟩ = some (.string s) ∧ W.cell? ⟨w.heap.size + 1, 1, none⟩ = some (.slice a1 n1 k1) ∧ W.cell? ⟨w.heap.size + 1, 2, none⟩ = some (.slice a2 n2 k2) ∧ W.cell? ⟨w.heap.size, 5, none⟩ = some (.int .i64 size)) (by kernel_rfl) (by kernel_rfl) (fun _ _ _ _ _ h => h) (HS.out _ bAX.drew bBX.drew) ?_
  simp only [List.map_cons, List.map_nil, Ms.fill, List.getD_cons_zero, List.getD_cons_succ]
  iterate 8 (refine mixT_take (by rfl) ?_ (fun w' hw' => ?_) ?_; rotate_left; (focus (go_simp; (try with_reducible rfl))); (try simp only [Act.put, List.setIfInBounds_toArray, List.set_cons_zero, List.set_cons_succ]))
  refine mixT_step (by rfl) fun K hK => ?_
  go_simp
  refine (HWR.out _).mono ?_
  rintro e X' ⟨rfl, hX'⟩
  replace hX' := hX'.symm
  subst hX'
  refine hK _ _ (fun _ => HS.out _ bAX.drew bBX.drew) ?_
  clear hK K
  refine mixT_step (by rfl) fun K hK => ?_
  go_simp
  refine hK _ _ (fun _ => HS.out _ bAX.drew bBX.drew) ?_
  clear hK K
  refine mixT_step (by rfl) fun K hK => ?_
  go_simp
  have hcx := HCT.out X.drew
  refine Calls.mono hcx ?_
  clear hcx
  rintro e Z ⟨hbZ, kk, pv0, rfl, m1, m2, m3, hoZ⟩
  obtain ⟨Ap, cp, rfl⟩ := own_slice hoZ
  have bAZ := bAX.drew.belowAll hbZ
  have bBZ := bBX.drew.belowAll hbZ
  have bCZ := bCX.drew.belowAll hbZ
  have bKZ := bKX.drew.belowAll hbZ
  have BZ := BX.drew.trans (hbZ.mono BX.drew.size)
  have lCB : CB < X.heap.size := bKX.lt
  have hoF : ∀ q0, (Value.slice Ap (kk + 1) cp).ownBlock = some q0 → q0 ≠ CB := fun q0 h0 => by have := (own_lt hoZ q0 h0).1; have h2 : X.drew.heap.size = X.heap.size := rfl; omega
  have hoC : ∀ q0, (Value.slice Ap (kk + 1) cp).ownBlock = some q0 → q0 ≠ w.heap.size + 1 + 1 := fun q0 h0 => by have := (own_lt hoZ q0 h0).1; have := bCX.lt; have h2 : X.drew.heap.size = X.heap.size := rfl; omega
  have hoW := own_base hoZ BX.drew.size
  refine hK _ _ (fun _ => HS.out _ bAZ bBZ) ?_
  have HM := Lib.hid (And.intro m1 (And.intro m2 m3))
  clear hK K bAX bBX bCX bKX BX hbZ hoZ lCB m1 m2 m3 HWR HCT
  have cK := bKZ.cells
  have lK := bKZ.lt
  have fK := bKZ.free
  refine mixT_step (by rfl) fun K hK => ?_
  go_simp
  refine hK _ _ (fun _ => HS.out _ (bAZ.far (p := ⟨CB, 1, none⟩) hKA _) (bBZ.far (p := ⟨CB, 1, none⟩) hKB _)) ?_
  clear hK K
  (refine mixT_take (by rfl) ?_ (fun w' hw' => ?_) ?_; rotate_left; (focus (go_simp; (try with_reducible rfl))); (try simp only [Act.put, List.setIfInBounds_toArray, List.set_cons_zero, List.set_cons_succ]))
  refine mixT_step (by rfl) fun K hK => ?_
  go_simp
  refine hK _ _ (fun _ => HS.out _ ((bAZ.far (p := ⟨CB, 1, none⟩) hKA _).far (p := ⟨CB, 5, none⟩) hKA _) ((bBZ.far (p := ⟨CB, 1, none⟩) hKB _).far (p := ⟨CB, 5, none⟩) hKB _)) ?_
  clear hK K
  (refine mixT_take (by rfl) ?_ (fun w' hw' => ?_) ?_; rotate_left; (focus (go_simp; (try with_reducible rfl))); (try simp only [Act.put, List.setIfInBounds_toArray, List.set_cons_zero, List.set_cons_succ]))
  refine mixT_step (by rfl) fun K hK => ?_
  go_simp
  refine hK _ _ (fun _ => HS.out _ (((bAZ.far (p := ⟨CB, 1, none⟩) hKA _).far (p := ⟨CB, 5, none⟩) hKA _).far (p := ⟨CB, 7, none⟩) hKA _) (((bBZ.far (p := ⟨CB, 1, none⟩) hKB _).far (p := ⟨CB, 5, none⟩) hKB _).far (p := ⟨CB, 7, none⟩) hKB _)) ?_
  clear hK K
  refine mixT_nil ?_
  have b2 : Blk (((Z.setCell ⟨CB, 1, none⟩ (.int .i64 7)).setCell ⟨CB, 5, none⟩ (.slice a2 n2 k2)).setCell ⟨CB, 7, none⟩ (.slice Ap (kk + 1) cp)) CB 44 (callC 6 7 z1 0 0 (.slice a2 n2 k2) s (.slice Ap (kk + 1) cp)) := ((bKZ.set_ 1 (.int .i64 7)).set_ 5 (.slice a2 n2 k2)).set_ 7 (.slice Ap (kk + 1) cp)
  have r2 : Blk (((Z.setCell ⟨CB, 1, none⟩ (.int .i64 7)).setCell ⟨CB, 5, none⟩ (.slice a2 n2 k2)).setCell ⟨CB, 7, none⟩ (.slice Ap (kk + 1) cp)) (w.heap.size + 1 + 1) 44 call0 := ((bCZ.far (p := ⟨CB, _, none⟩) hKC _).far (p := ⟨CB, _, none⟩) hKC _).far (p := ⟨CB, _, none⟩) hKC _
  have B2 : Below w.heap.size w (((Z.setCell ⟨CB, 1, none⟩ (.int .i64 7)).setCell ⟨CB, 5, none⟩ (.slice a2 n2 k2)).setCell ⟨CB, 7, none⟩ (.slice Ap (kk + 1) cp)) := ((BZ.setCell (p := ⟨CB, 1, none⟩) hKL _).setCell (p := ⟨CB, 5, none⟩) hKL _).setCell (p := ⟨CB, 7, none⟩) hKL _
  have ho2 : (((Z.setCell ⟨CB, 1, none⟩ (.int .i64 7)).setCell ⟨CB, 5, none⟩ (.slice a2 n2 k2)).setCell ⟨CB, 7, none⟩ (.slice Ap (kk + 1) cp)).ownsRow w.heap.size 9 1 (.slice Ap (kk + 1) cp) (kk + 1) ((piecesL s q1 kk ++ [restN s q1 kk]).map .string) := own_block hoW fun q0 h0 => (Below.heap_setCell _ _ _ _ (hoF q0 h0)).trans ((Below.heap_setCell _ _ _ _ (hoF q0 h0)).trans (Below.heap_setCell _ _ _ _ (hoF q0 h0)))
  obtain ⟨V2, hV2⟩ : ∃ V2, V2 = (((Z.setCell ⟨CB, 1, none⟩ (.int .i64 7)).setCell ⟨CB, 5, none⟩ (.slice a2 n2 k2)).setCell ⟨CB, 7, none⟩ (.slice Ap (kk + 1) cp)) := ⟨_, rfl⟩
  rw [← hV2] at b2 r2 B2 ho2 ⊢
  have HST := storeRow (ty := 44) (vs := callC 6 7 z1 0 0 (.slice a2 n2 k2) s (.slice Ap (kk + 1) cp)) r2 rfl (by simp [Value.oneCell']) (by kernel_rfl)
  have lR := r2.lt
  have c2 := b2.cells
  have l2 := b2.lt
  clear hV2 lK fK cK
  go_wp2_with (refine wpList_storeBy rfl _ _ _ rfl _ _ rfl rfl HST ?_)
  have cF := (r2.setRow (cs' := callC 6 7 z1 0 0 (.slice a2 n2 k2) s (.slice Ap (kk + 1) cp))).cells
  refine bodyPost_ret (v := .agg (callC 6 7 z1 0 0 (.slice a2 n2 k2) s (.slice Ap (kk + 1) cp))) (by simp [results, Tryz.results11, go_sem, cF]) rfl ?_
  exact ⟨Below.setRow B2 (by omega) _, kk, _, rfl, HM.out.1, HM.out.2.1, HM.out.2.2, own_block ho2 fun q0 h0 => setRow_other _ _ _ _ (hoC q0 h0)⟩

end Go.Proofs.YtljmdcegcckblaaGreatDoor
