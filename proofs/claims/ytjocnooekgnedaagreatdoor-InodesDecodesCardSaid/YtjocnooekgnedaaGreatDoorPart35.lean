/- Layer 11: slices.Concat of two lists of numbers. -/
import Derived.Test.YtjocnooekgnedaaGreatDoorPart34
import Derived.Test.YtjocnooekgnedaaGreatDoorPart24
set_option linter.unusedVariables false
set_option linter.unusedSimpArgs false
namespace Go.Proofs.YtjocnooekgnedaaGreatDoor
open Go.RowKit Go.Maps Go.Shelf

theorem Tryz.infoI : (Tryz.prog.info? 3).map (fun i => (i.zero, i.size, i.bytes)) = some (some (.int .i64 0), 1, 8) := by kernel_rfl
theorem grow_nil (n : Nat) (hn : n ≤ 10000) (w : World) :
    Calls Tryz.prog 63 #[.slice none 0 0, .int .i64 n] w fun e w' => ∃ v, e = .returned v ∧ w'.ownsRow w.heap.size 3 1 v 0 [] ∧ Below w.heap.size w w' := by
  obtain ⟨i0, hi, hz0, hz1, hz2⟩ := info_parts Tryz.infoI
  by_cases h0 : n = 0
  · subst h0
    refine (Any8.slices_Grow_room Tryz.growInts none 0 0 0 w (by omega) (by omega) (by omega) (by omega)).mono ?_
    rintro e w' ⟨rfl, rfl⟩
    exact ⟨_, rfl, World.ownsRow_nil _ _ _ _, Below.refl _ _⟩
  · refine (Any8.slices_Grow_grow Tryz.growInts i0 (.int .i64 0) hi hz0 (by rw [hz1]; decide) none 0 0 n [] w (by omega) (by omega) (by rw [hz2]; omega) (by omega) (by simp) (fun _ => rfl) (fun a h => by cases h)).mono ?_
    rintro e w' ⟨rfl, rfl⟩
    have h1 := grownCap_ge w (0 + n) 0 3
    have h2 := grownCap_le_maxLen w (0 + n) 0 3 (by unfold maxLen; omega)
    refine ⟨_, rfl, World.ownsRow_made w.drew _ _ (Nat.le_refl _) h2 ?_, ((Below.refl _ _).drew).alloc (Nat.le_refl _) _⟩
    simp only [Array.size_append, size_zeroCells]
    show 0 + (0 + n - 0) * 1 + (grownCap w (0 + n) 0 3 - (0 + n)) * 1 = grownCap w (0 + n) 0 3 * 1
    omega

set_option maxRecDepth 100000 in
set_option maxHeartbeats 2000000 in
theorem concat_two (P : Nat) (A B : Option Addr) (c d : Nat) (xs ys : List Int) (hx : xs.length ≤ 1000) (hy : ys.length ≤ 1000) (w : World) (bP : Blk w P 24 #[.slice A xs.length c, .slice B ys.length d]) (hA : Reads w A (xs.map (.int .i64))) (hB : Reads w B (ys.map (.int .i64))) (nA : A = none → xs.length = 0) (nB : B = none → ys.length = 0) :
    Calls Tryz.prog 35 #[.slice (some ⟨P, 0, none⟩) 2 2] w fun e w' => ∃ v, e = .returned v ∧ w'.ownsRow w.heap.size 3 1 v (xs.length + ys.length) ((xs ++ ys).map (.int .i64)) ∧ Below w.heap.size w w' := by
  obtain ⟨i0, hi, hz0, hz1, hz2⟩ := info_parts Tryz.infoI
  have cP := bP.cells
  have lP := bP.lt
  have HP := Lib.hid lP
  have m1 : IntKind.i64.wrap (xs.length : Int) = xs.length := by rw [IntKind.wrap_i64]; omega
  have m2 : IntKind.i64.wrap ((xs.length : Int) + ys.length) = (xs.length : Int) + ys.length := by rw [IntKind.wrap_i64]; omega
  have d1 : ¬ ((xs.length : Int) + ys.length) < 0 := by omega
  have u1 : wrap64 1 = 1 := by unfold wrap64; decide
  have u2 : wrap64 2 = 2 := by unfold wrap64; decide
  have hg := grow_nil (xs.length + ys.length) (by omega) w
  rw [Int.natCast_add] at hg
  go_enter Tryz.func35, Tryz.ntmps35
  go_wp2_with fail
  refine wp_loop_rounds 3 ?_
  rw [rounds_succ]
  go_wp2_with fail
  rw [rounds_succ]
  go_wp2_with fail
  rw [rounds_succ]
  go_wp2_with fail
  refine hg.mono ?_
  rintro e w1 ⟨v, rfl, ho, hb1⟩
  obtain ⟨Av, cv, rfl⟩ := own_slice ho
  have bP1 := bP.belowAll hb1
  have cP := bP1.cells
  have lP := bP1.lt
  have hz := hb1.size
  have HB := Lib.hid bP1
  clear hg bP bP1
  go_wp2_with fail
  refine wp_loop_rounds 3 ?_
  rw [rounds_succ]
  go_wp2_with (at_builtin; refine wpList_append_any _ rfl (.tmp 31) (.tmp 32) _ rfl w.heap.size 3 i0 (.int .i64 0) 8 Tryz.underlying24 hi hz0 hz1 hz2 rfl _ 0 [] rfl ho A xs.length c (xs.map (.int .i64)) rfl (by simp) nA (hA.below hb1) (by simp [Value.oneCell']) (by simp only [maxLen]; omega) (by omega) hz ?_; intro v1 w2 hown1 hg1 hat1; rw [Nat.zero_add, List.nil_append] at hown1; obtain ⟨A2, c2, rfl⟩ := own_slice hown1)
  have hl0 := ho.lt
  have bP2 := HB.out.grown hg1 (fun e => by have := (ho.lt P e.symm).1; have := lP; have := HP.out; omega)
  have b2 : Below w.heap.size w w2 := hb1.grown hg1 hz (fun q hq => (ho.lt q hq).1)
  have cP := bP2.cells
  have lP := bP2.lt
  have hz2' := b2.size
  clear hg1 hat1 ho hl0
  rw [rounds_succ]
  go_wp2_with (at_builtin; refine wpList_append_any _ rfl (.tmp 31) (.tmp 32) _ rfl w.heap.size 3 i0 (.int .i64 0) 8 Tryz.underlying24 hi hz0 hz1 hz2 rfl _ xs.length _ rfl hown1 B ys.length d (ys.map (.int .i64)) rfl (by simp) nB (hB.below b2) (by simp [Value.oneCell']) (by simp only [maxLen]; omega) (by omega) hz2' ?_; intro v2 w3 hown2 hg2 hat2; obtain ⟨A3, c3, rfl⟩ := own_slice hown2)
  have b3 : Below w.heap.size w w3 := b2.grown hg2 hz2' (fun q hq => (hown1.lt q hq).1)
  clear hg2 hat2
  rw [rounds_succ]
  go_wp2_with fail
  go_ret
  exact ⟨_, rfl, by simpa using hown2, b3⟩
end Go.Proofs.YtjocnooekgnedaaGreatDoor
