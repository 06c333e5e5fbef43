/- Parts of the proof, put together by program: TB, TR, NP, NQ, TE. -/
import Derived.Test.YtfgfdjaiamaelaaGreatDoorPart41
import Derived.Test.YtfgfdjaiamaelaaGreatDoorRows
import Derived.Test.YtfgfdjaiamaelaaGreatDoorCards
import Derived.Test.YtfgfdjaiamaelaaGreatDoorTie
import Derived.ProofKit
import Derived.Lib.LaidTab
import Derived.Lib.SmallJoins
import Derived.LaidMore
import Derived.OpenShut
import Derived.Stop.Joined
import Derived.SevenTiedAt
import Derived.Test.YtfgfdjaiamaelaaGreatDoorPart02
import Derived.Test.YtfgfdjaiamaelaaGreatDoorProg
import Derived.Deep.Slices
import Derived.Test.YtfgfdjaiamaelaaGreatDoorPart09
import Derived.BigQuiet
/- The laws of layer 10: a device that was formatted, and a transaction on it; the example, walked. -/
namespace Go.Proofs.YtfgfdjaiamaelaaGreatDoor
open Go.RowKit Go.Maps

theorem commit_cache {x : DevS} {F Z : Int} {l : List Rec} (h : (x.commit F Z l).1 = 0) : (x.commit F Z l).2.cache = [] := by
  unfold DevS.commit at h ⊢
  by_cases h1 : (x.log F Z l).1 ≠ 0
  · rw [if_pos h1] at h; exact absurd h h1
  · rw [if_neg h1] at h ⊢
    by_cases h2 : ((x.log F Z l).2.apply F Z).2.1 ≠ 0
    · rw [if_pos h2] at h; exact absurd h h2
    · rw [if_neg h2] at h ⊢
      exact (clear_taken h).2
theorem tfmt_cache {x : DevS} {s j i : Int} (h : (x.tfmt s j i).1 = 0) : (x.tfmt s j i).2.cache = [] := by
  unfold DevS.tfmt at h ⊢
  by_cases h1 : findE x.stable.length s j i ≠ 0
  · rw [if_pos h1] at h; exact absurd h h1
  · rw [if_neg h1] at h ⊢
    by_cases h2 : (x.jfmt 1 j).1 ≠ 0
    · rw [if_pos h2] at h; exact absurd h h2
    · rw [if_neg h2] at h ⊢
      exact commit_cache h

theorem yA_beg : yA = begTx 64 8 40 (List.replicate 14 false) := rfl
theorem rg64 : rgE 64 8 40 = 0 := by decide
theorem rgB64 : (rgB 64 8 40).toNat = 14 := by decide
theorem yA_clean : yA.Clean := begTx_clean (by decide) _

set_option maxRecDepth 100000 in
theorem plain_any (w : World) : Calls Tryz.prog 18 #[] w fun e w' => e = .returned (.agg #[.int .i64 64, .int .i64 8, .int .i64 40]) ∧ Below w.heap.size w w' := by
  obtain ⟨wA, hA⟩ : ∃ wA, wA = w.alloc (.cells #[.int .i64 64, .int .i64 8, .int .i64 40] 45) := ⟨_, rfl⟩
  have bR : Blk wA w.heap.size 45 #[.int .i64 64, .int .i64 8, .int .i64 40] := by rw [hA]; exact (by (repeat' (first | (with_reducible assumption) | exact Blk.new' (by simp) | refine Blk.alloc ?_ _)))
  have BA : Below w.heap.size w wA := by rw [hA]; (repeat' (first | (with_reducible exact Below.refl _ _) | (with_reducible assumption) | (with_reducible refine Below.alloc ?_ ?_ _) | (with_reducible refine Below.drew ?_) | (with_reducible refine below_drewN' ?_ _) | (with_reducible refine Below.setCell ?_ ?_ _) | (with_reducible exact Nat.le_refl _) | omega | (simp; done) | (simp; omega)))
  go_enter Tryz.func18, Tryz.ntmps18
  go_wp2_with fail
  rw [← hA]
  clear hA
  have cF := bR.cells
  refine bodyPost_ret (v := .agg #[.int .i64 64, .int .i64 8, .int .i64 40]) (by simp [results, Tryz.results18, go_sem, cF]) rfl ?_
  exact ⟨rfl, BA⟩

/-- What begun hands back: a device and a transaction. -/
def BegunAt (w : World) (e : Ending) (w' : World) : Prop :=
  ∃ D T F B y, e = .returned (.tuple #[.pointer (some ⟨D, 0, none⟩), .pointer (some ⟨T, 0, none⟩)]) ∧ Fresh y 64 8 40 1000000 ∧ y.cache = [] ∧ Play w w' T F D yA B y

set_option maxRecDepth 100000 in
set_option maxHeartbeats 2000000 in
theorem begun10_any (w : World) (hH : HalfAt w) : Calls Tryz.prog 9 #[] w (BegunAt w) := by
  obtain ⟨y, hy, hF⟩ := format_fresh rg64 1000000 (by omega)
  rw [show ((64 : Int).toNat) = 64 from rfl] at hy
  have hcache : y.cache = [] := by have h := tfmt_cache (x := newDev 64) (s := 64) (j := 8) (i := 40) (by rw [hy]); rw [hy] at h; exact h
  obtain ⟨hb1, hb2, hb3⟩ := begin_fresh rg64 hF
  have hnew := new_dev 64 (by omega) w hH
  have hp0 := hH.1
  unfold BegunAt
  go_enter Tryz.func9, Tryz.ntmps9
  go_wp2_with fail
  refine hnew.mono ?_
  rintro e w1 ⟨D, B0, rfl, hd1, hw1, hB0⟩
  clear hnew hH
  go_wp2_with fail
  refine (plain_any w1).mono ?_
  rintro e w2 ⟨rfl, hb12⟩
  have B2 := hw1.trans (hb12.mono hw1.size)
  have hd2 := hd1.below hb12
  clear hd1 hw1 hb12
  go_wp2_with fail
  refine (tformat_dev D 64 8 40 B0 (newDev 64) w2 hd2).mono ?_
  rintro e w3 ⟨rfl, B, hd3, g3⟩
  rw [hy] at hd3 ⊢
  have B3 : Below w.heap.size w w3 := B2.trans (g3.below B2.size hB0)
  have hBB := g3.lo B2.size hB0
  have Hb1 := Lib.hid hb1
  have Hb2 := Lib.hid hb2
  have HF := Lib.hid hF
  have HC := Lib.hid hcache
  clear hy hb1 hb2 hF hcache hd2 g3 B2 hB0
  go_wp2_with fail
  refine (plain_any w3).mono ?_
  rintro e w4 ⟨rfl, hb4⟩
  have B4 := B3.trans (hb4.mono B3.size)
  have hd4 := hd3.below hb4
  clear hd3 B3 hb4
  go_wp2_with fail
  refine (begin_dev D 64 8 40 B y w4 hd4 hb3).mono ?_
  rintro e w5 ⟨hb5, E, hE, ⟨h5, -⟩ | ⟨-, T, F, rfl, ht, hFF⟩⟩
  · exact absurd ((Hb1.out E).1 hE) h5
  rw [Hb2.out] at ht
  have B5 := B4.trans (hb5.mono B4.size)
  have hd5 := hd4.below hb5
  have hlt := hd4.lt
  clear hb5 hE
  go_wp2_with fail
  go_ret2
  exact ⟨D, T, F, B, y, rfl, HF.out, HC.out, ⟨⟨ht, hd5, fun b hb hm => by have := hFF b hb; have := (hlt b hm).2; omega⟩, B5, fun b hb => by have := hFF b hb; have := B4.size; omega, hBB⟩⟩

/-! The example. -/
theorem awk_left : CountN 64 8 40 yA.may = 14 ∧ CountN 64 8 40 kT2.may = 11 := by decide +kernel
theorem kT1_clean : kT1.Clean := yA_clean.take _ _
theorem kT2_clean : kT2.Clean := kT1_clean.write _ _ _

set_option maxRecDepth 100000 in
set_option maxHeartbeats 4000000 in
theorem awake10_any (w : World) (hH : HalfAt w) : Calls Tryz.prog 19 #[] w fun e w' => e = .returned (.bool true) ∧ Below w.heap.size w w' := by
  have hbg := begun10_any w hH
  obtain ⟨a1, a2, a3, a4, a5, a6, a7, a8, a9, -, -, a12, a13⟩ := awk_plain
  obtain ⟨c1, c2⟩ := awk_left
  go_enter Tryz.func19, Tryz.ntmps19
  go_wp2_with fail
  refine hbg.mono ?_
  rintro e w1 ⟨D, T, F1, B, x, rfl, hF, -, h1⟩
  have hL := hF.live
  have f1 := left_tx T F1 D yA w1 h1.td.tx rfl
  rw [show CountN yA.s yA.j yA.i yA.may = 14 from c1, a8] at f1
  clear hbg hH
  go_wp2_with fail
  refine f1.mono ?_
  rintro e w2 ⟨rfl, hb2⟩
  have h2 := h1.below hb2
  have f2 := play_take h2 12 3
  rw [a1, a2] at f2
  clear f1 hb2 h1
  go_wp2_with fail
  refine f2.mono ?_
  rintro e w3 ⟨A3, cc3, rfl, F3, h3, -, k3⟩
  have f3 := play_write (y := kT1) h3 50 8 ⟨#[97, 98]⟩ (by omega) (by decide)
  rw [a3] at f3
  clear f2 h2
  go_wp2_with fail
  refine f3.mono ?_
  rintro e w4 ⟨rfl, F4, h4, g4⟩
  have k4 := k3.grow g4
  have r4 : kT2.read x 50 = (8, ⟨#[97, 98]⟩, 0) := by
    unfold TxS.read TxS.readR
    rw [if_neg (by rw [a7]; decide), if_neg (by decide), a4]
  have f4 := play_read (y := kT2) h4 50
  rw [r4] at f4
  clear f3 h3 k3 g4
  go_wp2_with fail
  refine f4.mono ?_
  rintro e w5 ⟨rfl, hb5⟩
  have h5 := Play.below (y := kT2) h4 hb5
  have k5 := k4.below hb5
  have f5 := left_tx T F4 D kT2 w5 h5.td.tx a7
  rw [show CountN kT2.s kT2.j kT2.i kT2.may = 11 from c2, a9] at f5
  clear f4 hb5 h4 k4 r4
  go_wp2_with fail
  refine f5.mono ?_
  rintro e w6 ⟨rfl, hb6⟩
  have h6 := h5.below hb6
  have k6 := k5.below hb6
  obtain ⟨x', hcm, hL', hw, -⟩ := commit_live (x := x) (y := kT2) (N := 1000) h6.td.tx.ok kT2_clean (hL.mono (by omega)) (fun h => by rw [a6] at h; cases h)
  have f6 := play_commit (y := kT2) h6 kT2_clean a7 hcm
  obtain ⟨hr1, q, hr2⟩ := hw ⟨50, 8, ⟨#[97, 98]⟩⟩ (by rw [a5]; simp)
  clear f5 hb6 h5 k5 hw hL hF
  go_wp2_with fail
  refine f6.mono ?_
  rintro e w7 ⟨rfl, B7, h7, g7⟩
  have k7 := k6.grow g7
  clear f6 h6 k6 g7
  go_wp2_with fail
  refine (plain_any w7).mono ?_
  rintro e w8 ⟨rfl, hb8⟩
  have h8 := h7.below hb8
  have k8 := k7.below hb8
  have f8 := play_begin h8 rg64 hL'
  clear h7 k7 hb8
  go_wp2_with fail
  refine f8.mono ?_
  rintro e w9 ⟨U, F9, rfl, h9, g9⟩
  have k9 := k8.grow g9
  replace h9 : Play w w9 U F9 D kU B7 x' := h9
  have r9 : kU.read x' 50 = (8, ⟨#[97, 98]⟩, 0) := by
    unfold TxS.read TxS.readR
    rw [if_neg (by decide), if_neg (by decide), show kU.look 50 = none from rfl]
    show ((x'.fr 50).kind, (x'.fr 50).data, x'.ge 50) = _
    rw [hr1, hr2]
  have HR := Lib.hid r9
  clear f8 h8 k8 g9 hr1 hr2 r9 hcm hL'
  obtain ⟨wS, hS⟩ : ∃ wS, wS = w9.alloc (.cells #[.int .i64 12, .int .i64 13, .int .i64 0] 3) := ⟨_, rfl⟩
  have bS : Below w9.heap.size w9 wS := by rw [hS]; (repeat' (first | (with_reducible exact Below.refl _ _) | (with_reducible assumption) | (with_reducible refine Below.alloc ?_ ?_ _) | (with_reducible refine Below.drew ?_) | (with_reducible refine below_drewN' ?_ _) | (with_reducible refine Below.setCell ?_ ?_ _) | (with_reducible exact Nat.le_refl _) | omega | (simp; done) | (simp; omega)))
  have rS : Reads wS (some ⟨w9.heap.size, 0, none⟩) ([12, 13, 0].map (.int .i64)) := by
    have := Blk.new w9 3 #[.int .i64 12, .int .i64 13, .int .i64 0]
    rw [← hS] at this
    exact .inr ⟨_, 0, rfl, this.lt, fun k u hu => by rw [Nat.zero_add]; exact (this.cells k).trans (by simpa using hu)⟩
  have h10 := h9.below bS
  have fS : Calls Tryz.prog 57 #[.slice A3 3 cc3, .slice (some ⟨w9.heap.size, 0, none⟩) 3 3] wS fun e w' => e = .returned (.bool true) ∧ Below wS.heap.size wS w' := by
    simpa using sameInts_any A3 (some ⟨w9.heap.size, 0, none⟩) cc3 3 [12, 13, 0] [12, 13, 0] (by simp) (by simp) wS (k9.below bS).sl.reads rS
  have HS := Lib.hid hS
  clear hS bS rS k9 h9
  go_wp2_with fail
  rw [← HS.out]
  refine fS.mono ?_
  rintro e w11 ⟨rfl, hb11⟩
  have h11 := h10.below hb11
  have f11 := play_read h11 50
  rw [HR.out] at f11
  clear fS HS hb11 h10
  go_wp2_with fail
  refine f11.mono ?_
  rintro e w12 ⟨rfl, hb12⟩
  have h12 := h11.below hb12
  have f12 := play_write h12 3 8 ⟨#[]⟩ (by omega) (by decide)
  rw [a12] at f12
  clear f11 h11 hb12
  go_wp2_with fail
  refine f12.mono ?_
  rintro e w13 ⟨rfl, F13, h13, -⟩
  have f13 := play_free h13 none 0 [] (by simp) Reads.nil
  rw [a13] at f13
  clear f12 h12
  go_wp2_with fail
  refine f13.mono ?_
  rintro e w14 ⟨rfl, F14, h14, -⟩
  have f14 := play_abort h14 (by decide +kernel)
  clear f13 h13
  go_wp2_with fail
  refine f14.mono ?_
  rintro e w15 ⟨rfl, F15, h15, -⟩
  have f15 := abort_ended U F15 D _ w15 h15.td.tx rfl
  clear f14 h14
  go_wp2_with fail
  refine f15.mono ?_
  rintro e w16 ⟨rfl, rfl⟩
  have B16 := h15.bl
  clear f15 h15
  go_wp2_with fail
  go_ret
  exact ⟨rfl, B16⟩
end Go.Proofs.YtfgfdjaiamaelaaGreatDoor
/- The laws of layer 10: what all their rows share. -/
namespace Go.Proofs.YtfgfdjaiamaelaaGreatDoor
open Go.ChangeShapes Go.WideShapes Go.ChangeAt Go.RowKit Go.Joins

theorem Tryz.own : ownKnob Tryz.prog.godebug = none := by kernel_rfl
theorem Tryz.laidOut : laidOutB Tryz.prog = true := by kernel_rfl
theorem gHalf : Tryz.prog.globalNamed "limewash/sums.half" = some 0 := by kernel_rfl
def half1 : List (String × DataW Unit) := [("limewash/sums.half", Rows.laid_limewash_sums_half)]

/-- The heap that the program's start leaves meets the condition. -/
theorem door_met (os : Os) (args : Array Value) : laidMetH Tryz.prog half1 ((World.doorLaid Tryz.prog 400 os).forCall (fun _ _ => 0) ⟨#[], args, []⟩).memory :=
  laidMetH_of_parts3 (fuel := 8) (laidMet_of_run' 8 (by kernel_rfl) (by kernel_rfl)) (by kernel_rfl) (by kernel_rfl)

theorem gHalfType : (Tryz.prog.globals[0]?).map (·.type) = some 230 := by kernel_rfl
theorem half_of_laid {W : World} (h : laidMetH Tryz.prog half1 W) : HalfAt W := by
  rw [MakeChecks.laidMetH_plain _ _ _ (by kernel_rfl)] at h
  have hT : Lib.TabIs Tryz.prog W "limewash/sums.half" .u32 halfL := Lib.tabIs_of_head (n := 16) (e := 106) gHalf gHalfType (by kernel_rfl) (by kernel_rfl) (by kernel_rfl) (by kernel_rfl) h
  have hc : ∀ j, j < 16 → W.cell? ⟨0, j, none⟩ = some (.int .u32 (halfL.getD j 0)) := fun j hj => hT.cell gHalf j hj
  exact ⟨block_lt_of_cell (hc 0 (by omega)), hc⟩
end Go.Proofs.YtfgfdjaiamaelaaGreatDoor
/- Arguments opened: a slice of one-cell elements as a list. -/
namespace Go.Proofs.YtfgfdjaiamaelaaGreatDoor
open Go.ChangeShapes Go.WideShapes Go.ChangeAt Go.RowKit Go.Deep

theorem list_of {α : Type} (q : Nat → α → Prop) (n : Nat) (h : ∀ i, i < n → ∃ a, q i a) : ∃ xs : List α, xs.length = n ∧ ∀ i (hi : i < xs.length), q i xs[i] := by
  induction n with
  | zero => exact ⟨[], rfl, fun i hi => by simp at hi⟩
  | succ n ih =>
    obtain ⟨xs, hl, hx⟩ := ih (fun i hi => h i (by omega))
    obtain ⟨a, ha⟩ := h n (by omega)
    refine ⟨xs ++ [a], by simp [hl], fun i hi => ?_⟩
    by_cases hin : i < xs.length
    · rw [List.getElem_append_left hin]; exact hx i hin
    · have : i = n := by simp at hi; omega
      subst this
      rw [List.getElem_append_right (by omega)]
      simpa [hl] using ha

/-- A slice of one-cell elements that came in. -/
theorem open_cells {H : Type} {enc : TypeId × Value → H} {P : Program} {W : World} {α : Type} (mk : α → Value) {t e : TypeId} {fuel : Nat} {v : Value} {x : DataW H × List MemPlace} (ht : P.underlying t = some (.slice e)) (hC : P.cellsOf e = 1)
    (hel : ∀ n cs x, DataW.trod enc P W 0 (fun _ => true) true n e cs = some x → ∃ a, cs = [mk a])
    (h : DataW.trod enc P W 0 (fun _ => true) true fuel t [v] = some x) :
    ∃ (A : Option Addr) (n c : Nat) (xs : List α), v = .slice A n c ∧ xs.length = n ∧ Reads W A (xs.map mk) ∧ n ≤ c ∧ c ≤ maxLen ∧ (A = none → n = 0 ∧ c = 0) := by
  rcases open_slice ht h with ⟨h0, _⟩ | ⟨a, len, cap, m, n, D, Pl, hcs, hb, hl, hm, hmm, hx, hi⟩
  · simp only [List.cons.injEq, and_true] at h0
    subst h0
    exact ⟨none, 0, 0, [], rfl, rfl, Reads.nil, Nat.le_refl _, Nat.zero_le _, fun _ => ⟨rfl, rfl⟩⟩
  · simp only [List.cons.injEq, and_true] at hcs
    subst hcs
    simp only [if_true] at hmm
    have hat : ∀ i, i < len → ∃ u : α, W.cell? (a.add i) = some (mk u) := by
      intro i hi'
      obtain ⟨cs', hc, ht'⟩ := hi i (by omega)
      rw [hC, Nat.mul_one] at hc
      obtain ⟨u, rfl⟩ := hel n cs' _ ht'
      obtain ⟨_, _, hat⟩ := World.cells?_some hc
      have := hat 0 (by omega)
      refine ⟨u, ?_⟩
      simpa [Addr.add] using this
    obtain ⟨xs, hxl, hxs⟩ := list_of (fun i u => W.cell? (a.add i) = some (mk u)) len hat
    refine ⟨some a, len, cap, xs, rfl, hxl, ?_, hl, hm, fun h => by cases h⟩
    rcases Nat.eq_zero_or_pos len with h0 | h0
    · left
      have : xs = [] := List.eq_nil_of_length_eq_zero (by omega)
      simp [this]
    · right
      obtain ⟨b, off, spot⟩ := a
      have h1 := hxs 0 (by omega)
      have hspot : spot = none := by simpa [Addr.add] using World.cell?_spot h1
      subst hspot
      refine ⟨b, off, rfl, ?_, fun j u hu => ?_⟩
      · have := World.block_lt_of_cell? W _ h1
        simpa [Addr.add] using this
      · rw [List.getElem?_map] at hu
        by_cases hj : j < xs.length
        · rw [List.getElem?_eq_getElem hj, Option.map_some, Option.some.injEq] at hu
          subst hu
          have := hxs j hj
          unfold Addr.add at this
          split at this
          · rename_i hj0; subst hj0; simpa using this
          · exact this
        · rw [List.getElem?_eq_none (by omega)] at hu; simp at hu

end Go.Proofs.YtfgfdjaiamaelaaGreatDoor
/- Arguments opened: a slice of structs as a list. -/
namespace Go.Proofs.YtfgfdjaiamaelaaGreatDoor
open Go.ChangeShapes Go.WideShapes Go.ChangeAt Go.RowKit Go.Deep

/-- A slice of elements of k cells that came in. -/
theorem open_rows {H : Type} {enc : TypeId × Value → H} {P : Program} {W : World} {α : Type} (mk : α → List Value) (good : α → Prop) (k : Nat) (hk : 0 < k) {t e : TypeId} {fuel : Nat} {v : Value} {x : DataW H × List MemPlace} (ht : P.underlying t = some (.slice e)) (hC : P.cellsOf e = k)
    (hel : ∀ n cs x, cs.length = k → DataW.trod enc P W 0 (fun _ => true) true n e cs = some x → ∃ a, cs = mk a ∧ good a)
    (h : DataW.trod enc P W 0 (fun _ => true) true fuel t [v] = some x) :
    ∃ (A : Option Addr) (n c : Nat) (xs : List α), v = .slice A n c ∧ xs.length = n ∧ Reads W A (xs.flatMap mk) ∧ (∀ a ∈ xs, (mk a).length = k ∧ good a) ∧ n ≤ c ∧ c ≤ maxLen ∧ (A = none → n = 0 ∧ c = 0) := by
  rcases open_slice ht h with ⟨h0, _⟩ | ⟨a, len, cap, m, n, D, Pl, hcs, hb, hl, hm, hmm, hx, hi⟩
  · simp only [List.cons.injEq, and_true] at h0
    subst h0
    exact ⟨none, 0, 0, [], rfl, rfl, Reads.nil, fun _ h => (by cases h), Nat.le_refl _, Nat.zero_le _, fun _ => ⟨rfl, rfl⟩⟩
  · simp only [List.cons.injEq, and_true] at hcs
    subst hcs
    simp only [if_true] at hmm
    have hat : ∀ i, i < len → ∃ u : α, (mk u).length = k ∧ good u ∧ ∀ j, j < k → W.cell? (a.add (i * k + j)) = (mk u)[j]? := by
      intro i hi'
      obtain ⟨cs', hc, ht'⟩ := hi i (by omega)
      rw [hC] at hc
      obtain ⟨_, hlen, hat⟩ := World.cells?_some hc
      obtain ⟨u, rfl, hg⟩ := hel n cs' _ hlen ht'
      exact ⟨u, hlen, hg, fun j hj => by rw [← Go.Deep.add_add]; exact hat j hj⟩
    obtain ⟨xs, hxl, hxs⟩ := list_of (fun i u => (mk u).length = k ∧ good u ∧ ∀ j, j < k → W.cell? (a.add (i * k + j)) = (mk u)[j]?) len hat
    have hgd : ∀ u ∈ xs, (mk u).length = k ∧ good u := fun u hu => by
      obtain ⟨i, hi', rfl⟩ := List.mem_iff_getElem.1 hu
      exact ⟨(hxs i hi').1, (hxs i hi').2.1⟩
    refine ⟨some a, len, cap, xs, rfl, hxl, ?_, hgd, hl, hm, fun h => by cases h⟩
    rcases Nat.eq_zero_or_pos len with h0 | h0
    · left
      have : xs = [] := List.eq_nil_of_length_eq_zero (by omega)
      simp [this]
    · right
      obtain ⟨b, off, spot⟩ := a
      have h1 := (hxs 0 (by omega)).2.2 0 hk
      have hv0 : ∃ u, (mk (xs[0]'(by omega)))[0]? = some u := ⟨_, List.getElem?_eq_getElem (by rw [(hxs 0 (by omega)).1]; exact hk)⟩
      obtain ⟨u0, hu0⟩ := hv0
      rw [hu0] at h1
      have hspot : spot = none := by simpa [Addr.add] using World.cell?_spot h1
      subst hspot
      refine ⟨b, off, rfl, ?_, fun j u hu => ?_⟩
      · have := World.block_lt_of_cell? W _ h1
        simpa [Addr.add] using this
      · have hjl : j < xs.length * k := by
          have hlt := (List.getElem?_eq_some_iff.1 hu).1
          have : (xs.flatMap mk).length = xs.length * k := by
            clear hu hlt hxl hxs hu0 h1
            induction xs with
            | nil => simp
            | cons y t ih => rw [List.flatMap_cons, List.length_append, (hgd y (by simp)).1, ih (fun u hu => hgd u (List.mem_cons_of_mem _ hu)), List.length_cons, Nat.add_mul, Nat.one_mul, Nat.add_comm]
          rwa [this] at hlt
        have hq : j / k < xs.length := by rw [Nat.div_lt_iff_lt_mul hk]; exact hjl
        have hr : j % k < k := Nat.mod_lt _ hk
        have e := flat_get (f := mk) (m := k) (fun s hs => (hgd s hs).1) hr hq
        have hj : j / k * k + j % k = j := by rw [Nat.mul_comm]; exact Nat.div_add_mod j k
        rw [hj, hu] at e
        have h2 := (hxs (j / k) hq).2.2 (j % k) hr
        rw [hj, ← e] at h2
        unfold Addr.add at h2
        split at h2
        · rename_i hj0; subst hj0; simpa using h2
        · exact h2

end Go.Proofs.YtfgfdjaiamaelaaGreatDoor
/- The laws of layer 10: calls that came in; long. -/
namespace Go.Proofs.YtfgfdjaiamaelaaGreatDoor
open Go.RowKit Go.Maps

/-- A call as it lies in memory. -/
structure StepV where
  wh : Int
  at_ : Int
  kd : Int
  n : Int
  s : ByteArray
  A : Option Addr
  l : List Int
  c : Nat
def stepC (a : StepV) : Array Value := #[.int .u8 a.wh, .int .i64 a.at_, .int .i64 a.kd, .int .i64 a.n, .string a.s, .slice a.A a.l.length a.c]
def stepL (a : StepV) : List Value := [.int .u8 a.wh, .int .i64 a.at_, .int .i64 a.kd, .int .i64 a.n, .string a.s, .slice a.A a.l.length a.c]
/-- What is known of one that came in. -/
structure StepOk (W : World) (a : StepV) : Prop where
  wh : 0 ≤ a.wh ∧ a.wh ≤ 255
  at_ : -9223372036854775808 ≤ a.at_ ∧ a.at_ ≤ 9223372036854775807
  kd : -9223372036854775808 ≤ a.kd ∧ a.kd ≤ 9223372036854775807
  n : -9223372036854775808 ≤ a.n ∧ a.n ≤ 9223372036854775807
  list : Reads W a.A (a.l.map (.int .i64))
  cap : a.l.length ≤ a.c ∧ a.c ≤ maxLen
  str : a.s.size ≤ maxLen

theorem steps_at {w : World} {A : Option Addr} {xs : List StepV} (h : Reads w A (xs.flatMap stepL)) {k : Nat} (hk : k < xs.length) :
    ∃ b off, A = some ⟨b, off, none⟩ ∧ b < w.heap.size ∧ w.cell? ⟨b, off + k * 6, none⟩ = some (.int .u8 xs[k].wh) ∧ w.cell? ⟨b, off + k * 6 + 1, none⟩ = some (.int .i64 xs[k].at_) ∧ w.cell? ⟨b, off + k * 6 + 2, none⟩ = some (.int .i64 xs[k].kd) ∧
      w.cell? ⟨b, off + k * 6 + 3, none⟩ = some (.int .i64 xs[k].n) ∧ w.cell? ⟨b, off + k * 6 + 4, none⟩ = some (.string xs[k].s) ∧ w.cell? ⟨b, off + k * 6 + 5, none⟩ = some (.slice xs[k].A xs[k].l.length xs[k].c) := by
  have hg : ∀ j, j < 6 → (xs.flatMap stepL)[k * 6 + j]? = (stepL xs[k])[j]? := fun j hj => flat_get (f := stepL) (m := 6) (fun _ _ => rfl) hj hk
  rcases h with h | ⟨b, off, hA, hlt, hc⟩
  · exfalso
    have := hg 0 (by omega)
    rw [h] at this
    simp [stepL] at this
  · have g : ∀ j u, j < 6 → (stepL xs[k])[j]? = some u → w.cell? ⟨b, off + k * 6 + j, none⟩ = some u := fun j u hj hu => by rw [Nat.add_assoc]; exact hc _ _ ((hg j hj).trans hu)
    exact ⟨b, off, hA, hlt, g 0 _ (by omega) rfl, g 1 _ (by omega) rfl, g 2 _ (by omega) rfl, g 3 _ (by omega) rfl, g 4 _ (by omega) rfl, g 5 _ (by omega) rfl⟩

def bigB (a : StepV) : Bool := decide (300 < a.s.size) || decide (300 < a.l.length)
def longB (xs : List StepV) : Bool := xs.any bigB || decide (40 < xs.length)

set_option maxRecDepth 100000 in
set_option maxHeartbeats 2000000 in
theorem long_any (A : Option Addr) (c : Nat) (xs : List StepV) (hl : xs.length ≤ maxLen) (hs : ∀ a ∈ xs, a.s.size ≤ maxLen ∧ a.l.length ≤ maxLen) (w : World) (hR : Reads w A (xs.flatMap stepL)) :
    Calls Tryz.prog 22 #[.slice A xs.length c] w fun e w' => e = .returned (.bool (longB xs)) ∧ Below w.heap.size w w' := by
  unfold maxLen at hl hs
  go_enter Tryz.func22, Tryz.ntmps22
  go_wp2_with fail
  go_loopw [3] (fun q wr => ∃ k : Nat, k ≤ xs.length ∧ q = .int .i64 k ∧ (∀ a ∈ xs.take k, bigB a = false) ∧ Below w.heap.size w wr) (fun q _ => xs.length - (intOf q).toNat)
  case atStart => exact ⟨0, Nat.zero_le _, rfl, fun _ h => by simp at h, Below.refl _ _⟩
  case round =>
    obtain ⟨k, hk, rfl, hn, hb⟩ := hrel
    by_cases hlt : k < xs.length
    · obtain ⟨b, off, rfl, hbl, -, -, -, -, c4, c5⟩ := steps_at (hR.below hb) hlt
      have hm := List.getElem_mem hlt
      have hsz := hs _ hm
      have HT : Hid (xs.take (k + 1) = xs.take k ++ [xs[k]]) := Lib.hid (List.take_succ_eq_append_getElem hlt)
      generalize xs[k] = a at *
      obtain ⟨wh, at_, kd, n, s, A, l, ca⟩ := a
      simp only at c4 c5 hsz
      have HM := Lib.hid hm
      have HN := Lib.hid hn
      have HR := Lib.hid hR
      have HS := Lib.hid hs
      clear hm hn hR hs
      by_cases h1 : 300 < s.size
      · have d1 : decide ((300 : Int) < (s.size : Int)) = true := decide_eq_true (by omega)
        have HV : Hid (longB xs = true) := Lib.hid (by unfold longB; rw [List.any_eq_true.2 ⟨_, HM.out, by unfold bigB; simp [h1]⟩]; rfl)
        clear h1
        go_wp2_with fail
        go_ret
        exact ⟨by rw [HV.out]; rfl, hb⟩
      · have d1 : decide ((300 : Int) < (s.size : Int)) = false := decide_eq_false (by omega)
        by_cases h2 : 300 < l.length
        · have d2 : decide ((300 : Int) < (l.length : Int)) = true := decide_eq_true (by omega)
          have HV : Hid (longB xs = true) := Lib.hid (by unfold longB; rw [List.any_eq_true.2 ⟨_, HM.out, by unfold bigB; simp [h2]⟩]; rfl)
          clear h1 h2
          go_wp2_with fail
          go_ret
          exact ⟨by rw [HV.out]; rfl, hb⟩
        · have d2 : decide ((300 : Int) < (l.length : Int)) = false := decide_eq_false (by omega)
          have HB : Hid (bigB ⟨wh, at_, kd, n, s, A, l, ca⟩ = false) := Lib.hid (by unfold bigB; simp [h1, h2])
          clear h1 h2
          go_wp2_with fail
          go_roundw
          case rel => exact ⟨k + 1, by omega, by go_num, fun a ha => by
            rw [HT.out] at ha
            rcases List.mem_append.1 ha with ha | ha
            · exact HN.out a ha
            · simp only [List.mem_singleton] at ha; rw [ha]; exact HB.out, hb⟩
          case measure => simp [intOf]; omega
    · obtain rfl : k = xs.length := by omega
      have HV : Hid (longB xs = decide ((40 : Int) < (xs.length : Int))) := Lib.hid (by
        unfold longB
        rw [List.take_length] at hn
        have : xs.any bigB = false := by
          rw [List.any_eq_false]
          intro a ha
          rw [hn a ha]; simp
        rw [this, Bool.false_or]
        by_cases h : 40 < xs.length
        · rw [decide_eq_true h, decide_eq_true (by omega)]
        · rw [decide_eq_false h, decide_eq_false (by omega)])
      clear hn
      go_wp2_with fail
      go_ret
      exact ⟨by rw [HV.out]; rfl, hb⟩
end Go.Proofs.YtfgfdjaiamaelaaGreatDoor
