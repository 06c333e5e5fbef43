/- Ints, Same, Sector, far, Example. -/
import Derived.Test.YtenfheheepkfbaaA4
import Derived.Test.YtenfheheepkfbaaL2
import Derived.BigQuiet
namespace Go.Proofs.Ytenfheheepkfbaa
open Go.RowKit

theorem bret {b b' : Bool} (h : b = b') : Ending.returned (.bool b) = .returned (.bool b') := by rw [h]

set_option maxHeartbeats 1000000 in
theorem ints_any (A B : Option Addr) (c d : Nat) (xs ys : List Int) (w : World) (hx : Reads w A (xs.map (.int .i64))) (hy : Reads w B (ys.map (.int .i64))) (hn : xs.length ≤ 100000) (hm : ys.length ≤ maxLen) :
    Calls Try.prog 18 #[.slice A xs.length c, .slice B ys.length d] w fun e w' => e = .returned (.bool (decide (xs = ys))) ∧ Below w.heap.size w w' := by
  unfold maxLen at hm
  by_cases hl : xs.length = ys.length
  · have hd : ((xs.length : Int) != (ys.length : Int)) = false := by simp [hl]
    have HL := Lib.hid hl
    clear hl
    go_enter Try.func18, Try.ntmps18
    go_wp2
    go_loopw [5] (fun q wr => ∃ k : Nat, k ≤ xs.length ∧ q = .int .i64 k ∧ xs.take k = ys.take k ∧ Below w.heap.size w wr) (fun q _ => xs.length - (intOf q).toNat)
    case atStart => exact ⟨0, Nat.zero_le _, rfl, rfl, Below.refl _ _⟩
    case round =>
      obtain ⟨k, hk, rfl, heq, hnx⟩ := hrel
      have HEQ := Lib.hid heq
      clear heq
      by_cases hlt : k < xs.length
      · have hlt2 : k < ys.length := by rw [← HL.out]; exact hlt
        obtain ⟨b, off, rfl, hb, hc⟩ := (hx.below hnx).at_ (k := k) (by simpa using hlt)
        obtain ⟨b2, off2, rfl, hb2, hc2⟩ := (hy.below hnx).at_ (k := k) (by simpa using hlt2)
        rw [List.getElem_map] at hc hc2
        have hs1 := Lib.hid (List.take_succ_eq_append_getElem hlt)
        have hs2 := Lib.hid (List.take_succ_eq_append_getElem hlt2)
        have hne : xs[k] ≠ ys[k] → xs ≠ ys := fun h e => by subst e; exact h rfl
        have HNE := Lib.hid hne
        clear hne
        generalize xs[k] = x at hc hs1 HNE
        generalize ys[k] = y at hc2 hs2 HNE
        by_cases hxy : x = y
        · subst hxy
          have hd2 : (x != x) = false := by simp
          go_wp2
          go_quiet (fail)
          go_wp2
          go_roundw
          case rel => exact ⟨k + 1, by omega, by go_num, by rw [hs1.out, hs2.out, HEQ.out], by (repeat' (first | (with_reducible exact Below.refl _ _) | (with_reducible assumption) | (with_reducible refine Below.alloc ?_ ?_ _) | (with_reducible refine Below.drew ?_) | (with_reducible refine below_drewN' ?_ _) | (with_reducible refine Below.setCell ?_ ?_ _) | (with_reducible exact Nat.le_refl _) | omega | (simp; done) | (simp; omega)))⟩
          case measure => simp [intOf]; omega
        · have hd2 : (x != y) = true := by simpa using hxy
          have HN := Lib.hid (HNE.out hxy)
          clear hxy
          go_wp2
          go_quiet (fail)
          go_wp2
          go_ret
          exact ⟨bret (by simp [HN.out]), by (repeat' (first | (with_reducible exact Below.refl _ _) | (with_reducible assumption) | (with_reducible refine Below.alloc ?_ ?_ _) | (with_reducible refine Below.drew ?_) | (with_reducible refine below_drewN' ?_ _) | (with_reducible refine Below.setCell ?_ ?_ _) | (with_reducible exact Nat.le_refl _) | omega | (simp; done) | (simp; omega)))⟩
      · obtain rfl : k = xs.length := by omega
        have hfin : xs = ys := by
          have := HEQ.out
          rwa [List.take_length, HL.out, List.take_length] at this
        have HF := Lib.hid hfin
        clear hfin
        go_wp2
        go_ret
        exact ⟨bret (by simp [HF.out]), hnx⟩
  · have hd : ((xs.length : Int) != (ys.length : Int)) = true := by simp; omega
    have HNE := Lib.hid (show xs ≠ ys from fun e => hl (by rw [e]))
    clear hl
    go_enter Try.func18, Try.ntmps18
    go_wp2
    go_ret
    exact ⟨bret (by simp [HNE.out]), Below.refl _ _⟩

def LayEq (s j i s' j' i' : Int) : Bool := s == s' && j == j' && i == i'

set_option maxRecDepth 100000 in
set_option maxHeartbeats 2000000 in
theorem same_any (s j i s' j' i' : Int) (A B : Option Addr) (c d : Nat) (xs ys : List Bool) (w : World) (hx : Reads w A (xs.map .bool)) (hy : Reads w B (ys.map .bool)) (hn : xs.length ≤ maxLen) (hm : ys.length ≤ maxLen) :
    Calls Try.prog 17 #[.agg #[.int .i64 s, .int .i64 j, .int .i64 i, .slice A xs.length c], .agg #[.int .i64 s', .int .i64 j', .int .i64 i', .slice B ys.length d]] w fun e w' =>
      e = .returned (.bool (LayEq s j i s' j' i' && decide (xs = ys))) ∧ Below w.heap.size w w' := by
  unfold maxLen at hn hm
  by_cases h1 : s = s'
  rotate_left
  · have hf : LayEq s j i s' j' i' = false := by simp [LayEq, h1]
    go_enter Try.func17, Try.ntmps17
    go_wp2
    all_goals (go_ret; exact ⟨bret (by simp [LayEq, h1]), by (repeat' (first | (with_reducible exact Below.refl _ _) | (with_reducible assumption) | (with_reducible refine Below.alloc ?_ ?_ _) | (with_reducible refine Below.drew ?_) | (with_reducible refine below_drewN' ?_ _) | (with_reducible refine Below.setCell ?_ ?_ _) | (with_reducible exact Nat.le_refl _) | omega | (simp; done) | (simp; omega)))⟩)
  subst h1
  by_cases h2 : j = j'
  rotate_left
  · skip
    go_enter Try.func17, Try.ntmps17
    go_wp2
    all_goals (go_ret; exact ⟨bret (by simp [LayEq, h2]), by (repeat' (first | (with_reducible exact Below.refl _ _) | (with_reducible assumption) | (with_reducible refine Below.alloc ?_ ?_ _) | (with_reducible refine Below.drew ?_) | (with_reducible refine below_drewN' ?_ _) | (with_reducible refine Below.setCell ?_ ?_ _) | (with_reducible exact Nat.le_refl _) | omega | (simp; done) | (simp; omega)))⟩)
  subst h2
  by_cases h3 : i = i'
  rotate_left
  · skip
    go_enter Try.func17, Try.ntmps17
    go_wp2
    all_goals (go_ret; exact ⟨bret (by simp [LayEq, h3]), by (repeat' (first | (with_reducible exact Below.refl _ _) | (with_reducible assumption) | (with_reducible refine Below.alloc ?_ ?_ _) | (with_reducible refine Below.drew ?_) | (with_reducible refine below_drewN' ?_ _) | (with_reducible refine Below.setCell ?_ ?_ _) | (with_reducible exact Nat.le_refl _) | omega | (simp; done) | (simp; omega)))⟩)
  subst h3
  have hLE : LayEq s j i s j i = true := by simp [LayEq]
  have HLE := Lib.hid hLE
  clear hLE
  by_cases hl : xs.length = ys.length
  · have hd : ((xs.length : Int) != (ys.length : Int)) = false := by simp [hl]
    have HL := Lib.hid hl
    clear hl
    go_enter Try.func17, Try.ntmps17
    go_wp2
    obtain ⟨W1, hW1⟩ : ∃ W1, W1 = (w.alloc (.cells #[.int .i64 s, .int .i64 j, .int .i64 i, .slice A xs.length c] 26)).alloc (.cells #[.int .i64 s, .int .i64 j, .int .i64 i, .slice B ys.length d] 26) := ⟨_, rfl⟩
    rw [← hW1]
    have b0 : Blk W1 w.heap.size 26 #[.int .i64 s, .int .i64 j, .int .i64 i, .slice A xs.length c] := by rw [hW1]; exact (by (repeat' (first | (with_reducible assumption) | exact Blk.new' (by simp) | refine Blk.alloc ?_ _)))
    have b1 : Blk W1 (w.heap.size + 1) 26 #[.int .i64 s, .int .i64 j, .int .i64 i, .slice B ys.length d] := by rw [hW1]; exact (by (repeat' (first | (with_reducible assumption) | exact Blk.new' (by simp) | refine Blk.alloc ?_ _)))
    have hB1 : Below w.heap.size w W1 := by rw [hW1]; (repeat' (first | (with_reducible exact Below.refl _ _) | (with_reducible assumption) | (with_reducible refine Below.alloc ?_ ?_ _) | (with_reducible refine Below.drew ?_) | (with_reducible refine below_drewN' ?_ _) | (with_reducible refine Below.setCell ?_ ?_ _) | (with_reducible exact Nat.le_refl _) | omega | (simp; done) | (simp; omega)))
    have hs1 : W1.heap.size = w.heap.size + 2 := by rw [hW1]; simp
    clear hW1
    go_loopw [5] (fun q wr => ∃ k : Nat, k ≤ xs.length ∧ q = .int .i64 k ∧ xs.take k = ys.take k ∧ Below W1.heap.size W1 wr) (fun q _ => xs.length - (intOf q).toNat)
    case atStart => exact ⟨0, Nat.zero_le _, rfl, rfl, Below.refl _ _⟩
    case round =>
      obtain ⟨k, hk, rfl, heq, hnx⟩ := hrel
      have HEQ := Lib.hid heq
      clear heq
      have hBw : Below w.heap.size w wr := hB1.trans (hnx.mono (by omega))
      have c0 := (b0.belowAll hnx).cells
      have c1 := (b1.belowAll hnx).cells
      by_cases hlt : k < xs.length
      · have hlt2 : k < ys.length := by rw [← HL.out]; exact hlt
        obtain ⟨b, off, rfl, hb, hc⟩ := (hx.below hBw).at_ (k := k) (by simpa using hlt)
        obtain ⟨b2, off2, rfl, hb2, hc2⟩ := (hy.below hBw).at_ (k := k) (by simpa using hlt2)
        rw [List.getElem_map] at hc hc2
        have hs1 := Lib.hid (List.take_succ_eq_append_getElem hlt)
        have hs2 := Lib.hid (List.take_succ_eq_append_getElem hlt2)
        have hne : xs[k] ≠ ys[k] → xs ≠ ys := fun h e => by subst e; exact h rfl
        have HNE := Lib.hid hne
        clear hne
        generalize xs[k] = x at hc hs1 HNE
        generalize ys[k] = y at hc2 hs2 HNE
        by_cases hxy : x = y
        · subst hxy
          clear HNE
          cases x
          all_goals
            go_wp2
            go_quiet (fail)
            go_wp2
            go_roundw
            case rel => exact ⟨k + 1, by omega, by go_num, by rw [hs1.out, hs2.out, HEQ.out], by (repeat' (first | (with_reducible exact Below.refl _ _) | (with_reducible assumption) | (with_reducible refine Below.alloc ?_ ?_ _) | (with_reducible refine Below.drew ?_) | (with_reducible refine below_drewN' ?_ _) | (with_reducible refine Below.setCell ?_ ?_ _) | (with_reducible exact Nat.le_refl _) | omega | (simp; done) | (simp; omega)))⟩
            case measure => simp [intOf]; omega
        · have HN := Lib.hid (HNE.out hxy)
          cases x <;> cases y <;> first | exact absurd rfl hxy | skip
          all_goals
            clear hxy HNE
            go_wp2
            go_quiet (fail)
            go_wp2
            go_ret
            exact ⟨bret (by simp [HN.out]), by (repeat' (first | (with_reducible exact Below.refl _ _) | (with_reducible assumption) | (with_reducible refine Below.alloc ?_ ?_ _) | (with_reducible refine Below.drew ?_) | (with_reducible refine below_drewN' ?_ _) | (with_reducible refine Below.setCell ?_ ?_ _) | (with_reducible exact Nat.le_refl _) | omega | (simp; done) | (simp; omega)))⟩
      · obtain rfl : k = xs.length := by omega
        have hfin : xs = ys := by
          have := HEQ.out
          rwa [List.take_length, HL.out, List.take_length] at this
        have HF := Lib.hid hfin
        clear hfin
        go_wp2
        go_ret
        exact ⟨bret (by rw [HLE.out]; simp [HF.out]), hBw⟩
  · have hd : ((xs.length : Int) != (ys.length : Int)) = true := by simp; omega
    have HNE := Lib.hid (show xs ≠ ys from fun e => hl (by rw [e]))
    clear hl
    go_enter Try.func17, Try.ntmps17
    go_wp2
    go_ret
    exact ⟨bret (by simp [HNE.out]), by (repeat' (first | (with_reducible exact Below.refl _ _) | (with_reducible assumption) | (with_reducible refine Below.alloc ?_ ?_ _) | (with_reducible refine Below.drew ?_) | (with_reducible refine below_drewN' ?_ _) | (with_reducible refine Below.setCell ?_ ?_ _) | (with_reducible exact Nat.le_refl _) | omega | (simp; done) | (simp; omega)))⟩

end Go.Proofs.Ytenfheheepkfbaa
