/- slices.ContainsFunc with the closure of blocks.turn. -/
import Derived.Test.YtenfheheepkfbaaT0
namespace Go.Proofs.Ytenfheheepkfbaa
open Go.RowKit

set_option maxRecDepth 100000 in
set_option maxHeartbeats 1000000 in
/-- The closure: is block x used, or free? -/
theorem turn1_any (s j i : Int) (A : Option Addr) (c : Nat) (us : List Bool) (u : Bool) (S U x : Nat) (hx : x < us.length) (hus : us.length ≤ 1000) (w : World) (hR : Reads w A (us.map .bool))
    (bS : Blk w S 26 #[.int .i64 s, .int .i64 j, .int .i64 i, .slice A us.length c]) (bU : Blk w U 4 #[.bool u]) :
    Calls Try.prog 49 #[.int .i64 (x : Int), .pointer (some ⟨S, 0, none⟩), .pointer (some ⟨U, 0, none⟩)] w fun e w' => e = .returned (.bool (us.getD x false == u)) ∧ Below w.heap.size w w' := by
  obtain ⟨b, off, rfl, hb, hc⟩ := hR.at_ (k := x) (by simpa using hx)
  rw [List.getElem_map] at hc
  have hg : us.getD x false = us[x] := by simp [List.getD_eq_getElem?_getD, hx]
  rw [hg]
  clear hg
  generalize us[x] = y at hc
  have cS := bS.cells
  have cU := bU.cells
  go_enter Try.func49, Try.ntmps49
  go_wp2
  go_quiet (fail)
  go_wp2
  go_ret
  exact ⟨rfl, by (repeat' (first | (with_reducible exact Below.refl _ _) | (with_reducible assumption) | (with_reducible refine Below.alloc ?_ ?_ _) | (with_reducible refine Below.drew ?_) | (with_reducible refine below_drewN' ?_ _) | (with_reducible refine Below.setCell ?_ ?_ _) | (with_reducible exact Nat.le_refl _) | omega | (simp; done) | (simp; omega)))⟩

def FinPost (us : List Bool) (l : List Int) (u : Bool) (w : World) (e : Ending) (w' : World) : Prop :=
  Below w.heap.size w w' ∧ ∃ r : Int, e = .returned (.int .i64 r) ∧ (decide (0 ≤ r) = hasAny us l u)

set_option maxRecDepth 100000 in
set_option maxHeartbeats 1000000 in
theorem indexFunc_any (s j i : Int) (A Bl : Option Addr) (c cb : Nat) (us : List Bool) (l : List Int) (u : Bool) (S U : Nat) (hin : ∀ b ∈ l, 0 ≤ b ∧ b < (us.length : Int)) (hus : us.length ≤ 1000) (hl : l.length ≤ 1000) (w : World) (hR : Reads w A (us.map .bool)) (hB : Reads w Bl (l.map (.int .i64)))
    (bS : Blk w S 26 #[.int .i64 s, .int .i64 j, .int .i64 i, .slice A us.length c]) (bU : Blk w U 4 #[.bool u]) :
    Calls Try.prog 51 #[.slice Bl l.length cb, .func (.func 49) #[] #[.pointer (some ⟨S, 0, none⟩), .pointer (some ⟨U, 0, none⟩)]] w (FinPost us l u w) := by
  have HIN := Lib.hid hin
  clear hin
  go_enter Try.func51, Try.ntmps51
  go_wp2_with fail
  go_loopw [5, 8] (fun _ q wr => ∃ k : Nat, k ≤ l.length ∧ q = .int .i64 k ∧ hasAny us (l.take k) u = false ∧ Below w.heap.size w wr) (fun _ q _ => l.length - (intOf q).toNat)
  case atStart => exact ⟨0, Nat.zero_le _, rfl, rfl, Below.refl _ _⟩
  case round =>
    obtain ⟨k, hk, rfl, hno, hnx⟩ := hrel
    by_cases hlt : k < l.length
    · obtain ⟨b, off, rfl, hb, hc⟩ := (hB.below hnx).at_ (k := k) (by simpa using hlt)
      rw [List.getElem_map] at hc
      have hx := HIN.out l[k] (List.getElem_mem hlt)
      have hst : hasAny us (l.take (k + 1)) u = (us.getD l[k].toNat false == u) := by
        rw [List.take_succ_eq_append_getElem hlt]
        unfold hasAny at hno ⊢
        rw [List.any_append, hno]; simp
      have hall : (us.getD l[k].toNat false == u) = true → hasAny us l u = true := fun h => by
        unfold hasAny
        exact List.any_eq_true.2 ⟨l[k], List.getElem_mem hlt, h⟩
      have HST := Lib.hid hst
      have HALL := Lib.hid hall
      clear hst hall hno
      generalize l[k] = x at hc hx HST HALL
      obtain ⟨xn, rfl⟩ := Int.eq_ofNat_of_zero_le hx.1
      simp only [Int.toNat_natCast] at HST HALL
      go_wp2_with fail
      refine (turn1_any s j i A c us u S U xn (by omega) hus _ (hR.below hnx) (bS.belowAll hnx) (bU.belowAll hnx)).mono ?_
      rintro e w2 ⟨rfl, hb2⟩
      have B2 := hnx.trans (hb2.mono hnx.size)
      cases hu : (us.getD xn false == u)
      · go_wp2_with fail
        go_roundw
        case rel => exact ⟨k + 1, by omega, by go_num, by rw [HST.out]; exact hu, B2⟩
        case measure => simp [intOf]; omega
      · go_wp2_with fail
        go_ret
        exact ⟨B2, _, rfl, by rw [HALL.out hu]; simp⟩
    · obtain rfl : k = l.length := by omega
      rw [List.take_length] at hno
      go_wp2_with fail
      go_ret
      exact ⟨hnx, _, rfl, by rw [hno]; rfl⟩

set_option maxHeartbeats 400000 in
theorem containsFunc_any (s j i : Int) (A Bl : Option Addr) (c cb : Nat) (us : List Bool) (l : List Int) (u : Bool) (S U : Nat) (hin : ∀ b ∈ l, 0 ≤ b ∧ b < (us.length : Int)) (hus : us.length ≤ 1000) (hl : l.length ≤ 1000) (w : World) (hR : Reads w A (us.map .bool)) (hB : Reads w Bl (l.map (.int .i64)))
    (bS : Blk w S 26 #[.int .i64 s, .int .i64 j, .int .i64 i, .slice A us.length c]) (bU : Blk w U 4 #[.bool u]) :
    Calls Try.prog 48 #[.slice Bl l.length cb, .func (.func 49) #[] #[.pointer (some ⟨S, 0, none⟩), .pointer (some ⟨U, 0, none⟩)]] w fun e w' => e = .returned (.bool (hasAny us l u)) ∧ Below w.heap.size w w' := by
  go_enter Try.func48, Try.ntmps48
  go_wp2_with fail
  refine (indexFunc_any s j i A Bl c cb us l u S U hin hus hl _ hR hB bS bU).mono ?_
  rintro e w2 ⟨hb2, r, rfl, hr⟩
  have HR := Lib.hid hr
  clear hr
  go_wp2_with fail
  go_ret
  exact ⟨by rw [← HR.out]; rfl, hb2⟩

end Go.Proofs.Ytenfheheepkfbaa
