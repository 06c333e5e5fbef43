/- The reference's listed, turn, Take, Free. -/
import Derived.Test.YtenfheheepkfbaaT2
import Derived.Test.YtenfheheepkfbaaA7
namespace Go.Proofs.Ytenfheheepkfbaa
open Go.RowKit

theorem mem_take_snoc {l : List Int} {p : Nat} {x : Int} (hp : p < l.length) (h : x ∉ l.take p) (hne : l[p] ≠ x) : x ∉ l.take (p + 1) := by
  rw [List.take_succ_eq_append_getElem hp]
  simp only [List.mem_append, List.mem_singleton, not_or]
  exact ⟨h, fun e => hne e.symm⟩
theorem mem_take_get {l : List Int} {p k : Nat} (hp : p < k) (hk : k ≤ l.length) : l[p]'(by omega) ∈ l.take k :=
  List.mem_iff_getElem.2 ⟨p, by rw [List.length_take]; omega, by simp⟩

theorem within_quiet (n lo hi : Int) (w : World) (m : Nat) :
    Calls Try.prog 41 #[.int .i64 n, .int .i64 lo, .int .i64 hi] (w.drewN m) fun e w'' => e = .returned (.bool (!outB n lo hi)) ∧ ∃ q, w'' = w.drewN q :=
  (within_out n lo hi (w.drewN m)).mono fun e w' ⟨he, hw⟩ => ⟨he, m, hw.symm⟩

set_option maxRecDepth 100000 in
set_option maxHeartbeats 4000000 in
theorem listed_any (s j i : Int) (A Bl : Option Addr) (c cb : Nat) (us : List Bool) (l : List Int) (hus : us.length ≤ 1000) (hl : l.length ≤ 1000) (w : World) (hB : Reads w Bl (l.map (.int .i64))) :
    Calls Try.prog 50 #[.agg #[.int .i64 s, .int .i64 j, .int .i64 i, .slice A us.length c], .slice Bl l.length cb] w fun e w' => e = .returned (.int .i64 (LsE us.length l l.length)) ∧ Below w.heap.size w w' := by
  have hwr : IntKind.i64.wrap ((us.length : Int) - 1) = (us.length : Int) - 1 := by rw [IntKind.wrap_i64]; omega
  go_enter Try.func50, Try.ntmps50
  go_wp2_with fail
  obtain ⟨W1, hW1⟩ : ∃ W1, W1 = w.alloc (.cells #[.int .i64 s, .int .i64 j, .int .i64 i, .slice A us.length c] 26) := ⟨_, rfl⟩
  rw [← hW1]
  have bS1 : Blk W1 w.heap.size 26 #[.int .i64 s, .int .i64 j, .int .i64 i, .slice A us.length c] := by rw [hW1]; exact Blk.new _ _ _
  have hB1 : Below w.heap.size w W1 := by rw [hW1]; exact (Below.refl _ _).alloc (Nat.le_refl _) _
  have lS := bS1.lt
  clear hW1
  go_loopw [5, 6] (fun q _ wr => ∃ k : Nat, k ≤ l.length ∧ q = .int .i64 k ∧ LsE us.length l k = 0 ∧ Below W1.heap.size W1 wr) (fun q _ _ => l.length - (intOf q).toNat)
  case atStart => exact ⟨0, Nat.zero_le _, rfl, rfl, Below.refl _ _⟩
  case round =>
    obtain ⟨k, hk, rfl, hno, hnx⟩ := hrel
    have bS2 := bS1.below hnx lS
    have cS := bS2.cells
    have B2 : Below w.heap.size w wr := hB1.trans (hnx.mono (by omega))
    have hBw := hB.below B2
    by_cases hlt : k < l.length
    · obtain ⟨b, off, hBA, hb, hc⟩ := hBw.at_ (k := k) (by simpa using hlt)
      have hcs : ∀ q (h : q < l.length), wr.cell? ⟨b, off + q, none⟩ = some (.int .i64 l[q]) := by
        intro q h
        obtain ⟨b', off', hA', _, hc'⟩ := hBw.at_ (k := q) (by simpa using h)
        rw [hBA] at hA'
        simp only [Option.some.injEq, Addr.mk.injEq, and_true] at hA'
        obtain ⟨rfl, rfl⟩ := hA'
        rw [hc', List.getElem_map]
      have HCS := Lib.hid hcs
      clear hcs
      rw [List.getElem_map] at hc
      have hst := LsE_step hno
      have hgd : l.getD k 0 = l[k] := by simp [List.getD_eq_getElem?_getD, hlt]
      unfold stepE at hst
      rw [hgd] at hst
      clear hgd
      by_cases ho : l[k] < 0 ∨ (us.length : Int) - 1 < l[k]
      · rw [if_pos ho] at hst
        have hT : LsE us.length l l.length = 7 := by rw [LsE_stay (m := l.length) (by rw [hst]; decide) (by omega), hst]
        have HT := Lib.hid hT
        have hO := outB_yes ho
        clear hst hT
        generalize l[k] = x at hc ho hO
        subst hBA
        go_wp2_with fail
        go_quiet (exact within_quiet _ _ _ _ _)
        go_wp2
        go_ret
        exact ⟨by rw [HT.out]; rfl, by (repeat' (first | (with_reducible exact Below.refl _ _) | (with_reducible assumption) | (with_reducible refine Below.alloc ?_ ?_ _) | (with_reducible refine Below.drew ?_) | (with_reducible refine below_drewN' ?_ _) | (with_reducible refine Below.setCell ?_ ?_ _) | (with_reducible exact Nat.le_refl _) | omega | (simp; done) | (simp; omega)))⟩
      · rw [if_neg ho] at hst
        have hO := outB_no ho
        have HST := Lib.hid hst
        clear hst ho
        have hxx : ∃ x, l[k] = x := ⟨_, rfl⟩
        obtain ⟨x, hx⟩ := hxx
        rw [hx] at hc hO
        have HX := Lib.hid hx
        clear hx
        subst hBA
        go_wp2_with fail
        go_quiet (exact within_quiet _ _ _ _ _)
        go_wp2_with fail
        obtain ⟨W3, hW3⟩ : ∃ W3, W3 = wr.drewN nq := ⟨_, rfl⟩
        rw [← hW3]
        have HC3 : Hid (∀ q (h : q < l.length), W3.cell? ⟨b, off + q, none⟩ = some (.int .i64 l[q])) := by rw [hW3]; exact HCS
        have hc3 : W3.cell? ⟨b, off + k, none⟩ = some (.int .i64 x) := by rw [hW3]; exact hc
        have hb3 : b < W3.heap.size := by rw [hW3]; exact hb
        have hnx3 : Below W1.heap.size W1 W3 := by rw [hW3]; exact below_drewN' hnx _
        clear hW3 hc hb HCS bS2 cS B2 hBw
        go_loopw [6] (fun q wr => ∃ p : Nat, p ≤ k ∧ q = .int .i64 p ∧ x ∉ l.take p ∧ Below W3.heap.size W3 wr) (fun q _ => k - (intOf q).toNat)
        case atStart => exact ⟨0, Nat.zero_le _, rfl, by simp, Below.refl _ _⟩
        case round =>
          obtain ⟨p, hp, rfl, hnm, hny⟩ := hrel
          by_cases hpk : p < k
          · have hcp := (hny.cell (p := ⟨b, off + p, none⟩) hb3).trans (HC3.out p (by omega))
            have hck := (hny.cell (p := ⟨b, off + k, none⟩) hb3).trans hc3
            by_cases hyx : l[p]'(by omega) = x
            · have hT : LsE us.length l l.length = 8 := by
                have h8 : LsE us.length l (k + 1) = 8 := by
                  rw [HST.out, HX.out, if_pos]
                  rw [← hyx]; exact mem_take_get hpk (by omega)
                rw [LsE_stay (m := l.length) (by rw [h8]; decide) (by omega), h8]
              rw [hyx] at hcp
              have HT := Lib.hid hT
              clear hT hyx
              go_wp2_with fail
              go_quiet (fail)
              go_wp2
              go_ret
              exact ⟨by rw [HT.out]; rfl, by have := hnx3.size; exact below_drewN' (hB1.trans ((hnx3.mono (by omega)).trans (hny.mono (by omega)))) _⟩
            · have hd : (l[p]'(by omega) == x) = false := by simpa using hyx
              have HM := Lib.hid (mem_take_snoc (by omega) hnm hyx)
              clear hyx hnm
              generalize l[p]'(by omega) = y at hcp hd
              go_wp2_with fail
              go_quiet (fail)
              go_wp2
              go_roundw
              case rel => exact ⟨p + 1, by omega, by go_num, HM.out, below_drewN' hny _⟩
              case measure => simp [intOf]; omega
          · obtain rfl : p = k := by omega
            have HM := Lib.hid hnm
            clear hnm
            go_wp2_with fail
            go_roundw
            case rel => exact ⟨p + 1, by omega, by go_num, by rw [HST.out, HX.out, if_neg HM.out], hnx3.trans (hny.mono hnx3.size)⟩
            case measure => simp [intOf]; omega
    · obtain rfl : k = l.length := by omega
      have HN := Lib.hid hno
      clear hno
      go_wp2_with fail
      go_ret
      exact ⟨by rw [HN.out]; rfl, B2⟩

end Go.Proofs.Ytenfheheepkfbaa
