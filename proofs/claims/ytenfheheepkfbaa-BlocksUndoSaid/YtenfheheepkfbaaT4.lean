/- The reference's turn, Take, Free. -/
import Derived.Test.YtenfheheepkfbaaT3
namespace Go.Proofs.Ytenfheheepkfbaa
open Go.RowKit

def TnGo (s j i : Int) (us : List Bool) (l : List Int) (u : Bool) (al : Int) (k : Nat) (E : Int) : Prop :=
  (E ≠ 0 ∧ TnE s j i us l u al = E) ∨ (E = 0 ∧ CkE s j i us.length = 0 ∧ LsE us.length l l.length = 0 ∧ hasAny us (l.take k) u = false)

theorem listed_is (s j i : Int) (A Bl : Option Addr) (c cb : Nat) (us : List Bool) (l : List Int) (E : Int) (hE : LsE us.length l l.length = E) (hus : us.length ≤ 1000) (hl : l.length ≤ 1000) (w : World) (hB : Reads w Bl (l.map (.int .i64))) :
    Calls Try.prog 50 #[.agg #[.int .i64 s, .int .i64 j, .int .i64 i, .slice A us.length c], .slice Bl l.length cb] w fun e w' => e = .returned (.int .i64 E) ∧ Below w.heap.size w w' := by
  subst hE
  exact listed_any s j i A Bl c cb us l hus hl w hB

set_option maxRecDepth 100000 in
set_option maxHeartbeats 4000000 in
theorem turnR_any (s j i : Int) (A Bl : Option Addr) (c cb : Nat) (us : List Bool) (l : List Int) (u : Bool) (al : Int) (hal : al ≠ 0) (hus : us.length ≤ 1000) (hl : l.length ≤ 1000) (w : World) (hR : Reads w A (us.map .bool)) (hB : Reads w Bl (l.map (.int .i64))) :
    Calls Try.prog 45 #[.agg #[.int .i64 s, .int .i64 j, .int .i64 i, .slice A us.length c], .slice Bl l.length cb, .bool u, .int .i64 al] w (TnPost s j i A c us l u al w) := by
  have hml : us.length ≤ maxLen := by unfold maxLen; omega
  have HAL := Lib.hid hal
  clear hal
  by_cases hE : CkE s j i us.length = 0
  rotate_left
  focus
    have hE' : (CkE s j i us.length == 0) = false := by simpa using hE
    have ST : Hid (TnGo s j i us l u al 0 (CkE s j i us.length)) := Lib.hid (.inl ⟨hE, by unfold TnE; rw [if_neg hE]⟩)
    clear hE
    go_enter Try.func45, Try.ntmps45
    go_wp2_with fail
    refine (checkR_any s j i A us.length c _ hml).mono ?_
    rintro e w9 ⟨rfl, hb9⟩
    have bS : Blk w9 w.heap.size 26 #[.int .i64 s, .int .i64 j, .int .i64 i, .slice A us.length c] := Blk.belowAll (by (repeat' (first | (with_reducible assumption) | exact Blk.new' (by simp) | refine Blk.alloc ?_ _))) hb9
    have bR : Blk w9 (w.heap.size + 1) 26 #[.int .i64 0, .int .i64 0, .int .i64 0, .slice none 0 0] := Blk.belowAll (by (repeat' (first | (with_reducible assumption) | exact Blk.new' (by simp) | refine Blk.alloc ?_ _))) hb9
    have B9 : Below w.heap.size w w9 := below2 hb9
    clear hb9
    go_wp2_with fail
  rotate_left
  focus
    have hE' : (CkE s j i us.length == 0) = true := by simpa using hE
    have hLL : ∃ E, LsE us.length l l.length = E := ⟨_, rfl⟩
    obtain ⟨E, hLE⟩ := hLL
    have ST : Hid (TnGo s j i us l u al 0 E) := Lib.hid (by
      by_cases h0 : E = 0
      · exact .inr ⟨h0, hE, by rw [hLE]; exact h0, rfl⟩
      · exact .inl ⟨h0, by unfold TnE; rw [if_pos hE, if_neg (by rw [hLE]; exact h0), hLE]⟩)
    have HLE := Lib.hid hLE
    clear hE hLE
    go_enter Try.func45, Try.ntmps45
    go_wp2_with fail
    refine (checkR_any s j i A us.length c _ hml).mono ?_
    rintro e w1 ⟨rfl, hb1⟩
    have bS1 : Blk w1 w.heap.size 26 #[.int .i64 s, .int .i64 j, .int .i64 i, .slice A us.length c] := Blk.belowAll (by (repeat' (first | (with_reducible assumption) | exact Blk.new' (by simp) | refine Blk.alloc ?_ _))) hb1
    have bR1 : Blk w1 (w.heap.size + 1) 26 #[.int .i64 0, .int .i64 0, .int .i64 0, .slice none 0 0] := Blk.belowAll (by (repeat' (first | (with_reducible assumption) | exact Blk.new' (by simp) | refine Blk.alloc ?_ _))) hb1
    have B1 : Below w.heap.size w w1 := below2 hb1
    clear hb1
    have cS := bS1.cells
    have lS := bS1.lt
    go_wp2_with fail
    refine (listed_is s j i A Bl c cb us l E HLE.out hus hl _ (hB.below B1)).mono ?_
    rintro e w9 ⟨rfl, hb9⟩
    have bS := bS1.belowAll hb9
    have bR := bR1.belowAll hb9
    have B9 : Below w.heap.size w w9 := B1.trans (hb9.mono B1.size)
    clear hb9 bS1 bR1 B1 cS lS
    go_wp2_with fail
  all_goals
    have lS := bS.lt
    have lR := bR.lt
    go_loopw [10, 11] (fun v q wr => ∃ (k : Nat) (E : Int), k ≤ l.length ∧ v = .int .i64 E ∧ q = .int .i64 k ∧ TnGo s j i us l u al k E ∧ Below w9.heap.size w9 wr) (fun _ q _ => l.length - (intOf q).toNat)
    case atStart => exact ⟨0, _, Nat.zero_le _, rfl, rfl, ST.out, Below.refl _ _⟩
    case round =>
      obtain ⟨k, E, hk, rfl, rfl, hD, hnx⟩ := hrel
      have bS2 := bS.belowAll hnx
      have bR2 := bR.belowAll hnx
      have cS := bS2.cells
      have cR := bR2.cells
      have fR := bR2.free
      have lR2 := bR2.lt
      have B2 : Below w.heap.size w wr := B9.trans (hnx.mono B9.size)
      have hRw := hR.below B2
      have hBw := hB.below B2
      rcases hD with ⟨hE0, hT⟩ | ⟨rfl, hC, hL, hno⟩
      · have hEE : (E == 0) = false := by simpa using hE0
        have hEE' : (E != 0) = true := by simpa using hE0
        have HT := Lib.hid hT
        have HE0 := Lib.hid hE0
        clear hT hE0 hBw hRw
        by_cases hlt : k < l.length
        all_goals
          go_wp2_with fail
          refine bodyPost_ret (v := .tuple #[.agg #[.int .i64 s, .int .i64 j, .int .i64 i, .slice A us.length c], .int .i64 E]) (by simp [results, Try.results45, go_sem, cR, lR2]) rfl ?_
          exact TnPost.bad HE0.out HT.out (by (repeat' (first | (with_reducible exact Below.refl _ _) | (with_reducible assumption) | (with_reducible refine Below.alloc ?_ ?_ _) | (with_reducible refine Below.drew ?_) | (with_reducible refine below_drewN' ?_ _) | (with_reducible refine Below.setCell ?_ ?_ _) | (with_reducible exact Nat.le_refl _) | omega | (simp; done) | (simp; omega))))
      · have hpos := (ckE_len hC).2.2
        have hin := LsE_all hL
        have hT : TnE s j i us l u al = if hasAny us l u = true then al else 0 := by
          unfold TnE
          rw [if_pos hC, if_pos hL]
        have HT := Lib.hid hT
        have HC := Lib.hid hC
        have HL := Lib.hid hL
        have HIN := Lib.hid hin
        clear hT hC hL hin
        by_cases hlt : k < l.length
        · have hx := HIN.out l[k] (List.getElem_mem hlt)
          have hst : hasAny us (l.take (k + 1)) u = (us.getD l[k].toNat false == u) := by
            rw [List.take_succ_eq_append_getElem hlt]
            unfold hasAny at hno ⊢
            rw [List.any_append, hno]; simp
          have hall : (us.getD l[k].toNat false == u) = true → hasAny us l u = true := fun h => by
            unfold hasAny
            exact List.any_eq_true.2 ⟨l[k], List.getElem_mem hlt, h⟩
          have HST := Lib.hid hst
          have HALL := Lib.hid hall
          clear hst hall hno
          obtain ⟨b, off, hBA, hb, hc⟩ := hBw.at_ (k := k) (by simpa using hlt)
          rw [List.getElem_map] at hc
          generalize l[k] = x at hc hx HST HALL
          obtain ⟨xn, rfl⟩ := Int.eq_ofNat_of_zero_le hx.1
          simp only [Int.toNat_natCast] at HST HALL
          have hxn : xn < us.length := by omega
          obtain ⟨b2, off2, hA, hb2, hc2⟩ := hRw.at_ (k := xn) (by simpa using hxn)
          rw [List.getElem_map] at hc2
          have hg : us.getD xn false = us[xn] := by simp [List.getD_eq_getElem?_getD, hxn]
          rw [hg] at HST HALL
          clear hg
          generalize us[xn] = y at hc2 HST HALL
          subst hBA hA
          cases hu : (y == u)
          · go_wp2_with fail
            go_quiet (fail)
            go_wp2
            go_roundw
            case rel => exact ⟨k + 1, 0, by omega, rfl, by go_num, .inr ⟨rfl, HC.out, HL.out, by rw [HST.out]; exact hu⟩, below_drewN' hnx _⟩
            case measure => simp [intOf]; omega
          · have HT2 : Hid (TnE s j i us l u al = al) := Lib.hid (by rw [HT.out, HALL.out hu]; rfl)
            clear HST HALL HT
            go_wp2_with fail
            go_quiet (fail)
            go_wp2
            go_roundw
            case rel => exact ⟨k + 1, al, by omega, rfl, by go_num, .inl ⟨HAL.out, HT2.out⟩, below_drewN' hnx _⟩
            case measure => simp [intOf]; omega
        · obtain rfl : k = l.length := by omega
          rw [List.take_length] at hno
          have HT2 : Hid (TnE s j i us l u al = 0) := Lib.hid (by rw [HT.out, hno]; rfl)
          clear HT hno
          go_wp2_with fail
          refine (with_any s j i A Bl c cb us l u _ hRw (by omega) hus hBw hl HIN.out).mono ?_
          rintro e w6 ⟨g, cap, rfl, hown6, hb6⟩
          have bR6 := bR2.belowAll hb6
          have B6 := B2.trans (hb6.mono B2.size)
          have hz5 := B2.size
          have hz6 := hnx.size
          clear cR fR
          have cR := bR6.cells
          have fR := bR6.free
          have lR6 := bR6.lt
          go_wp2_with fail
          refine bodyPost_ret (v := .tuple #[.agg #[.int .i64 s, .int .i64 j, .int .i64 i, .slice (some ⟨g, 0, none⟩) us.length cap], .int .i64 0]) (by simp [results, Try.results45, go_sem, cR, lR6]) rfl ?_
          refine ⟨by (repeat' (first | (with_reducible exact Below.refl _ _) | (with_reducible assumption) | (with_reducible refine Below.alloc ?_ ?_ _) | (with_reducible refine Below.drew ?_) | (with_reducible refine below_drewN' ?_ _) | (with_reducible refine Below.setCell ?_ ?_ _) | (with_reducible exact Nat.le_refl _) | omega | (simp; done) | (simp; omega))), .inr ⟨HT2.out, g, cap, rfl, own_base (base := w.heap.size + 2) ?_ (by omega)⟩⟩
          exact ownsRow_setCell_below (ownsRow_setCell_below (ownsRow_setCell_below (ownsRow_setCell_below (own_base hown6 (by omega)) (by simp) _) (by simp) _) (by simp) _) (by simp) _

set_option maxHeartbeats 400000 in
theorem takeR_any (s j i : Int) (A Bl : Option Addr) (c cb : Nat) (us : List Bool) (l : List Int) (hus : us.length ≤ 1000) (hl : l.length ≤ 1000) (w : World) (hR : Reads w A (us.map .bool)) (hB : Reads w Bl (l.map (.int .i64))) :
    Calls Try.prog 34 #[.agg #[.int .i64 s, .int .i64 j, .int .i64 i, .slice A us.length c], .slice Bl l.length cb] w (TnPost s j i A c us l true 9 w) := by
  go_enter Try.func34, Try.ntmps34
  go_wp2_with fail
  refine (turnR_any s j i A Bl c cb us l true 9 (by decide) hus hl _ ((hR.alloc _).alloc _) ((hB.alloc _).alloc _)).mono ?_
  rintro e w1 ⟨hb1, ⟨hE, rfl⟩ | ⟨hE, g, cap, rfl, hown⟩⟩
  all_goals
    have HE := Lib.hid hE
    clear hE
    have bR : Blk w1 (w.heap.size + 1) 26 #[.int .i64 0, .int .i64 0, .int .i64 0, .slice none 0 0] := Blk.belowAll (by (repeat' (first | (with_reducible assumption) | exact Blk.new' (by simp) | refine Blk.alloc ?_ _))) hb1
    have B1 : Below w.heap.size w w1 := below2 hb1
    clear hb1
    have cR := bR.cells
    have fR := bR.free
    have lR := bR.lt
    go_wp2_with fail
  · refine bodyPost_ret (v := .tuple #[.agg #[.int .i64 s, .int .i64 j, .int .i64 i, .slice A us.length c], .int .i64 (TnE s j i us l true 9)]) (by simp [results, Try.results34, go_sem, cR, lR]) rfl ?_
    exact ⟨by (repeat' (first | (with_reducible exact Below.refl _ _) | (with_reducible assumption) | (with_reducible refine Below.alloc ?_ ?_ _) | (with_reducible refine Below.drew ?_) | (with_reducible refine below_drewN' ?_ _) | (with_reducible refine Below.setCell ?_ ?_ _) | (with_reducible exact Nat.le_refl _) | omega | (simp; done) | (simp; omega))), .inl ⟨HE.out, rfl⟩⟩
  · refine bodyPost_ret (v := .tuple #[.agg #[.int .i64 s, .int .i64 j, .int .i64 i, .slice (some ⟨g, 0, none⟩) us.length cap], .int .i64 0]) (by simp [results, Try.results34, go_sem, cR, lR]) rfl ?_
    refine ⟨by (repeat' (first | (with_reducible exact Below.refl _ _) | (with_reducible assumption) | (with_reducible refine Below.alloc ?_ ?_ _) | (with_reducible refine Below.drew ?_) | (with_reducible refine below_drewN' ?_ _) | (with_reducible refine Below.setCell ?_ ?_ _) | (with_reducible exact Nat.le_refl _) | omega | (simp; done) | (simp; omega))), .inr ⟨HE.out, g, cap, rfl, own_base (base := w.heap.size + 2) ?_ (by omega)⟩⟩
    exact ownsRow_setCell_below (ownsRow_setCell_below (ownsRow_setCell_below (ownsRow_setCell_below (own_base hown (by simp)) (by simp) _) (by simp) _) (by simp) _) (by simp) _
set_option maxHeartbeats 400000 in
theorem freeR_any (s j i : Int) (A Bl : Option Addr) (c cb : Nat) (us : List Bool) (l : List Int) (hus : us.length ≤ 1000) (hl : l.length ≤ 1000) (w : World) (hR : Reads w A (us.map .bool)) (hB : Reads w Bl (l.map (.int .i64))) :
    Calls Try.prog 36 #[.agg #[.int .i64 s, .int .i64 j, .int .i64 i, .slice A us.length c], .slice Bl l.length cb] w (TnPost s j i A c us l false 4 w) := by
  go_enter Try.func36, Try.ntmps36
  go_wp2_with fail
  refine (turnR_any s j i A Bl c cb us l false 4 (by decide) hus hl _ ((hR.alloc _).alloc _) ((hB.alloc _).alloc _)).mono ?_
  rintro e w1 ⟨hb1, ⟨hE, rfl⟩ | ⟨hE, g, cap, rfl, hown⟩⟩
  all_goals
    have HE := Lib.hid hE
    clear hE
    have bR : Blk w1 (w.heap.size + 1) 26 #[.int .i64 0, .int .i64 0, .int .i64 0, .slice none 0 0] := Blk.belowAll (by (repeat' (first | (with_reducible assumption) | exact Blk.new' (by simp) | refine Blk.alloc ?_ _))) hb1
    have B1 : Below w.heap.size w w1 := below2 hb1
    clear hb1
    have cR := bR.cells
    have fR := bR.free
    have lR := bR.lt
    go_wp2_with fail
  · refine bodyPost_ret (v := .tuple #[.agg #[.int .i64 s, .int .i64 j, .int .i64 i, .slice A us.length c], .int .i64 (TnE s j i us l false 4)]) (by simp [results, Try.results36, go_sem, cR, lR]) rfl ?_
    exact ⟨by (repeat' (first | (with_reducible exact Below.refl _ _) | (with_reducible assumption) | (with_reducible refine Below.alloc ?_ ?_ _) | (with_reducible refine Below.drew ?_) | (with_reducible refine below_drewN' ?_ _) | (with_reducible refine Below.setCell ?_ ?_ _) | (with_reducible exact Nat.le_refl _) | omega | (simp; done) | (simp; omega))), .inl ⟨HE.out, rfl⟩⟩
  · refine bodyPost_ret (v := .tuple #[.agg #[.int .i64 s, .int .i64 j, .int .i64 i, .slice (some ⟨g, 0, none⟩) us.length cap], .int .i64 0]) (by simp [results, Try.results36, go_sem, cR, lR]) rfl ?_
    refine ⟨by (repeat' (first | (with_reducible exact Below.refl _ _) | (with_reducible assumption) | (with_reducible refine Below.alloc ?_ ?_ _) | (with_reducible refine Below.drew ?_) | (with_reducible refine below_drewN' ?_ _) | (with_reducible refine Below.setCell ?_ ?_ _) | (with_reducible exact Nat.le_refl _) | omega | (simp; done) | (simp; omega))), .inr ⟨HE.out, g, cap, rfl, own_base (base := w.heap.size + 2) ?_ (by omega)⟩⟩
    exact ownsRow_setCell_below (ownsRow_setCell_below (ownsRow_setCell_below (ownsRow_setCell_below (own_base hown (by simp)) (by simp) _) (by simp) _) (by simp) _) (by simp) _

end Go.Proofs.Ytenfheheepkfbaa
