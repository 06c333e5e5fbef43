/- turn, Take, Free. -/
import Derived.Test.YtenfheheepkfbaaT1
import Derived.Test.YtenfheheepkfbaaD1
namespace Go.Proofs.Ytenfheheepkfbaa
open Go.RowKit

theorem zero256 (w : World) : (zeroValue 73).run Try.prog w = .ok (.agg (fill (.bool false) 256)) w := by kernel_rfl

set_option maxRecDepth 100000 in
set_option maxHeartbeats 4000000 in
theorem turn_ok (s j i : Int) (A Bl : Option Addr) (c cb : Nat) (us : List Bool) (l : List Int) (u : Bool) (al : Int) (hal : al ≠ 0) (hus : us.length ≤ 1000) (hl : l.length ≤ 1000) (w : World) (hR : Reads w A (us.map .bool)) (hB : Reads w Bl (l.map (.int .i64))) (hE : CkE s j i us.length = 0) :
    Calls Try.prog 44 #[.agg #[.int .i64 s, .int .i64 j, .int .i64 i, .slice A us.length c], .slice Bl l.length cb, .bool u, .int .i64 al] w (TnPost s j i A c us l u al w) := by
  have hus' := (ckE_len hE).2.2
  have hE' : (CkE s j i us.length != 0) = false := by simpa using hE
  have HE := Lib.hid hE
  have HAL := Lib.hid hal
  clear hE hal
  have hz256 := zero256
  go_enter Try.func44, Try.ntmps44
  go_wp2_with fail
  refine (check_any s j i A us.length c _ (by unfold maxLen; omega)).mono ?_
  rintro e w1 ⟨rfl, hb1⟩
  have bS : Blk w1 w.heap.size 26 #[.int .i64 s, .int .i64 j, .int .i64 i, .slice A us.length c] := Blk.belowAll (by (repeat' (first | (with_reducible assumption) | exact Blk.new' (by simp) | refine Blk.alloc ?_ _))) hb1
  have bU : Blk w1 (w.heap.size + 1) 4 #[.bool u] := Blk.belowAll (by (repeat' (first | (with_reducible assumption) | exact Blk.new' (by simp) | refine Blk.alloc ?_ _))) hb1
  have bR : Blk w1 (w.heap.size + 2) 26 #[.int .i64 0, .int .i64 0, .int .i64 0, .slice none 0 0] := Blk.belowAll (by (repeat' (first | (with_reducible assumption) | exact Blk.new' (by simp) | refine Blk.alloc ?_ _))) hb1
  have B1 : Below w.heap.size w w1 := below3 hb1
  clear hb1
  have cS := bS.cells
  have cU := bU.cells
  have lS := bS.lt
  have lU := bU.lt
  have lR := bR.lt
  go_wp2_with fail
  obtain ⟨W1, hW1⟩ : ∃ W1, W1 = w1.alloc (.cells (fill (.bool false) 256) 73) := ⟨_, rfl⟩
  rw [← hW1]
  have bM : Blk W1 w1.heap.size 73 (fill (.bool false) 256) := by rw [hW1]; exact Blk.new _ _ _
  have bS1 : Blk W1 w.heap.size 26 #[.int .i64 s, .int .i64 j, .int .i64 i, .slice A us.length c] := by rw [hW1]; exact bS.alloc _
  have bU1 : Blk W1 (w.heap.size + 1) 4 #[.bool u] := by rw [hW1]; exact bU.alloc _
  have bR1 : Blk W1 (w.heap.size + 2) 26 #[.int .i64 0, .int .i64 0, .int .i64 0, .slice none 0 0] := by rw [hW1]; exact bR.alloc _
  have hB1 : Below w.heap.size w W1 := by rw [hW1]; exact B1.alloc B1.size _
  have hs1 : W1.heap.size = w1.heap.size + 1 := by rw [hW1]; simp
  clear hW1 bS bU bR cS cU B1 hz256
  go_loopw [13, 22] (fun _ q wr => ∃ k : Nat, k ≤ l.length ∧ q = .int .i64 k ∧ LsE us.length l k = 0 ∧ Blk wr w1.heap.size 73 (boolsV (metL l k)) ∧ Below w1.heap.size W1 wr) (fun _ q _ => l.length - (intOf q).toNat)
  case atStart => exact ⟨0, Nat.zero_le _, rfl, rfl, by rw [show metL l 0 = List.replicate 256 false from rfl, boolsV_rep]; exact bM, Below.refl _ _⟩
  case round =>
    obtain ⟨k, hk, rfl, hno, bM, hnx⟩ := hrel
    have bS2 := bS1.below hnx lS
    have bU2 := bU1.below hnx lU
    have bR2 := bR1.below hnx lR
    have cS := bS2.cells
    have cU := bU2.cells
    have cR := bR2.cells
    have fR := bR2.free
    have fM := bM.free
    have lM := bM.lt
    have lR2 := bR2.lt
    have B2 : Below w.heap.size w wr := hB1.trans (hnx.mono (by omega))
    have hRw := hR.below B2
    have hBw := hB.below B2
    by_cases hlt : k < l.length
    · obtain ⟨b, off, hBA, hb, hc⟩ := hBw.at_ (k := k) (by simpa using hlt)
      rw [List.getElem_map] at hc
      have hst := LsE_step hno
      have hgd : l.getD k 0 = l[k] := by simp [List.getD_eq_getElem?_getD, hlt]
      unfold stepE at hst
      rw [hgd] at hst
      clear hgd
      have hms := metL_step hlt
      by_cases ho : l[k] < 0 ∨ (us.length : Int) - 1 < l[k]
      · rw [if_pos ho] at hst
        have hT : TnE s j i us l u al = 7 := by
          have := LsE_stay (m := l.length) (by rw [hst]; decide) (by omega)
          unfold TnE
          rw [if_pos HE.out, this, hst]; rfl
        have HT := Lib.hid hT
        have hO := outB_yes ho
        clear hst hms hT
        generalize l[k] = x at hc ho hO
        subst hBA
        go_wp2_with (go_at_call 38; refine (outside_out _ _ _ _).mono ?_; rintro e w' ⟨rfl, rfl⟩)
        refine bodyPost_ret (v := .tuple #[.agg #[.int .i64 s, .int .i64 j, .int .i64 i, .slice A us.length c], .int .i64 7]) (by simp [results, Try.results44, go_sem, cR, lR2]) rfl ?_
        exact TnPost.bad (by decide) HT.out (by (repeat' (first | (with_reducible exact Below.refl _ _) | (with_reducible assumption) | (with_reducible refine Below.alloc ?_ ?_ _) | (with_reducible refine Below.drew ?_) | (with_reducible refine below_drewN' ?_ _) | (with_reducible refine Below.setCell ?_ ?_ _) | (with_reducible exact Nat.le_refl _) | omega | (simp; done) | (simp; omega))))
      · rw [if_neg ho] at hst
        have hO := outB_no ho
        have hxb : 0 ≤ l[k] ∧ l[k] < (us.length : Int) := by omega
        have hma := metL_at hno (by omega) l[k].toNat (by omega)
        rw [Int.toNat_of_nonneg hxb.1] at hma
        have hcM : wr.cell? ⟨w1.heap.size, l[k].toNat, none⟩ = some (.bool ((metL l k).getD l[k].toNat false)) := by rw [bM.cells]; exact boolsV_get (by rw [metL_length]; omega)
        rw [hma] at hcM
        by_cases hmt : l[k] ∈ l.take k
        · rw [if_pos hmt] at hst
          rw [decide_eq_true hmt] at hcM
          have hT : TnE s j i us l u al = 8 := by
            have := LsE_stay (m := l.length) (by rw [hst]; decide) (by omega)
            unfold TnE
            rw [if_pos HE.out, this, hst]; rfl
          have HT := Lib.hid hT
          clear hst hms hT hma hmt ho
          generalize l[k] = x at hc hO hxb hcM
          obtain ⟨xn, rfl⟩ := Int.eq_ofNat_of_zero_le hxb.1
          simp only [Int.toNat_natCast] at hcM
          subst hBA
          go_wp2_with (go_at_call 38; refine (outside_out _ _ _ _).mono ?_; rintro e w' ⟨rfl, rfl⟩)
          refine bodyPost_ret (v := .tuple #[.agg #[.int .i64 s, .int .i64 j, .int .i64 i, .slice A us.length c], .int .i64 8]) (by simp [results, Try.results44, go_sem, cR, lR2]) rfl ?_
          exact TnPost.bad (by decide) HT.out (by (repeat' (first | (with_reducible exact Below.refl _ _) | (with_reducible assumption) | (with_reducible refine Below.alloc ?_ ?_ _) | (with_reducible refine Below.drew ?_) | (with_reducible refine below_drewN' ?_ _) | (with_reducible refine Below.setCell ?_ ?_ _) | (with_reducible exact Nat.le_refl _) | omega | (simp; done) | (simp; omega))))
        · rw [if_neg hmt] at hst
          rw [decide_eq_false hmt] at hcM
          have HST := Lib.hid hst
          have HMS := Lib.hid hms
          clear hst hms hma hmt ho
          generalize l[k] = x at hc hO hxb hcM HMS
          obtain ⟨xn, rfl⟩ := Int.eq_ofNat_of_zero_le hxb.1
          simp only [Int.toNat_natCast] at hcM HMS
          subst hBA
          go_wp2_with (go_at_call 38; refine (outside_out _ _ _ _).mono ?_; rintro e w' ⟨rfl, rfl⟩)
          go_roundw
          case rel => exact ⟨k + 1, by omega, by go_num, HST.out, by rw [HMS.out, ← boolsV_set]; exact bM.set_ _ _, hnx.setCell (p := ⟨w1.heap.size, xn, none⟩) (Nat.le_refl _) _⟩
          case measure => simp [intOf]; omega
    · obtain rfl : k = l.length := by omega
      have hin := LsE_all hno
      have hT : TnE s j i us l u al = if hasAny us l u = true then al else 0 := by
        unfold TnE
        rw [if_pos HE.out, if_pos hno]
      have HT := Lib.hid hT
      clear hT
      have HIN := Lib.hid hin
      clear hin
      go_wp2_with fail
      refine (containsFunc_any s j i A Bl c cb us l u w.heap.size (w.heap.size + 1) HIN.out hus hl _ hRw hBw bS2 bU2).mono ?_
      rintro e w5 ⟨rfl, hb5⟩
      have bS5 := bS2.belowAll hb5
      have bU5 := bU2.belowAll hb5
      have bR5 := bR2.belowAll hb5
      have B5 := B2.trans (hb5.mono B2.size)
      have hR5 := hRw.below hb5
      have hB5 := hBw.below hb5
      clear hb5 bS2 bU2 bR2 cS cU cR fR lR2
      have cS := bS5.cells
      have cU := bU5.cells
      have cR := bR5.cells
      have fR := bR5.free
      have lR5 := bR5.lt
      cases hh : hasAny us l u
      · have HT2 : Hid (TnE s j i us l u al = 0) := Lib.hid (by rw [HT.out, hh]; rfl)
        clear hh HT
        go_wp2_with fail
        refine (set_any s j i A Bl c cb us l u _ hR5 (by omega) hus hB5 hl HIN.out).mono ?_
        rintro e w6 ⟨g, cap, rfl, hown6, hb6⟩
        have bR6 := bR5.belowAll hb6
        have B6 := B5.trans (hb6.mono B5.size)
        clear cR fR
        have cR := bR6.cells
        have fR := bR6.free
        have lR6 := bR6.lt
        go_wp2_with fail
        refine bodyPost_ret (v := .tuple #[.agg #[.int .i64 s, .int .i64 j, .int .i64 i, .slice (some ⟨g, 0, none⟩) us.length cap], .int .i64 0]) (by simp [results, Try.results44, go_sem, cR, lR6]) rfl ?_
        have hz5 := B5.size
        refine ⟨by (repeat' (first | (with_reducible exact Below.refl _ _) | (with_reducible assumption) | (with_reducible refine Below.alloc ?_ ?_ _) | (with_reducible refine Below.drew ?_) | (with_reducible refine below_drewN' ?_ _) | (with_reducible refine Below.setCell ?_ ?_ _) | (with_reducible exact Nat.le_refl _) | omega | (simp; done) | (simp; omega))), .inr ⟨HT2.out, g, cap, rfl, own_base (base := w.heap.size + 3) ?_ (by omega)⟩⟩
        exact ownsRow_setCell_below (ownsRow_setCell_below (ownsRow_setCell_below (ownsRow_setCell_below (own_base hown6 (by omega)) (by simp) _) (by simp) _) (by simp) _) (by simp) _
      · have HT2 : Hid (TnE s j i us l u al = al) := Lib.hid (by rw [HT.out, hh]; rfl)
        clear hh HT
        go_wp2_with fail
        refine bodyPost_ret (v := .tuple #[.agg #[.int .i64 s, .int .i64 j, .int .i64 i, .slice A us.length c], .int .i64 al]) (by simp [results, Try.results44, go_sem, cR, lR5]) rfl ?_
        exact TnPost.bad HAL.out HT2.out (by (repeat' (first | (with_reducible exact Below.refl _ _) | (with_reducible assumption) | (with_reducible refine Below.alloc ?_ ?_ _) | (with_reducible refine Below.drew ?_) | (with_reducible refine below_drewN' ?_ _) | (with_reducible refine Below.setCell ?_ ?_ _) | (with_reducible exact Nat.le_refl _) | omega | (simp; done) | (simp; omega))))

set_option maxHeartbeats 400000 in
theorem turn_any (s j i : Int) (A Bl : Option Addr) (c cb : Nat) (us : List Bool) (l : List Int) (u : Bool) (al : Int) (hal : al ≠ 0) (hus : us.length ≤ 1000) (hl : l.length ≤ 1000) (w : World) (hR : Reads w A (us.map .bool)) (hB : Reads w Bl (l.map (.int .i64))) :
    Calls Try.prog 44 #[.agg #[.int .i64 s, .int .i64 j, .int .i64 i, .slice A us.length c], .slice Bl l.length cb, .bool u, .int .i64 al] w (TnPost s j i A c us l u al w) := by
  by_cases hE : CkE s j i us.length = 0
  · exact turn_ok s j i A Bl c cb us l u al hal hus hl w hR hB hE
  · have hE' : (CkE s j i us.length != 0) = true := by simpa using hE
    have hT : TnE s j i us l u al = CkE s j i us.length := by unfold TnE; rw [if_neg hE]
    have HT := Lib.hid hT
    have HE := Lib.hid hE
    clear hE hT
    go_enter Try.func44, Try.ntmps44
    go_wp2_with fail
    refine (check_any s j i A us.length c _ (by unfold maxLen; omega)).mono ?_
    rintro e w1 ⟨rfl, hb1⟩
    have bS : Blk w1 w.heap.size 26 #[.int .i64 s, .int .i64 j, .int .i64 i, .slice A us.length c] := Blk.belowAll (by (repeat' (first | (with_reducible assumption) | exact Blk.new' (by simp) | refine Blk.alloc ?_ _))) hb1
    have bR : Blk w1 (w.heap.size + 2) 26 #[.int .i64 0, .int .i64 0, .int .i64 0, .slice none 0 0] := Blk.belowAll (by (repeat' (first | (with_reducible assumption) | exact Blk.new' (by simp) | refine Blk.alloc ?_ _))) hb1
    have B1 : Below w.heap.size w w1 := below3 hb1
    clear hb1
    have cS := bS.cells
    have cR := bR.cells
    have fR := bR.free
    have lR := bR.lt
    go_wp2_with fail
    refine bodyPost_ret (v := .tuple #[.agg #[.int .i64 s, .int .i64 j, .int .i64 i, .slice A us.length c], .int .i64 (CkE s j i us.length)]) (by simp [results, Try.results44, go_sem, cR, lR]) rfl ?_
    exact TnPost.bad HE.out HT.out (by (repeat' (first | (with_reducible exact Below.refl _ _) | (with_reducible assumption) | (with_reducible refine Below.alloc ?_ ?_ _) | (with_reducible refine Below.drew ?_) | (with_reducible refine below_drewN' ?_ _) | (with_reducible refine Below.setCell ?_ ?_ _) | (with_reducible exact Nat.le_refl _) | omega | (simp; done) | (simp; omega))))

set_option maxHeartbeats 400000 in
theorem take_any (s j i : Int) (A Bl : Option Addr) (c cb : Nat) (us : List Bool) (l : List Int) (hus : us.length ≤ 1000) (hl : l.length ≤ 1000) (w : World) (hR : Reads w A (us.map .bool)) (hB : Reads w Bl (l.map (.int .i64))) :
    Calls Try.prog 33 #[.agg #[.int .i64 s, .int .i64 j, .int .i64 i, .slice A us.length c], .slice Bl l.length cb] w (TnPost s j i A c us l true 9 w) := by
  go_enter Try.func33, Try.ntmps33
  go_wp2_with fail
  refine (turn_any s j i A Bl c cb us l true 9 (by decide) hus hl _ ((hR.alloc _).alloc _) ((hB.alloc _).alloc _)).mono ?_
  rintro e w1 ⟨hb1, ⟨hE, rfl⟩ | ⟨hE, g, cap, rfl, hown⟩⟩
  all_goals
    have HE := Lib.hid hE
    clear hE
    have bR : Blk w1 (w.heap.size + 1) 26 #[.int .i64 0, .int .i64 0, .int .i64 0, .slice none 0 0] := Blk.belowAll (by (repeat' (first | (with_reducible assumption) | exact Blk.new' (by simp) | refine Blk.alloc ?_ _))) hb1
    have B1 : Below w.heap.size w w1 := below2 hb1
    clear hb1
    have cR := bR.cells
    have fR := bR.free
    have lR := bR.lt
    go_wp2_with fail
  · refine bodyPost_ret (v := .tuple #[.agg #[.int .i64 s, .int .i64 j, .int .i64 i, .slice A us.length c], .int .i64 (TnE s j i us l true 9)]) (by simp [results, Try.results33, go_sem, cR, lR]) rfl ?_
    exact ⟨by (repeat' (first | (with_reducible exact Below.refl _ _) | (with_reducible assumption) | (with_reducible refine Below.alloc ?_ ?_ _) | (with_reducible refine Below.drew ?_) | (with_reducible refine below_drewN' ?_ _) | (with_reducible refine Below.setCell ?_ ?_ _) | (with_reducible exact Nat.le_refl _) | omega | (simp; done) | (simp; omega))), .inl ⟨HE.out, rfl⟩⟩
  · refine bodyPost_ret (v := .tuple #[.agg #[.int .i64 s, .int .i64 j, .int .i64 i, .slice (some ⟨g, 0, none⟩) us.length cap], .int .i64 0]) (by simp [results, Try.results33, go_sem, cR, lR]) rfl ?_
    refine ⟨by (repeat' (first | (with_reducible exact Below.refl _ _) | (with_reducible assumption) | (with_reducible refine Below.alloc ?_ ?_ _) | (with_reducible refine Below.drew ?_) | (with_reducible refine below_drewN' ?_ _) | (with_reducible refine Below.setCell ?_ ?_ _) | (with_reducible exact Nat.le_refl _) | omega | (simp; done) | (simp; omega))), .inr ⟨HE.out, g, cap, rfl, own_base (base := w.heap.size + 2) ?_ (by omega)⟩⟩
    exact ownsRow_setCell_below (ownsRow_setCell_below (ownsRow_setCell_below (ownsRow_setCell_below (own_base hown (by simp)) (by simp) _) (by simp) _) (by simp) _) (by simp) _
set_option maxHeartbeats 400000 in
theorem freeb_any (s j i : Int) (A Bl : Option Addr) (c cb : Nat) (us : List Bool) (l : List Int) (hus : us.length ≤ 1000) (hl : l.length ≤ 1000) (w : World) (hR : Reads w A (us.map .bool)) (hB : Reads w Bl (l.map (.int .i64))) :
    Calls Try.prog 35 #[.agg #[.int .i64 s, .int .i64 j, .int .i64 i, .slice A us.length c], .slice Bl l.length cb] w (TnPost s j i A c us l false 4 w) := by
  go_enter Try.func35, Try.ntmps35
  go_wp2_with fail
  refine (turn_any s j i A Bl c cb us l false 4 (by decide) hus hl _ ((hR.alloc _).alloc _) ((hB.alloc _).alloc _)).mono ?_
  rintro e w1 ⟨hb1, ⟨hE, rfl⟩ | ⟨hE, g, cap, rfl, hown⟩⟩
  all_goals
    have HE := Lib.hid hE
    clear hE
    have bR : Blk w1 (w.heap.size + 1) 26 #[.int .i64 0, .int .i64 0, .int .i64 0, .slice none 0 0] := Blk.belowAll (by (repeat' (first | (with_reducible assumption) | exact Blk.new' (by simp) | refine Blk.alloc ?_ _))) hb1
    have B1 : Below w.heap.size w w1 := below2 hb1
    clear hb1
    have cR := bR.cells
    have fR := bR.free
    have lR := bR.lt
    go_wp2_with fail
  · refine bodyPost_ret (v := .tuple #[.agg #[.int .i64 s, .int .i64 j, .int .i64 i, .slice A us.length c], .int .i64 (TnE s j i us l false 4)]) (by simp [results, Try.results35, go_sem, cR, lR]) rfl ?_
    exact ⟨by (repeat' (first | (with_reducible exact Below.refl _ _) | (with_reducible assumption) | (with_reducible refine Below.alloc ?_ ?_ _) | (with_reducible refine Below.drew ?_) | (with_reducible refine below_drewN' ?_ _) | (with_reducible refine Below.setCell ?_ ?_ _) | (with_reducible exact Nat.le_refl _) | omega | (simp; done) | (simp; omega))), .inl ⟨HE.out, rfl⟩⟩
  · refine bodyPost_ret (v := .tuple #[.agg #[.int .i64 s, .int .i64 j, .int .i64 i, .slice (some ⟨g, 0, none⟩) us.length cap], .int .i64 0]) (by simp [results, Try.results35, go_sem, cR, lR]) rfl ?_
    refine ⟨by (repeat' (first | (with_reducible exact Below.refl _ _) | (with_reducible assumption) | (with_reducible refine Below.alloc ?_ ?_ _) | (with_reducible refine Below.drew ?_) | (with_reducible refine below_drewN' ?_ _) | (with_reducible refine Below.setCell ?_ ?_ _) | (with_reducible exact Nat.le_refl _) | omega | (simp; done) | (simp; omega))), .inr ⟨HE.out, g, cap, rfl, own_base (base := w.heap.size + 2) ?_ (by omega)⟩⟩
    exact ownsRow_setCell_below (ownsRow_setCell_below (ownsRow_setCell_below (ownsRow_setCell_below (own_base hown (by simp)) (by simp) _) (by simp) _) (by simp) _) (by simp) _

end Go.Proofs.Ytenfheheepkfbaa
