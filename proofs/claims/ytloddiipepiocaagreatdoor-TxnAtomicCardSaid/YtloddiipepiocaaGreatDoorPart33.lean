/- Parts of the proof, put together by program: T2, I0, I1, I2. -/
import Derived.Test.YtloddiipepiocaaGreatDoorPart32
import Derived.Test.YtloddiipepiocaaGreatDoorPart02
import Derived.Test.YtloddiipepiocaaGreatDoorPart24
import Derived.Test.YtloddiipepiocaaGreatDoorPart29
set_option linter.unusedVariables false
set_option linter.unusedSimpArgs false
/- turn, Take, Free. -/
namespace Go.Proofs.YtloddiipepiocaaGreatDoor
open Go.RowKit

theorem zero256 (w : World) : (zeroValue 254).run Tryz.prog w = .ok (.agg (fill (.bool false) 256)) w := by kernel_rfl

set_option maxRecDepth 100000 in
set_option maxHeartbeats 4000000 in
theorem turn_ok (s j i : Int) (A Bl : Option Addr) (c cb : Nat) (us : List Bool) (l : List Int) (u : Bool) (al : Int) (hal : al ≠ 0) (hus : us.length ≤ 1000) (hl : l.length ≤ 1000) (w : World) (hR : Reads w A (us.map .bool)) (hB : Reads w Bl (l.map (.int .i64))) (hE : CkE s j i us.length = 0) :
    Calls Tryz.prog 168 #[.agg #[.int .i64 s, .int .i64 j, .int .i64 i, .slice A us.length c], .slice Bl l.length cb, .bool u, .int .i64 al] w (TnPost s j i A c us l u al w) := by
  have hus' := (ckE_len hE).2.2
  have hE' : (CkE s j i us.length != 0) = false := by simpa using hE
  have HE := Lib.hid hE
  have HAL := Lib.hid hal
  clear hE hal
  have hz256 := zero256
  go_enter Tryz.func168, Tryz.ntmps168
  go_wp2_with fail
  refine (check_any s j i A us.length c _ (by unfold maxLen; omega)).mono ?_
  rintro e w1 ⟨rfl, hb1⟩
  have bS : Blk w1 w.heap.size 53 #[.int .i64 s, .int .i64 j, .int .i64 i, .slice A us.length c] := Blk.belowAll (by (repeat' (first | (with_reducible assumption) | exact Blk.new' (by simp) | refine Blk.alloc ?_ _))) hb1
  have bU : Blk w1 (w.heap.size + 1) 4 #[.bool u] := Blk.belowAll (by (repeat' (first | (with_reducible assumption) | exact Blk.new' (by simp) | refine Blk.alloc ?_ _))) hb1
  have bR : Blk w1 (w.heap.size + 2) 53 #[.int .i64 0, .int .i64 0, .int .i64 0, .slice none 0 0] := Blk.belowAll (by (repeat' (first | (with_reducible assumption) | exact Blk.new' (by simp) | refine Blk.alloc ?_ _))) hb1
  have B1 : Below w.heap.size w w1 := below3 hb1
  clear hb1
  have cS := bS.cells
  have cU := bU.cells
  have lS := bS.lt
  have lU := bU.lt
  have lR := bR.lt
  go_wp2_with fail
  obtain ⟨W1, hW1⟩ : ∃ W1, W1 = w1.alloc (.cells (fill (.bool false) 256) 254) := ⟨_, rfl⟩
  rw [← hW1]
  have bM : Blk W1 w1.heap.size 254 (fill (.bool false) 256) := by rw [hW1]; exact Blk.new _ _ _
  have bS1 : Blk W1 w.heap.size 53 #[.int .i64 s, .int .i64 j, .int .i64 i, .slice A us.length c] := by rw [hW1]; exact bS.alloc _
  have bU1 : Blk W1 (w.heap.size + 1) 4 #[.bool u] := by rw [hW1]; exact bU.alloc _
  have bR1 : Blk W1 (w.heap.size + 2) 53 #[.int .i64 0, .int .i64 0, .int .i64 0, .slice none 0 0] := by rw [hW1]; exact bR.alloc _
  have hB1 : Below w.heap.size w W1 := by rw [hW1]; exact B1.alloc B1.size _
  have hs1 : W1.heap.size = w1.heap.size + 1 := by rw [hW1]; simp
  clear hW1 bS bU bR cS cU B1 hz256
  go_loopw [13, 22] (fun _ q wr => ∃ k : Nat, k ≤ l.length ∧ q = .int .i64 k ∧ LsE us.length l k = 0 ∧ Blk wr w1.heap.size 254 (boolsV (metL l k)) ∧ Below w1.heap.size W1 wr) (fun _ q _ => l.length - (intOf q).toNat)
  case atStart => exact ⟨0, Nat.zero_le _, rfl, rfl, by rw [show metL l 0 = List.replicate 256 false from rfl, boolsV_rep]; exact bM, Below.refl _ _⟩
  case round =>
    obtain ⟨k, hk, rfl, hno, bM, hnx⟩ := hrel
    have bS2 := bS1.below hnx lS
    have bU2 := bU1.below hnx lU
    have bR2 := bR1.below hnx lR
    have cS := bS2.cells
    have cU := bU2.cells
    have cR := bR2.cells
    have fR := bR2.free
    have fM := bM.free
    have lM := bM.lt
    have lR2 := bR2.lt
    have B2 : Below w.heap.size w wr := hB1.trans (hnx.mono (by omega))
    have hRw := hR.below B2
    have hBw := hB.below B2
    by_cases hlt : k < l.length
    · obtain ⟨b, off, hBA, hb, hc⟩ := hBw.at_ (k := k) (by simpa using hlt)
      rw [List.getElem_map] at hc
      have hst := LsE_step hno
      have hgd : l.getD k 0 = l[k] := by simp [List.getD_eq_getElem?_getD, hlt]
      unfold stepE at hst
      rw [hgd] at hst
      clear hgd
      have hms := metL_step hlt
      by_cases ho : l[k] < 0 ∨ (us.length : Int) - 1 < l[k]
      · rw [if_pos ho] at hst
        have hT : TnE s j i us l u al = 7 := by
          have := LsE_stay (m := l.length) (by rw [hst]; decide) (by omega)
          unfold TnE
          rw [if_pos HE.out, this, hst]; rfl
        have HT := Lib.hid hT
        have hO := outB_yes ho
        clear hst hms hT
        generalize l[k] = x at hc ho hO
        subst hBA
        go_wp2_with (go_at_call 152; refine (outside_out _ _ _ _).mono ?_; rintro e w' ⟨rfl, rfl⟩)
        refine bodyPost_ret (v := .tuple #[.agg #[.int .i64 s, .int .i64 j, .int .i64 i, .slice A us.length c], .int .i64 7]) (by simp [results, Tryz.results168, go_sem, cR, lR2]) rfl ?_
        exact TnPost.bad (by decide) HT.out (by (repeat' (first | (with_reducible exact Below.refl _ _) | (with_reducible assumption) | (with_reducible refine Below.alloc ?_ ?_ _) | (with_reducible refine Below.drew ?_) | (with_reducible refine below_drewN' ?_ _) | (with_reducible refine Below.setCell ?_ ?_ _) | (with_reducible exact Nat.le_refl _) | omega | (simp; done) | (simp; omega))))
      · rw [if_neg ho] at hst
        have hO := outB_no ho
        have hxb : 0 ≤ l[k] ∧ l[k] < (us.length : Int) := by omega
        have hma := metL_at hno (by omega) l[k].toNat (by omega)
        rw [Int.toNat_of_nonneg hxb.1] at hma
        have hcM : wr.cell? ⟨w1.heap.size, l[k].toNat, none⟩ = some (.bool ((metL l k).getD l[k].toNat false)) := by rw [bM.cells]; exact boolsV_get (by rw [metL_length]; omega)
        rw [hma] at hcM
        by_cases hmt : l[k] ∈ l.take k
        · rw [if_pos hmt] at hst
          rw [decide_eq_true hmt] at hcM
          have hT : TnE s j i us l u al = 8 := by
            have := LsE_stay (m := l.length) (by rw [hst]; decide) (by omega)
            unfold TnE
            rw [if_pos HE.out, this, hst]; rfl
          have HT := Lib.hid hT
          clear hst hms hT hma hmt ho
          generalize l[k] = x at hc hO hxb hcM
          obtain ⟨xn, rfl⟩ := Int.eq_ofNat_of_zero_le hxb.1
          simp only [Int.toNat_natCast] at hcM
          subst hBA
          go_wp2_with (go_at_call 152; refine (outside_out _ _ _ _).mono ?_; rintro e w' ⟨rfl, rfl⟩)
          refine bodyPost_ret (v := .tuple #[.agg #[.int .i64 s, .int .i64 j, .int .i64 i, .slice A us.length c], .int .i64 8]) (by simp [results, Tryz.results168, go_sem, cR, lR2]) rfl ?_
          exact TnPost.bad (by decide) HT.out (by (repeat' (first | (with_reducible exact Below.refl _ _) | (with_reducible assumption) | (with_reducible refine Below.alloc ?_ ?_ _) | (with_reducible refine Below.drew ?_) | (with_reducible refine below_drewN' ?_ _) | (with_reducible refine Below.setCell ?_ ?_ _) | (with_reducible exact Nat.le_refl _) | omega | (simp; done) | (simp; omega))))
        · rw [if_neg hmt] at hst
          rw [decide_eq_false hmt] at hcM
          have HST := Lib.hid hst
          have HMS := Lib.hid hms
          clear hst hms hma hmt ho
          generalize l[k] = x at hc hO hxb hcM HMS
          obtain ⟨xn, rfl⟩ := Int.eq_ofNat_of_zero_le hxb.1
          simp only [Int.toNat_natCast] at hcM HMS
          subst hBA
          go_wp2_with (go_at_call 152; refine (outside_out _ _ _ _).mono ?_; rintro e w' ⟨rfl, rfl⟩)
          go_roundw
          case rel => exact ⟨k + 1, by omega, by go_num, HST.out, by rw [HMS.out, ← boolsV_set]; exact bM.set_ _ _, hnx.setCell (p := ⟨w1.heap.size, xn, none⟩) (Nat.le_refl _) _⟩
          case measure => simp [intOf]; omega
    · obtain rfl : k = l.length := by omega
      have hin := LsE_all hno
      have hT : TnE s j i us l u al = if hasAny us l u = true then al else 0 := by
        unfold TnE
        rw [if_pos HE.out, if_pos hno]
      have HT := Lib.hid hT
      clear hT
      have HIN := Lib.hid hin
      clear hin
      go_wp2_with fail
      refine (containsFunc_any s j i A Bl c cb us l u w.heap.size (w.heap.size + 1) HIN.out hus hl _ hRw hBw bS2 bU2).mono ?_
      rintro e w5 ⟨rfl, hb5⟩
      have bS5 := bS2.belowAll hb5
      have bU5 := bU2.belowAll hb5
      have bR5 := bR2.belowAll hb5
      have B5 := B2.trans (hb5.mono B2.size)
      have hR5 := hRw.below hb5
      have hB5 := hBw.below hb5
      clear hb5 bS2 bU2 bR2 cS cU cR fR lR2
      have cS := bS5.cells
      have cU := bU5.cells
      have cR := bR5.cells
      have fR := bR5.free
      have lR5 := bR5.lt
      cases hh : hasAny us l u
      · have HT2 : Hid (TnE s j i us l u al = 0) := Lib.hid (by rw [HT.out, hh]; rfl)
        clear hh HT
        go_wp2_with fail
        refine (set_any s j i A Bl c cb us l u _ hR5 (by omega) hus hB5 hl HIN.out).mono ?_
        rintro e w6 ⟨g, cap, rfl, hown6, hb6⟩
        have bR6 := bR5.belowAll hb6
        have B6 := B5.trans (hb6.mono B5.size)
        clear cR fR
        have cR := bR6.cells
        have fR := bR6.free
        have lR6 := bR6.lt
        go_wp2_with fail
        refine bodyPost_ret (v := .tuple #[.agg #[.int .i64 s, .int .i64 j, .int .i64 i, .slice (some ⟨g, 0, none⟩) us.length cap], .int .i64 0]) (by simp [results, Tryz.results168, go_sem, cR, lR6]) rfl ?_
        have hz5 := B5.size
        refine ⟨by (repeat' (first | (with_reducible exact Below.refl _ _) | (with_reducible assumption) | (with_reducible refine Below.alloc ?_ ?_ _) | (with_reducible refine Below.drew ?_) | (with_reducible refine below_drewN' ?_ _) | (with_reducible refine Below.setCell ?_ ?_ _) | (with_reducible exact Nat.le_refl _) | omega | (simp; done) | (simp; omega))), .inr ⟨HT2.out, g, cap, rfl, own_base (base := w.heap.size + 3) ?_ (by omega)⟩⟩
        exact ownsRow_setCell_below (ownsRow_setCell_below (ownsRow_setCell_below (ownsRow_setCell_below (own_base hown6 (by omega)) (by simp) _) (by simp) _) (by simp) _) (by simp) _
      · have HT2 : Hid (TnE s j i us l u al = al) := Lib.hid (by rw [HT.out, hh]; rfl)
        clear hh HT
        go_wp2_with fail
        refine bodyPost_ret (v := .tuple #[.agg #[.int .i64 s, .int .i64 j, .int .i64 i, .slice A us.length c], .int .i64 al]) (by simp [results, Tryz.results168, go_sem, cR, lR5]) rfl ?_
        exact TnPost.bad HAL.out HT2.out (by (repeat' (first | (with_reducible exact Below.refl _ _) | (with_reducible assumption) | (with_reducible refine Below.alloc ?_ ?_ _) | (with_reducible refine Below.drew ?_) | (with_reducible refine below_drewN' ?_ _) | (with_reducible refine Below.setCell ?_ ?_ _) | (with_reducible exact Nat.le_refl _) | omega | (simp; done) | (simp; omega))))

set_option maxHeartbeats 400000 in
theorem turn_any (s j i : Int) (A Bl : Option Addr) (c cb : Nat) (us : List Bool) (l : List Int) (u : Bool) (al : Int) (hal : al ≠ 0) (hus : us.length ≤ 1000) (hl : l.length ≤ 1000) (w : World) (hR : Reads w A (us.map .bool)) (hB : Reads w Bl (l.map (.int .i64))) :
    Calls Tryz.prog 168 #[.agg #[.int .i64 s, .int .i64 j, .int .i64 i, .slice A us.length c], .slice Bl l.length cb, .bool u, .int .i64 al] w (TnPost s j i A c us l u al w) := by
  by_cases hE : CkE s j i us.length = 0
  · exact turn_ok s j i A Bl c cb us l u al hal hus hl w hR hB hE
  · have hE' : (CkE s j i us.length != 0) = true := by simpa using hE
    have hT : TnE s j i us l u al = CkE s j i us.length := by unfold TnE; rw [if_neg hE]
    have HT := Lib.hid hT
    have HE := Lib.hid hE
    clear hE hT
    go_enter Tryz.func168, Tryz.ntmps168
    go_wp2_with fail
    refine (check_any s j i A us.length c _ (by unfold maxLen; omega)).mono ?_
    rintro e w1 ⟨rfl, hb1⟩
    have bS : Blk w1 w.heap.size 53 #[.int .i64 s, .int .i64 j, .int .i64 i, .slice A us.length c] := Blk.belowAll (by (repeat' (first | (with_reducible assumption) | exact Blk.new' (by simp) | refine Blk.alloc ?_ _))) hb1
    have bR : Blk w1 (w.heap.size + 2) 53 #[.int .i64 0, .int .i64 0, .int .i64 0, .slice none 0 0] := Blk.belowAll (by (repeat' (first | (with_reducible assumption) | exact Blk.new' (by simp) | refine Blk.alloc ?_ _))) hb1
    have B1 : Below w.heap.size w w1 := below3 hb1
    clear hb1
    have cS := bS.cells
    have cR := bR.cells
    have fR := bR.free
    have lR := bR.lt
    go_wp2_with fail
    refine bodyPost_ret (v := .tuple #[.agg #[.int .i64 s, .int .i64 j, .int .i64 i, .slice A us.length c], .int .i64 (CkE s j i us.length)]) (by simp [results, Tryz.results168, go_sem, cR, lR]) rfl ?_
    exact TnPost.bad HE.out HT.out (by (repeat' (first | (with_reducible exact Below.refl _ _) | (with_reducible assumption) | (with_reducible refine Below.alloc ?_ ?_ _) | (with_reducible refine Below.drew ?_) | (with_reducible refine below_drewN' ?_ _) | (with_reducible refine Below.setCell ?_ ?_ _) | (with_reducible exact Nat.le_refl _) | omega | (simp; done) | (simp; omega))))

set_option maxHeartbeats 400000 in
theorem take_any (s j i : Int) (A Bl : Option Addr) (c cb : Nat) (us : List Bool) (l : List Int) (hus : us.length ≤ 1000) (hl : l.length ≤ 1000) (w : World) (hR : Reads w A (us.map .bool)) (hB : Reads w Bl (l.map (.int .i64))) :
    Calls Tryz.prog 116 #[.agg #[.int .i64 s, .int .i64 j, .int .i64 i, .slice A us.length c], .slice Bl l.length cb] w (TnPost s j i A c us l true 9 w) := by
  go_enter Tryz.func116, Tryz.ntmps116
  go_wp2_with fail
  refine (turn_any s j i A Bl c cb us l true 9 (by decide) hus hl _ ((hR.alloc _).alloc _) ((hB.alloc _).alloc _)).mono ?_
  rintro e w1 ⟨hb1, ⟨hE, rfl⟩ | ⟨hE, g, cap, rfl, hown⟩⟩
  all_goals
    have HE := Lib.hid hE
    clear hE
    have bR : Blk w1 (w.heap.size + 1) 53 #[.int .i64 0, .int .i64 0, .int .i64 0, .slice none 0 0] := Blk.belowAll (by (repeat' (first | (with_reducible assumption) | exact Blk.new' (by simp) | refine Blk.alloc ?_ _))) hb1
    have B1 : Below w.heap.size w w1 := below2 hb1
    clear hb1
    have cR := bR.cells
    have fR := bR.free
    have lR := bR.lt
    go_wp2_with fail
  · refine bodyPost_ret (v := .tuple #[.agg #[.int .i64 s, .int .i64 j, .int .i64 i, .slice A us.length c], .int .i64 (TnE s j i us l true 9)]) (by simp [results, Tryz.results116, go_sem, cR, lR]) rfl ?_
    exact ⟨by (repeat' (first | (with_reducible exact Below.refl _ _) | (with_reducible assumption) | (with_reducible refine Below.alloc ?_ ?_ _) | (with_reducible refine Below.drew ?_) | (with_reducible refine below_drewN' ?_ _) | (with_reducible refine Below.setCell ?_ ?_ _) | (with_reducible exact Nat.le_refl _) | omega | (simp; done) | (simp; omega))), .inl ⟨HE.out, rfl⟩⟩
  · refine bodyPost_ret (v := .tuple #[.agg #[.int .i64 s, .int .i64 j, .int .i64 i, .slice (some ⟨g, 0, none⟩) us.length cap], .int .i64 0]) (by simp [results, Tryz.results116, go_sem, cR, lR]) rfl ?_
    refine ⟨by (repeat' (first | (with_reducible exact Below.refl _ _) | (with_reducible assumption) | (with_reducible refine Below.alloc ?_ ?_ _) | (with_reducible refine Below.drew ?_) | (with_reducible refine below_drewN' ?_ _) | (with_reducible refine Below.setCell ?_ ?_ _) | (with_reducible exact Nat.le_refl _) | omega | (simp; done) | (simp; omega))), .inr ⟨HE.out, g, cap, rfl, own_base (base := w.heap.size + 2) ?_ (by omega)⟩⟩
    exact ownsRow_setCell_below (ownsRow_setCell_below (ownsRow_setCell_below (ownsRow_setCell_below (own_base hown (by simp)) (by simp) _) (by simp) _) (by simp) _) (by simp) _
set_option maxHeartbeats 400000 in
theorem freeb_any (s j i : Int) (A Bl : Option Addr) (c cb : Nat) (us : List Bool) (l : List Int) (hus : us.length ≤ 1000) (hl : l.length ≤ 1000) (w : World) (hR : Reads w A (us.map .bool)) (hB : Reads w Bl (l.map (.int .i64))) :
    Calls Tryz.prog 118 #[.agg #[.int .i64 s, .int .i64 j, .int .i64 i, .slice A us.length c], .slice Bl l.length cb] w (TnPost s j i A c us l false 4 w) := by
  go_enter Tryz.func118, Tryz.ntmps118
  go_wp2_with fail
  refine (turn_any s j i A Bl c cb us l false 4 (by decide) hus hl _ ((hR.alloc _).alloc _) ((hB.alloc _).alloc _)).mono ?_
  rintro e w1 ⟨hb1, ⟨hE, rfl⟩ | ⟨hE, g, cap, rfl, hown⟩⟩
  all_goals
    have HE := Lib.hid hE
    clear hE
    have bR : Blk w1 (w.heap.size + 1) 53 #[.int .i64 0, .int .i64 0, .int .i64 0, .slice none 0 0] := Blk.belowAll (by (repeat' (first | (with_reducible assumption) | exact Blk.new' (by simp) | refine Blk.alloc ?_ _))) hb1
    have B1 : Below w.heap.size w w1 := below2 hb1
    clear hb1
    have cR := bR.cells
    have fR := bR.free
    have lR := bR.lt
    go_wp2_with fail
  · refine bodyPost_ret (v := .tuple #[.agg #[.int .i64 s, .int .i64 j, .int .i64 i, .slice A us.length c], .int .i64 (TnE s j i us l false 4)]) (by simp [results, Tryz.results118, go_sem, cR, lR]) rfl ?_
    exact ⟨by (repeat' (first | (with_reducible exact Below.refl _ _) | (with_reducible assumption) | (with_reducible refine Below.alloc ?_ ?_ _) | (with_reducible refine Below.drew ?_) | (with_reducible refine below_drewN' ?_ _) | (with_reducible refine Below.setCell ?_ ?_ _) | (with_reducible exact Nat.le_refl _) | omega | (simp; done) | (simp; omega))), .inl ⟨HE.out, rfl⟩⟩
  · refine bodyPost_ret (v := .tuple #[.agg #[.int .i64 s, .int .i64 j, .int .i64 i, .slice (some ⟨g, 0, none⟩) us.length cap], .int .i64 0]) (by simp [results, Tryz.results118, go_sem, cR, lR]) rfl ?_
    refine ⟨by (repeat' (first | (with_reducible exact Below.refl _ _) | (with_reducible assumption) | (with_reducible refine Below.alloc ?_ ?_ _) | (with_reducible refine Below.drew ?_) | (with_reducible refine below_drewN' ?_ _) | (with_reducible refine Below.setCell ?_ ?_ _) | (with_reducible exact Nat.le_refl _) | omega | (simp; done) | (simp; omega))), .inr ⟨HE.out, g, cap, rfl, own_base (base := w.heap.size + 2) ?_ (by omega)⟩⟩
    exact ownsRow_setCell_below (ownsRow_setCell_below (ownsRow_setCell_below (ownsRow_setCell_below (own_base hown (by simp)) (by simp) _) (by simp) _) (by simp) _) (by simp) _

end Go.Proofs.YtloddiipepiocaaGreatDoor
/- Layer 10: Read, Write, Take, Free of a transaction in plain words. No program in sight. -/
namespace Go.Proofs.YtloddiipepiocaaGreatDoor
open Go.RowKit Go.Maps

/-- The record of a transaction for a sector. -/
def TxS.look (y : TxS) (a : Int) : Option Rec := if a = 1 + y.j ∧ y.changed = true then some ⟨1 + y.j, 5, mapS y.now⟩ else atRec y.writes a
def TxS.readR (y : TxS) (x : DevS) (a : Int) : Int × ByteArray × Int :=
  match y.look a with | some r => (r.kind, r.data, 0) | none => ((x.fr a).kind, (x.fr a).data, x.ge a)
def TxS.read (y : TxS) (x : DevS) (a : Int) : Int × ByteArray × Int :=
  if y.stateE ≠ 0 then (0, ⟨#[]⟩, y.stateE) else if a < 0 ∨ y.s ≤ a then (0, ⟨#[]⟩, 7) else y.readR x a

def TxS.writeE (y : TxS) (a k : Int) (n : Nat) : Int :=
  if (1 ≤ a ∧ a < 1 + y.j) ∨ a = 1 + y.j then 2 else if (a < 0 ∨ y.s ≤ a) ∨ k < 1 ∨ 255 < k then 7 else if 96 < n then 3 else if (atRec y.writes a).isNone = true ∧ y.left < 1 then 12 else 0
def TxS.brk (y : TxS) : TxS := { y with broken := true }
def TxS.write (y : TxS) (a k : Int) (d : ByteArray) : Int × TxS :=
  if y.stateE ≠ 0 then (y.stateE, y) else if y.writeE a k d.size ≠ 0 then (y.writeE a k d.size, y.brk) else (0, { y with writes := insRec y.writes ⟨a, k, d⟩ })

def orL (a b : List Bool) : List Bool := List.zipWith (· || ·) a b
def TxS.may (y : TxS) : List Bool := orL y.now y.was

/-- Take. -/
def TxS.takeE (y : TxS) (near many : Int) : Int :=
  if AlE y.s y.j y.i y.may near many ≠ 0 then AlE y.s y.j y.i y.may near many else y.changeE (allocd y.may near.toNat many.toNat).length
def TxS.take (y : TxS) (near many : Int) : Int × TxS :=
  if y.stateE ≠ 0 then (y.stateE, y) else if y.takeE near many ≠ 0 then (y.takeE near many, y.brk)
  else (0, y.change (setAll y.now (allocd y.may near.toNat many.toNat) true) (allocd y.may near.toNat many.toNat).length)
def TxS.takeL (y : TxS) (near many : Int) : List Int :=
  if y.stateE ≠ 0 then [] else if y.takeE near many ≠ 0 then [] else allocd y.may near.toNat many.toNat

/-- Free. -/
def TxS.freeE (y : TxS) (l : List Int) : Int :=
  if TnE y.s y.j y.i y.now l false 4 ≠ 0 then TnE y.s y.j y.i y.now l false 4 else y.changeE l.length
def TxS.free (y : TxS) (l : List Int) : Int × TxS :=
  if y.stateE ≠ 0 then (y.stateE, y) else if y.freeE l ≠ 0 then (y.freeE l, y.brk) else (0, y.change (setAll y.now l false) l.length)

end Go.Proofs.YtloddiipepiocaaGreatDoor
/- Layer 8: what Alloc takes, in plain lists: different blocks that are free. No program in sight. -/
namespace Go.Proofs.YtloddiipepiocaaGreatDoor
open Go.RowKit

theorem goRound_mem {us : List Bool} {near k : Nat} {x : Int} (h : x ∈ goRound us near k) : ∃ i, i < k ∧ us[(near + i) % us.length]? = some false ∧ x = (((near + i) % us.length : Nat) : Int) := by
  unfold goRound at h
  simp only [List.mem_map, List.mem_filter, List.mem_range, beq_iff_eq] at h
  obtain ⟨i, ⟨h1, h2⟩, rfl⟩ := h
  exact ⟨i, h1, h2, by simp⟩
theorem step_inj {n near i k : Nat} (hi : i < k) (hk : k < n) (hn : near < n) (h : (near + i) % n = (near + k) % n) : False := by
  have h1 : near + i < n ∨ n ≤ near + i := by omega
  have h2 : near + k < n ∨ n ≤ near + k := by omega
  rcases h1 with h1 | h1 <;> rcases h2 with h2 | h2
  · rw [Nat.mod_eq_of_lt h1, Nat.mod_eq_of_lt h2] at h; omega
  · rw [Nat.mod_eq_of_lt h1, Nat.mod_eq_sub_mod h2, Nat.mod_eq_of_lt (by omega)] at h; omega
  · rw [Nat.mod_eq_of_lt h2, Nat.mod_eq_sub_mod h1, Nat.mod_eq_of_lt (by omega)] at h; omega
  · rw [Nat.mod_eq_sub_mod h1, Nat.mod_eq_sub_mod h2, Nat.mod_eq_of_lt (by omega), Nat.mod_eq_of_lt (by omega)] at h; omega

theorem frees_nodup_aux {us : List Bool} {near : Nat} (hn : near < us.length) : ∀ k, k ≤ us.length → ∀ p, (hp : p < (goRound us near k).length) → (goRound us near k)[p] ∉ (goRound us near k).take p := by
  intro k
  induction k with
  | zero => intro _ p hp; rw [goRound_0] at hp; simp at hp
  | succ k ih =>
    intro hk p hp
    have ih := ih (by omega)
    have hm : (near + k) % us.length < us.length := Nat.mod_lt _ (by omega)
    cases hu : us[(near + k) % us.length]
    · have hh := goRound_hit (us := us) (near := near) (k := k) (by rw [List.getElem?_eq_getElem hm, hu])
      have hcast : ((near : Int) + (k : Int)) % (us.length : Int) = (((near + k) % us.length : Nat) : Int) := by simp
      simp only [hh, List.length_append, List.length_singleton] at hp ⊢
      by_cases hp2 : p < (goRound us near k).length
      · rw [List.getElem_append_left hp2, List.take_append_of_le_length (by omega)]
        exact ih p hp2
      · have : p = (goRound us near k).length := by omega
        subst this
        rw [List.getElem_append_right (by omega), List.take_append_of_le_length (by omega), List.take_length]
        simp only [Nat.sub_self, List.getElem_singleton]
        rw [hcast]
        intro hmem
        obtain ⟨i, hi, _, he⟩ := goRound_mem hmem
        have : (near + k) % us.length = (near + i) % us.length := by exact_mod_cast he
        exact step_inj hi (by omega) hn this.symm
    · have hh := goRound_miss (us := us) (near := near) (k := k) (by rw [List.getElem?_eq_getElem hm, hu])
      simp only [hh] at hp ⊢
      exact ih p hp

theorem allocd_LsE {us : List Bool} {f mn : Nat} (hf : f < us.length) : LsE us.length (allocd us f mn) (allocd us f mn).length = 0 := by
  refine LsE_of (fun k hk => ?_) (Nat.le_refl _)
  have hin := allocd_in (us := us) (near := f) (many := mn) (by omega) _ (List.getElem_mem hk)
  refine ⟨hin.1, hin.2, ?_⟩
  have hk2 : k < (frees us f).length := by unfold allocd at hk; rw [List.length_take] at hk; omega
  have h := frees_nodup_aux hf us.length (Nat.le_refl _) k hk2
  have hkm : k < mn := by unfold allocd at hk; rw [List.length_take] at hk; omega
  have hval : (allocd us f mn)[k] = (frees us f)[k] := by
    have : (allocd us f mn)[k]? = (frees us f)[k]? := by unfold allocd; rw [List.getElem?_take, if_pos hkm]
    rw [List.getElem?_eq_getElem hk, List.getElem?_eq_getElem hk2] at this
    exact Option.some.inj this
  have htk : (allocd us f mn).take k = (frees us f).take k := by unfold allocd; rw [List.take_take, Nat.min_eq_left (by omega)]
  rw [hval, htk]
  exact h
theorem allocd_free {us : List Bool} {f mn : Nat} {b : Int} (h : b ∈ allocd us f mn) : us.getD b.toNat false = false := by
  obtain ⟨i, _, hu, rfl⟩ := goRound_mem (List.mem_of_mem_take h)
  rw [List.getD_eq_getElem?_getD, Int.toNat_natCast, hu]; rfl
theorem allocd_nonneg {us : List Bool} {f mn : Nat} (hf : f < us.length) : ∀ x ∈ allocd us f mn, 0 ≤ x := fun x hx => (allocd_in (by omega) x hx).1


theorem orL_length {a b : List Bool} (h : a.length = b.length) : (orL a b).length = a.length := by unfold orL; rw [List.length_zipWith, h, Nat.min_self]
theorem orL_getD {a b : List Bool} (h : a.length = b.length) (k : Nat) : (orL a b).getD k false = (a.getD k false || b.getD k false) := by
  unfold orL
  rw [List.getD_eq_getElem?_getD, List.getD_eq_getElem?_getD, List.getD_eq_getElem?_getD, List.getElem?_zipWith]
  by_cases hk : k < a.length
  · rw [List.getElem?_eq_getElem hk, List.getElem?_eq_getElem (h ▸ hk)]; rfl
  · rw [List.getElem?_eq_none (by omega), List.getElem?_eq_none (by omega)]; rfl

/-- Take of what Alloc took of the blocks that may be taken. -/
theorem take_may {s j i : Int} {us ws : List Bool} {f mn : Nat} (hl : us.length = ws.length) (hE : CkE s j i us.length = 0) (hf : f < us.length) : TnE s j i us (allocd (orL us ws) f mn) true 9 = 0 := by
  unfold TnE
  rw [if_pos hE]
  have h1 := allocd_LsE (us := orL us ws) (f := f) (mn := mn) (by rw [orL_length hl]; exact hf)
  rw [orL_length hl] at h1
  rw [if_pos h1, if_neg]
  intro h
  obtain ⟨b, hb, he⟩ := List.any_eq_true.1 h
  have h2 := allocd_free hb
  rw [orL_getD hl] at h2
  have h3 : us.getD b.toNat false = false := by cases h : us.getD b.toNat false <;> simp_all
  rw [h3] at he
  exact absurd he (by decide)

end Go.Proofs.YtloddiipepiocaaGreatDoor
/- Layer 10: Read. -/
namespace Go.Proofs.YtloddiipepiocaaGreatDoor
open Go.RowKit Go.Maps

def zRec : Rec := ⟨0, 0, ⟨#[]⟩⟩
theorem zeroRec (w : World) : (zeroValue 136).run Tryz.prog w = .ok (.agg (recC zRec)) w := by
  obtain ⟨i0, hi, hz, hs, hb⟩ := info_parts Tryz.infoRec
  unfold zeroValue
  simp [Sem.run_bind, typeInfo, hi, hz, go_sem, Result.andThen]
  rfl
theorem lookR {w : World} {M : Nat} {l : List Rec} {E : DataW Unit} (hE : RecMap E l) (hO : w.ownsMap Tryz.prog 3 recR M l.length E) {a : Int} (ha : -9223372036854775808 ≤ a ∧ a ≤ 9223372036854775807) :
    (Instr.lookup 124 (.map (some M)) (.int .i64 a) true).run Tryz.prog w = .ok (.tuple #[.agg (recC ((atRec l a).getD zRec)), .bool (atRec l a).isSome]) w := by
  obtain ⟨v, ps, hrun, hv⟩ := hO.look_ok keyInt Tryz.underlying124 (zeroRec w) (recR_mk zRec) (keyOf_int_mk Tryz.underlying3 (wf_i64 ha))
  rw [hrun, hE.has_]
  rw [hE.at_] at hv
  cases h : atRec l a with
  | none => rw [h] at hv; rw [recR_inv hv]; rfl
  | some r => rw [h] at hv; rw [recR_inv hv]; rfl

theorem readE_bad {y : TxS} {x : DevS} {a : Int} (h : y.stateE ≠ 0) : y.read x a = (0, ⟨#[]⟩, y.stateE) := by unfold TxS.read; rw [if_pos h]

set_option maxRecDepth 100000 in
set_option maxHeartbeats 2000000 in
theorem txread_bad (tv : Value) (E : Int) (a : Int) (w : World) (h : StE w tv E) (hE : E ≠ 0) :
    Calls Tryz.prog 59 #[tv, .int .i64 a] w fun e w' => e = .returned (.tuple #[.int .i64 0, .string ⟨#[]⟩, .int .i64 E]) ∧ Below w.heap.size w w' := by
  have hst := state_any tv E w h
  have hE' : (E != 0) = true := by simpa using hE
  clear hE
  go_enter Tryz.func59, Tryz.ntmps59
  go_wp2_with fail
  refine hst.mono ?_
  rintro e w1 ⟨rfl, hb1⟩
  go_wp2_with fail
  refine bodyPost_ret (v := .tuple #[.int .i64 0, .string ⟨#[]⟩, .int .i64 E]) (by simp [results, Tryz.results59, go_sem]) rfl ?_
  exact ⟨rfl, hb1⟩

set_option maxRecDepth 100000 in
set_option maxHeartbeats 2000000 in
theorem txread_range (T : Nat) (F : List Nat) (D : Nat) (y : TxS) (a : Int) (w : World) (h : TxAt w T F D y) (hE : y.stateE = 0) (ha : a < 0 ∨ y.s ≤ a) :
    Calls Tryz.prog 59 #[.pointer (some ⟨T, 0, none⟩), .int .i64 a] w fun e w' => e = .returned (.tuple #[.int .i64 0, .string ⟨#[]⟩, .int .i64 7]) ∧ Below w.heap.size w w' := by
  have hst := state_any _ _ w h.st
  rw [hE] at hst
  rcases Int.lt_or_le a 0 with h0 | h0
  · have hd : decide (a < 0) = true := by simpa using h0
    clear ha h0 h
    go_enter Tryz.func59, Tryz.ntmps59
    go_wp2_with fail
    refine hst.mono ?_
    rintro e w1 ⟨rfl, hb1⟩
    go_wp2_with fail
    refine bodyPost_ret (v := .tuple #[.int .i64 0, .string ⟨#[]⟩, .int .i64 7]) (by simp [results, Tryz.results59, go_sem]) rfl ?_
    exact ⟨rfl, hb1⟩
  · have hd : decide (a < 0) = false := by simpa using h0
    have hd2 : decide (y.s ≤ a) = true := by simp; omega
    clear ha
    go_enter Tryz.func59, Tryz.ntmps59
    go_wp2_with fail
    refine hst.mono ?_
    rintro e w1 ⟨rfl, hb1⟩
    obtain ⟨ok, ⟨M, wv, nv, bT, -⟩, lt⟩ := h.below hb1
    have c1 : w1.cell? ⟨T, 1, none⟩ = some (.int .i64 y.s) := (bT.cells 1).trans rfl
    have lT := bT.lt
    clear bT ok lt h
    go_wp2_with fail
    refine bodyPost_ret (v := .tuple #[.int .i64 0, .string ⟨#[]⟩, .int .i64 7]) (by simp [results, Tryz.results59, go_sem]) rfl ?_
    exact ⟨rfl, hb1⟩

end Go.Proofs.YtloddiipepiocaaGreatDoor
