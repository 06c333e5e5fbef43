/- BlocksUndo, walked. -/
import Derived.Test.YtenfheheepkfbaaU1
import Derived.Test.YtenfheheepkfbaaT4
import Derived.Test.YtenfheheepkfbaaW6
import Derived.Test.YtenfheheepkfbaaW4
namespace Go.Proofs.Ytenfheheepkfbaa
open Go.RowKit

theorem runs_yes (s j i : Int) (A : Option Addr) (c : Nat) (us : List Bool) (n m : Nat) (hn : us.length = n) (hm : (runsL us).length = m * 2) (hus : us.length ≤ 1000) (w : World) (hR : Reads w A (us.map .bool)) (hE : CkE s j i n = 0) :
    Calls Try.prog 29 #[.agg #[.int .i64 s, .int .i64 j, .int .i64 i, .slice A n c]] w fun e w' => Below w.heap.size w w' ∧ ∃ av cv, e = .returned (.tuple #[.slice av m cv, .int .i64 0]) ∧ Reads w' av ((runsL us).map (.int .i64)) := by
  subst hn
  refine (runs_any s j i A c us hus w hR).mono ?_
  rintro e w' ⟨hb, ⟨h, _⟩ | ⟨_, av, cv, he, ho⟩⟩
  · exact absurd hE h
  · have h2 : (runsL us).length / 2 = m := by omega
    rw [h2] at he ho
    exact ⟨hb, av, cv, he, Reads.of_own2 ho⟩
theorem count_yes (s j i : Int) (A : Option Addr) (c : Nat) (us : List Bool) (n : Nat) (hn : us.length = n) (hus : us.length ≤ 1000) (w : World) (hR : Reads w A (us.map .bool)) (hE : CkE s j i n = 0) :
    Calls Try.prog 19 #[.agg #[.int .i64 s, .int .i64 j, .int .i64 i, .slice A n c]] w fun e w' => e = .returned (.tuple #[.int .i64 ((frees us 0).length : Int), .int .i64 0]) ∧ Below w.heap.size w w' := by
  subst hn
  have h := count_any s j i A c us hus w hR
  unfold CountN at h
  rw [if_pos hE, hE] at h
  exact h
theorem same_yes (s j i : Int) (A B : Option Addr) (c d : Nat) (us : List Bool) (n : Nat) (hn : us.length = n) (w : World) (hx : Reads w A (us.map .bool)) (hy : Reads w B (us.map .bool)) (hu : us.length ≤ 1000) :
    Calls Try.prog 17 #[.agg #[.int .i64 s, .int .i64 j, .int .i64 i, .slice A n c], .agg #[.int .i64 s, .int .i64 j, .int .i64 i, .slice B n d]] w fun e w' => e = .returned (.bool true) ∧ Below w.heap.size w w' := by
  subst hn
  exact same_self s j i A B c d us w hx hy hu
theorem takes_yes (s j i : Int) (A Bl : Option Addr) (c cb : Nat) (us : List Bool) (l : List Int) (n m : Nat) (hn : us.length = n) (hm : l.length = m) (hus : us.length ≤ 1000) (hl : l.length ≤ 1000) (w : World) (hR : Reads w A (us.map .bool)) (hB : Reads w Bl (l.map (.int .i64))) (h0 : TnE s j i us l true 9 = 0) (vs : List Bool) (hv : setAll us l true = vs) :
    Calls Try.prog 33 #[.agg #[.int .i64 s, .int .i64 j, .int .i64 i, .slice A n c], .slice Bl m cb] w fun e w' => Below w.heap.size w w' ∧ ∃ A' c', e = .returned (.tuple #[.agg #[.int .i64 s, .int .i64 j, .int .i64 i, .slice A' n c'], .int .i64 0]) ∧ Reads w' A' (vs.map .bool) := by
  subst hn hv hm
  refine (take_any s j i A Bl c cb us l hus hl w hR hB).mono ?_
  rintro e w' ⟨hb, ⟨h, _⟩ | ⟨_, g, cap, he, ho⟩⟩
  · exact absurd h0 h
  · exact ⟨hb, _, cap, he, Reads.of_own ho⟩
theorem frees_yes (s j i : Int) (A Bl : Option Addr) (c cb : Nat) (us : List Bool) (l : List Int) (n m : Nat) (hn : us.length = n) (hm : l.length = m) (hus : us.length ≤ 1000) (hl : l.length ≤ 1000) (w : World) (hR : Reads w A (us.map .bool)) (hB : Reads w Bl (l.map (.int .i64))) (h0 : TnE s j i us l false 4 = 0) (vs : List Bool) (hv : setAll us l false = vs) :
    Calls Try.prog 35 #[.agg #[.int .i64 s, .int .i64 j, .int .i64 i, .slice A n c], .slice Bl m cb] w fun e w' => Below w.heap.size w w' ∧ ∃ A' c', e = .returned (.tuple #[.agg #[.int .i64 s, .int .i64 j, .int .i64 i, .slice A' n c'], .int .i64 0]) ∧ Reads w' A' (vs.map .bool) := by
  subst hn hv hm
  refine (freeb_any s j i A Bl c cb us l hus hl w hR hB).mono ?_
  rintro e w' ⟨hb, ⟨h, _⟩ | ⟨_, g, cap, he, ho⟩⟩
  · exact absurd h0 h
  · exact ⟨hb, _, cap, he, Reads.of_own ho⟩

theorem alloc_own (s j i : Int) (A : Option Addr) (c : Nat) (us : List Bool) (f mn : Nat) (w : World) (hus : us.length ≤ 1000) (hR : Reads w A (us.map .bool)) (hE : CkE s j i us.length = 0) (hf : f < us.length) (hm : mn ≤ nfree us) :
    Calls Try.prog 13 #[.agg #[.int .i64 s, .int .i64 j, .int .i64 i, .slice A us.length c], .int .i64 f, .int .i64 mn] w fun e w' => Below w.heap.size w w' ∧
      ∃ g c2 av cv, e = .returned (.tuple #[.agg #[.int .i64 s, .int .i64 j, .int .i64 i, .slice (some ⟨g, 0, none⟩) us.length c2], .slice av mn cv, .int .i64 0]) ∧
        w'.ownsRow w.heap.size 4 1 (.slice (some ⟨g, 0, none⟩) us.length c2) us.length ((setAll us (allocd us f mn) true).map .bool) ∧ w'.ownsRow w.heap.size 3 1 (.slice av mn cv) mn ((allocd us f mn).map (.int .i64)) := by
  refine (alloc_loop s j i A c f mn us hf hus w hR hE).mono ?_
  rintro e w' ⟨hb, ⟨h, _⟩ | ⟨_, g, cap, av, cv, he, h1, h2⟩⟩
  · rw [frees_len hf] at h; omega
  · have hl : (allocd us f mn).length = mn := by unfold allocd; rw [List.length_take, frees_len hf]; omega
    rw [hl] at he h2
    exact ⟨hb, g, cap, av, cv, he, h1, h2⟩

set_option maxRecDepth 100000 in
set_option maxHeartbeats 4000000 in
theorem undoLaw_any (s j i : Int) (A : Option Addr) (c : Nat) (us : List Bool) (nr mn : Nat) (w : World) (hml : us.length ≤ maxLen) (hnr : nr ≤ 65535) (hmn : mn ≤ 255) (hR : Reads w A (us.map .bool)) :
    Calls Try.prog 10 #[.agg #[.int .i64 s, .int .i64 j, .int .i64 i, .slice A us.length c], .int .u16 nr, .int .u8 mn] w fun e w' => e = .returned (.bool true) ∧ Below w.heap.size w w' := by
  have hml' := hml
  unfold maxLen at hml'
  by_cases h300 : 300 < us.length
  · have hd : decide (300 < us.length) = true := by simpa using h300
    go_enter Try.func10, Try.ntmps10
    go_wp2_with fail
    refine (far_any s j i A us.length c _ hml).mono ?_
    rintro e w1 ⟨rfl, hb1⟩
    have B1 := below1 hb1
    clear hb1
    go_wp2_with fail
    refine (awake_any _).mono ?_
    rintro e w2 ⟨rfl, hb2⟩
    have B2 := B1.trans (hb2.mono B1.size)
    clear hb2
    go_wp2_with fail
    go_ret
    exact ⟨rfl, B2⟩
  have hd : decide (300 < us.length) = false := by simp; omega
  by_cases hE : CkE s j i us.length = 0
  rotate_left
  · have hE1 : (CkE s j i us.length != 0) = true := by simpa using hE
    clear hE
    go_enter Try.func10, Try.ntmps10
    go_wp2_with fail
    refine (far_any s j i A us.length c _ hml).mono ?_
    rintro e w1 ⟨rfl, hb1⟩
    have bS : Blk w1 w.heap.size 26 #[.int .i64 s, .int .i64 j, .int .i64 i, .slice A us.length c] := Blk.belowAll (by (repeat' (first | (with_reducible assumption) | exact Blk.new' (by simp) | refine Blk.alloc ?_ _))) hb1
    have B1 := below1 hb1
    have cS := bS.cells
    clear hb1
    go_wp2_with fail
    refine (check_any s j i A us.length c _ hml).mono ?_
    rintro e w2 ⟨rfl, hb2⟩
    have B2 := B1.trans (hb2.mono B1.size)
    clear hb2 cS
    go_wp2_with fail
    refine (awake_any _).mono ?_
    rintro e w3 ⟨rfl, hb3⟩
    have B3 := B2.trans (hb3.mono B2.size)
    clear hb3
    go_wp2_with fail
    go_ret
    exact ⟨rfl, B3⟩
  have hE1 : (CkE s j i us.length != 0) = false := by simpa using hE
  have hn8 : 8 ≤ us.length := (ckE_len hE).2.2.1
  have hn256 : us.length ≤ 256 := (ckE_len hE).2.2.2
  have hn0 : ((us.length : Int) == 0) = false := by rw [beq_eq_false_iff_ne]; omega
  have hfF : (nr : Int) % (us.length : Int) = ((nr % us.length : Nat) : Int) := by simp
  have hfT : (nr : Int).tmod (us.length : Int) = ((nr % us.length : Nat) : Int) := by rw [Int.tmod_eq_emod_of_nonneg (by omega)]; exact hfF
  have hflt : nr % us.length < us.length := Nat.mod_lt _ (by omega)
  have HE := Lib.hid hE
  clear hE
  have hz1 : ¬ (us.length : Int) = 0 := by omega
  have hz2 : ¬ us.length = 0 := by omega
  have hz3 : ¬ us = [] := by intro h; rw [h] at hn8; simp at hn8
  generalize hfd : nr % us.length = f at hflt hfF hfT
  clear hfd
  have hwn : IntKind.i64.wrap (nr : Int) = (nr : Int) := by rw [IntKind.wrap_i64]; omega
  have hwm : IntKind.i64.wrap (mn : Int) = (mn : Int) := by rw [IntKind.wrap_i64]; omega
  have hwf : IntKind.i64.wrap (f : Int) = (f : Int) := by rw [IntKind.wrap_i64]; omega
  go_enter Try.func10, Try.ntmps10
  go_wp2_with fail
  refine (far_any s j i A us.length c _ hml).mono ?_
  rintro e w1 ⟨rfl, hb1⟩
  have bS : Blk w1 w.heap.size 26 #[.int .i64 s, .int .i64 j, .int .i64 i, .slice A us.length c] := Blk.belowAll (by (repeat' (first | (with_reducible assumption) | exact Blk.new' (by simp) | refine Blk.alloc ?_ _))) hb1
  have B1 := below1 hb1
  have cS := bS.cells
  clear hb1
  go_wp2_with fail
  refine (check_any s j i A us.length c _ hml).mono ?_
  rintro e w2 ⟨rfl, hb2⟩
  have bS2 := bS.belowAll hb2
  have B2 := B1.trans (hb2.mono B1.size)
  have hR2 := hR.below B2
  clear hb2 cS bS B1
  have cS := bS2.cells
  have lS := bS2.lt
  obtain ⟨W3, hW3⟩ : ∃ W3, W3 = (w2.alloc (.cells #[.int .i64 0, .int .i64 0, .int .i64 0, .slice none 0 0] 26)).drew := ⟨_, rfl⟩
  have HRD : Hid (Reads W3 A (us.map .bool)) := Lib.hid (by rw [hW3]; exact (hR2.alloc _).below (Below.refl _ _).drew)
  have bS3 : Blk W3 w.heap.size 26 #[.int .i64 s, .int .i64 j, .int .i64 i, .slice A us.length c] := by rw [hW3]; exact (bS2.alloc _).drew
  have bZ3 : Blk W3 w2.heap.size 26 #[.int .i64 0, .int .i64 0, .int .i64 0, .slice none 0 0] := by rw [hW3]; exact (Blk.new _ _ _).drew
  have B3 : Below w.heap.size w W3 := by rw [hW3]; exact (B2.alloc B2.size _).drew
  have HW3 := Lib.hid hW3
  clear hW3
  by_cases hfew : nfree us < mn
  · go_wp2_with fail
    go_region_held3 (fun w' => w'.cell? ⟨w.heap.size, 0, none⟩ = some (.int .i64 s) ∧ w'.cell? ⟨w.heap.size, 1, none⟩ = some (.int .i64 j) ∧ w'.cell? ⟨w.heap.size, 2, none⟩ = some (.int .i64 i) ∧ w'.cell? ⟨w.heap.size, 3, none⟩ = some (.slice A us.length c))
      (first | (go_keep; done) | ((try dsimp only); refine ⟨?_, ?_, ?_, ?_⟩ <;> (first | (go_keep; done) | (simp [go_sem, *]; done))))
      (first
        | (go_at_call 13; rw [← HW3.out]; refine (alloc_no s j i A c us f mn W3 (by omega) HRD.out HE.out hflt hfew).mono ?_; rintro e w4 ⟨hb4, rfl⟩; have B4 : Below w.heap.size w w4 := B3.trans (hb4.mono B3.size); have cS := (bS3.belowAll hb4).cells; have cZ := (bZ3.belowAll hb4).cells; have fZ := (bZ3.belowAll hb4).free)
        | (go_at_call 13; refine (alloc_no s j i A c us f mn w2.drew (by omega) (hR2.below (Below.refl _ _).drew) HE.out hflt hfew).mono ?_; rintro e w4 ⟨hb4, rfl⟩; have B4 : Below w.heap.size w w4 := B2.drew.trans (hb4.mono B2.size); have cS := (bS2.drew.belowAll hb4).cells))
    all_goals
      have z2 := B2.size
      have z4 := B4.size
      clear cS
      go_wp2_with fail
      refine (awake_any _).mono ?_
      rintro e w6 ⟨rfl, hb6⟩
      have B6 : Below w.heap.size w w6 := Below.trans (by (repeat' (first | (with_reducible exact Below.refl _ _) | (with_reducible assumption) | (with_reducible refine Below.alloc ?_ ?_ _) | (with_reducible refine Below.drew ?_) | (with_reducible refine below_drewN' ?_ _) | (with_reducible refine Below.setCell ?_ ?_ _) | (with_reducible exact Nat.le_refl _) | omega | (simp; done) | (simp; omega)))) (hb6.mono (by simp; omega))
      clear hb6
      go_wp2_with fail
      go_ret
      exact ⟨rfl, B6⟩
  · have hLlen : (allocd us f mn).length = mn := by unfold allocd; rw [List.length_take, frees_len hflt]; omega
    have hTlen : (setAll us (allocd us f mn) true).length = us.length := setAll_length _ _ _
    obtain ⟨hu1, hu2⟩ := undo_free (f := f) (mn := mn) HE.out hflt
    have ht1 := undo_take (f := f) (mn := mn) HE.out hflt
    obtain ⟨m, ee, hr1, hr2, hr3, hr4, hr5, hr6⟩ := scan_all (setAll us (allocd us f mn) true)
    have HY : Hid (∀ w0 : World, Reads w0 A (us.map .bool) → Calls Try.prog 13 #[.agg #[.int .i64 s, .int .i64 j, .int .i64 i, .slice A us.length c], .int .i64 f, .int .i64 mn] w0 fun e w' => Below w0.heap.size w0 w' ∧
      ∃ g c2 av cv, e = .returned (.tuple #[.agg #[.int .i64 s, .int .i64 j, .int .i64 i, .slice (some ⟨g, 0, none⟩) us.length c2], .slice av mn cv, .int .i64 0]) ∧
        w'.ownsRow w0.heap.size 4 1 (.slice (some ⟨g, 0, none⟩) us.length c2) us.length ((setAll us (allocd us f mn) true).map .bool) ∧ w'.ownsRow w0.heap.size 3 1 (.slice av mn cv) mn ((allocd us f mn).map (.int .i64))) :=
      Lib.hid (fun w0 h0 => alloc_own s j i A c us f mn w0 (by omega) h0 HE.out hflt (by omega))
    have hTr : Hid (setAll us (allocd us f mn) true = setAll us (allocd us f mn) true) := Lib.hid rfl
    generalize hT : setAll us (allocd us f mn) true = T at hTlen hu1 hu2 hr1 hr2 hr3 hr4 hr5 hr6 HY
    generalize allocd us f mn = L at hLlen hu1 hu2 ht1 hT HY
    rw [hTlen] at hr2 hr3 hr5
    have HT := Lib.hid hT
    have HU1 := Lib.hid hu1
    have HU2 := Lib.hid hu2
    have HT1 := Lib.hid ht1
    have HTL := Lib.hid hTlen
    have HLL := Lib.hid hLlen
    have HR1 := Lib.hid hr1
    have HR3 := Lib.hid hr3
    have HR4 := Lib.hid hr4
    clear hT hu1 hu2 ht1 hTlen hLlen hr1 hr3 hr4 hTr
    go_wp2_with fail
    go_region_held3 (fun w' => w'.cell? ⟨w.heap.size, 0, none⟩ = some (.int .i64 s) ∧ w'.cell? ⟨w.heap.size, 1, none⟩ = some (.int .i64 j) ∧ w'.cell? ⟨w.heap.size, 2, none⟩ = some (.int .i64 i) ∧ w'.cell? ⟨w.heap.size, 3, none⟩ = some (.slice A us.length c))
      (first | (go_keep; done) | ((try dsimp only); refine ⟨?_, ?_, ?_, ?_⟩ <;> (first | (go_keep; done) | (simp [go_sem, *]; done))))
      (first
        | (go_at_call 13; rw [← HW3.out]; refine (HY.out W3 HRD.out).mono ?_; rintro e w4 ⟨hb4, g2, c2, av, cv, rfl, hT4, hL4⟩; have bS4 := bS3.belowAll hb4; have bZ4 := bZ3.belowAll hb4; have B4 : Below w.heap.size w w4 := B3.trans (hb4.mono B3.size); have hR4 := HRD.out.below hb4; have cS := bS4.cells; have cZ := bZ4.cells; have fZ := bZ4.free; have tok : w2.heap.size = w2.heap.size := rfl)
        | (go_at_call 13; refine (HY.out w2.drew (hR2.below (Below.refl _ _).drew)).mono ?_; rintro e w4 ⟨hb4, g2, c2, av, cv, rfl, hT4, hL4⟩; have bS4 := bS2.drew.belowAll hb4; have B4 : Below w.heap.size w w4 := B2.drew.trans (hb4.mono B2.size); have hR4 := Reads.below (w := w2.drew) (hR2.below (Below.refl _ _).drew) hb4; have cS := bS4.cells))
    focus
      have lS4 := bS4.lt
      obtain ⟨v4, hv4⟩ : ∃ v4, v4 = w4.alloc (.cells #[.int .i64 s, .int .i64 j, .int .i64 i, .slice (some ⟨g2, 0, none⟩) us.length c2] 26) := ⟨_, rfl⟩
      rw [← hv4]
      have bS : Blk v4 w.heap.size 26 #[.int .i64 s, .int .i64 j, .int .i64 i, .slice A us.length c] := by rw [hv4]; exact bS4.alloc _
      have bT : Blk v4 w4.heap.size 26 #[.int .i64 s, .int .i64 j, .int .i64 i, .slice (some ⟨g2, 0, none⟩) us.length c2] := by rw [hv4]; exact Blk.new _ _ _
      have BB : Below w.heap.size w v4 := by rw [hv4]; exact B4.alloc B4.size _
      have hRv : Reads v4 A (us.map .bool) := by rw [hv4]; exact hR4.alloc _
      have hTv : Reads v4 (some ⟨g2, 0, none⟩) (T.map .bool) := by rw [hv4]; exact (Reads.of_own hT4).alloc _
      have hLv : Reads v4 av (L.map (.int .i64)) := by rw [hv4]; exact (Reads.of_own hL4).alloc _
      have htb : w.heap.size < w4.heap.size := lS4
      clear hv4 hb4 cS bS4 B4 hR4 hT4 hL4 lS4
      generalize w4.heap.size = tb at bT htb
    rotate_left
    focus
      have htb : w.heap.size < w2.heap.size := lS
      have hz3 : W3.heap.size = w2.heap.size + 1 := by rw [HW3.out]; simp [World.drew]
      obtain ⟨v4, hv4⟩ : ∃ v4, v4 = (((w4.setCell ⟨w2.heap.size, 0, none⟩ (.int .i64 s)).setCell ⟨w2.heap.size, 1, none⟩ (.int .i64 j)).setCell ⟨w2.heap.size, 2, none⟩ (.int .i64 i)).setCell ⟨w2.heap.size, 3, none⟩ (.slice (some ⟨g2, 0, none⟩) us.length c2) := ⟨_, rfl⟩
      rw [← hv4]
      have bS : Blk v4 w.heap.size 26 #[.int .i64 s, .int .i64 j, .int .i64 i, .slice A us.length c] := by rw [hv4]; exact (((bS4.far (by simp; omega) _).far (by simp; omega) _).far (by simp; omega) _).far (by simp; omega) _
      have bT : Blk v4 w2.heap.size 26 #[.int .i64 s, .int .i64 j, .int .i64 i, .slice (some ⟨g2, 0, none⟩) us.length c2] := by rw [hv4]; exact (((bZ4.set_ 0 _).set_ 1 _).set_ 2 _).set_ 3 _
      have z2 := B2.size
      have BB : Below w.heap.size w v4 := by rw [hv4]; exact (((B4.setCell (by simpa using z2) _).setCell (by simpa using z2) _).setCell (by simpa using z2) _).setCell (by simpa using z2) _
      have hRv : Reads v4 A (us.map .bool) := hR.below BB
      have hTv : Reads v4 (some ⟨g2, 0, none⟩) (T.map .bool) := by
        rw [hv4]
        exact Reads.of_own (ownsRow_setCell_below (ownsRow_setCell_below (ownsRow_setCell_below (ownsRow_setCell_below hT4 (by simp; omega) _) (by simp; omega) _) (by simp; omega) _) (by simp; omega) _)
      have hLv : Reads v4 av (L.map (.int .i64)) := by
        rw [hv4]
        exact Reads.of_own (ownsRow_setCell_below (ownsRow_setCell_below (ownsRow_setCell_below (ownsRow_setCell_below hL4 (by simp; omega) _) (by simp; omega) _) (by simp; omega) _) (by simp; omega) _)
      clear hv4 hb4 cS cZ fZ bS4 bZ4 B4 hR4 hT4 hL4 tok hz3 bS3 bZ3 B3 HW3 HRD HY bS2 B2 hR2 lS z2
      generalize w2.heap.size = tb at bT htb
    all_goals
      have cS := bS.cells
      have cT := bT.cells
      have lS := bS.lt
      have lT := bT.lt
      go_wp2_with fail
      refine (frees_yes s j i (some ⟨g2, 0, none⟩) av c2 cv T L us.length mn HTL.out HLL.out (by rw [HTL.out]; omega) (by rw [HLL.out]; omega) _ hTv hLv HU1.out us HU2.out).mono ?_
      rintro e w5 ⟨hb, A3, c3, rfl, hU5⟩
      have bS5 := bS.belowAll hb
      have bT5 := bT.belowAll hb
      have B5 := BB.trans (hb.mono BB.size)
      have hR5 := hRv.below hb
      have hT5 := hTv.below hb
      have hL5 := hLv.below hb
      clear hb bS bT BB hRv hTv hLv cS cT
      have cS := bS5.cells
      have cT := bT5.cells
      have lS5 := bS5.lt
      have lT5 := bT5.lt
      go_wp2_with fail
      have bU5 : Blk (w5.alloc (.cells #[.int .i64 s, .int .i64 j, .int .i64 i, .slice A3 us.length c3] 26)) w5.heap.size 26 #[.int .i64 s, .int .i64 j, .int .i64 i, .slice A3 us.length c3] := Blk.new _ _ _
      refine (takes_yes s j i A3 av c3 cv us L us.length mn rfl HLL.out (by omega) (by rw [HLL.out]; omega) _ (hU5.alloc _) (hL5.alloc _) HT1.out T HT.out).mono ?_
      rintro e w6 ⟨hb, A4, c4, rfl, hV6⟩
      have bS6 := (bS5.alloc _).belowAll hb
      have bT6 := (bT5.alloc _).belowAll hb
      have bU6 := bU5.belowAll hb
      have hb' := below1 hb
      have B6 := B5.trans (hb'.mono B5.size)
      have hR6 := hR5.below hb'
      have hT6 := hT5.below hb'
      have hU6 := hU5.below hb'
      clear hb hb' bS5 bT5 bU5 B5 hR5 hT5 hU5 hL5 cS cT
      have cS := bS6.cells
      have cT := bT6.cells
      have lS6 := bS6.lt
      have lT6 := bT6.lt
      have lU6 := bU6.lt
      obtain ⟨W0, hW0⟩ : ∃ W0, W0 = w6.alloc (.cells #[.int .i64 s, .int .i64 j, .int .i64 i, .slice A4 us.length c4] 26) := ⟨_, rfl⟩
      have bS7 : Blk W0 w.heap.size 26 #[.int .i64 s, .int .i64 j, .int .i64 i, .slice A us.length c] := by rw [hW0]; exact bS6.alloc _
      have bT7 : Blk W0 tb 26 #[.int .i64 s, .int .i64 j, .int .i64 i, .slice (some ⟨g2, 0, none⟩) us.length c2] := by rw [hW0]; exact bT6.alloc _
      have bU7 : Blk W0 w5.heap.size 26 #[.int .i64 s, .int .i64 j, .int .i64 i, .slice A3 us.length c3] := by rw [hW0]; exact bU6.alloc _
      have bV7 : Blk W0 w6.heap.size 26 #[.int .i64 s, .int .i64 j, .int .i64 i, .slice A4 us.length c4] := by rw [hW0]; exact Blk.new _ _ _
      have B7 : Below w.heap.size w W0 := by rw [hW0]; exact B6.alloc B6.size _
      have hR7 : Reads W0 A (us.map .bool) := by rw [hW0]; exact hR6.alloc _
      have hT7 : Reads W0 (some ⟨g2, 0, none⟩) (T.map .bool) := by rw [hW0]; exact hT6.alloc _
      have hU7 : Reads W0 A3 (us.map .bool) := by rw [hW0]; exact hU6.alloc _
      have hV7 : Reads W0 A4 (T.map .bool) := by rw [hW0]; exact hV6.alloc _
      clear bS6 bT6 bU6 B6 hR6 hT6 hU6 hV6
      go_wp2_with (rw [← hW0]; clear hW0 cS cT; have cT := bT7.cells)
      refine (runs_yes s j i (some ⟨g2, 0, none⟩) c2 T us.length m HTL.out HR1.out (by rw [HTL.out]; omega) _ hT7 HE.out).mono ?_
      rintro e w8 ⟨hb, ar, cr, rfl, hQ8⟩
      have bS8 := bS7.belowAll hb
      have bT8 := bT7.belowAll hb
      have bU8 := bU7.belowAll hb
      have bV8 := bV7.belowAll hb
      have B8 := B7.trans (hb.mono B7.size)
      have hR8 := hR7.below hb
      have hT8 := hT7.below hb
      have hU8 := hU7.below hb
      have hV8 := hV7.below hb
      clear hb bS7 bT7 bU7 bV7 B7 hR7 hT7 hU7 hV7 cT
      have cT := bT8.cells
      go_wp2_with fail
      refine (count_yes s j i (some ⟨g2, 0, none⟩) c2 T us.length HTL.out (by rw [HTL.out]; omega) _ hT8 HE.out).mono ?_
      rintro e w9 ⟨rfl, hb⟩
      have bS9 := bS8.belowAll hb
      have bT9 := bT8.belowAll hb
      have bU9 := bU8.belowAll hb
      have bV9 := bV8.belowAll hb
      have B9 := B8.trans (hb.mono B8.size)
      have hR9 := hR8.below hb
      have hT9 := hT8.below hb
      have hU9 := hU8.below hb
      have hV9 := hV8.below hb
      have hQ9 := hQ8.below hb
      clear hb bS8 bT8 bU8 bV8 B8 hR8 hT8 hU8 hV8 hQ8 cT
      have cS := bS9.cells
      have cU := bU9.cells
      go_wp2_with fail
      refine (same_yes s j i A3 A c3 c us us.length rfl _ hU9 hR9 (by omega)).mono ?_
      rintro e w10 ⟨rfl, hb⟩
      have bS10 := bS9.belowAll hb
      have cT := (bT9.belowAll hb).cells
      have cV := (bV9.belowAll hb).cells
      have B10 := B9.trans (hb.mono B9.size)
      have hT10 := hT9.below hb
      have hV10 := hV9.below hb
      have hQ10 := hQ9.below hb
      clear hb bS9 bT9 bU9 bV9 B9 hR9 hT9 hU9 hV9 hQ9 cS cU
      go_wp2_with fail
      refine (same_yes s j i A4 (some ⟨g2, 0, none⟩) c4 c2 T us.length HTL.out _ hV10 hT10 (by rw [HTL.out]; omega)).mono ?_
      rintro e w11 ⟨rfl, hb⟩
      have bS11 := bS10.belowAll hb
      have B11 := B10.trans (hb.mono B10.size)
      have hQ11 := hQ10.below hb
      clear hb bS10 B10 hT10 hV10 hQ10 cT cV
      have cS := bS11.cells
      have lS11 := bS11.lt
      go_wp2_with fail
      go_loopw [18, 19, 20] (fun a b q wr => ∃ k : Nat, k ≤ m ∧ q = .int .i64 k ∧ a = .int .i64 (scan (runsL T) k).1 ∧ b = .int .i64 (scan (runsL T) k).2 ∧ 0 ≤ (scan (runsL T) k).1 ∧ (scan (runsL T) k).1 ≤ 256 * k ∧ Below w11.heap.size w11 wr) (fun _ _ q _ => m - (intOf q).toNat)
      case atStart => exact ⟨0, Nat.zero_le _, rfl, rfl, rfl, by simp [scan], by simp [scan], Below.refl _ _⟩
      case round =>
        obtain ⟨k, hk, rfl, rfl, rfl, hs0, hs1, hnx⟩ := hrel
        have bS12 := bS11.belowAll hnx
        have B12 := B11.trans (hnx.mono B11.size)
        have cS := bS12.cells
        by_cases hlt : k < m
        · have k1 : k * 2 < (runsL T).length := by rw [HR1.out]; omega
          have k2 : k * 2 + 1 < (runsL T).length := by rw [HR1.out]; omega
          obtain ⟨q1, q2, q3, q4⟩ := HR3.out k hlt
          have hss : scan (runsL T) (k + 1) = ((scan (runsL T) k).1 + (runsL T).getD (k * 2 + 1) 0, (runsL T).getD (k * 2) 0 + (runsL T).getD (k * 2 + 1) 0) := rfl
          have HSS := Lib.hid hss
          clear hss
          obtain ⟨b, off, rfl, hb, hc⟩ := (hQ11.below hnx).at_ (k := k * 2) (by simpa using k1)
          obtain ⟨b', off', hA', _, hc'⟩ := (hQ11.below hnx).at_ (k := k * 2 + 1) (by simpa using k2)
          simp only [Option.some.injEq, Addr.mk.injEq, and_true] at hA'
          obtain ⟨rfl, rfl⟩ := hA'
          rw [List.getElem_map] at hc hc'
          rw [← Nat.add_assoc] at hc'
          have g1 : (runsL T).getD (k * 2) 0 = (runsL T)[k * 2] := by simp [List.getD_eq_getElem?_getD, k1]
          have g2 : (runsL T).getD (k * 2 + 1) 0 = (runsL T)[k * 2 + 1] := by simp [List.getD_eq_getElem?_getD, k2]
          rw [g1, g2] at HSS
          rw [g1] at q1 q2
          rw [g2] at q3
          rw [g1, g2] at q4
          clear g1 g2
          generalize (runsL T)[k * 2] = x at *
          generalize (runsL T)[k * 2 + 1] = y at *
          clear k1 k2
          generalize hsk : scan (runsL T) k = sk at *
          clear hsk
          obtain ⟨su, en⟩ := sk
          simp only at q1 hs0 hs1 HSS
          have hd1 : decide (x ≤ en) = false := by simp; omega
          have hd2 : decide (y < 1) = false := by simp; omega
          have hd3 : decide ((us.length : Int) < y) = false := by simp; omega
          have hw1 : IntKind.i64.wrap (x + y) = x + y := by rw [IntKind.wrap_i64]; omega
          go_wp2_with fail
          go_quiet (fail)
          go_wp2_with fail
          go_quiet (fail)
          go_wp2
          go_roundw
          case rel => exact ⟨k + 1, by omega, by go_num, by rw [HSS.out], by rw [HSS.out], by rw [HSS.out]; show 0 ≤ su + y; omega, by rw [HSS.out]; show su + y ≤ _; push_cast; omega, by (repeat' (first | (with_reducible exact Below.refl _ _) | (with_reducible assumption) | (with_reducible refine Below.alloc ?_ ?_ _) | (with_reducible refine Below.drew ?_) | (with_reducible refine below_drewN' ?_ _) | (with_reducible refine Below.setCell ?_ ?_ _) | (with_reducible exact Nat.le_refl _) | omega | (simp; done) | (simp; omega)))⟩
          case measure => simp [intOf]; omega
        · obtain rfl : k = m := by omega
          rw [HR4.out] at *
          have hle : decide (ee ≤ (us.length : Int)) = true := by simp; omega
          go_wp2_with fail
          refine (awake_any _).mono ?_
          rintro e w13 ⟨rfl, hb⟩
          have B13 := B12.trans (hb.mono B12.size)
          clear hb
          go_wp2_with fail
          go_ret
          exact ⟨rfl, B13⟩

end Go.Proofs.Ytenfheheepkfbaa
