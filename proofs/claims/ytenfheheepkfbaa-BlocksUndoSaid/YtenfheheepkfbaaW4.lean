/- BlocksFirst, walked. -/
import Derived.Test.YtenfheheepkfbaaF1
import Derived.Test.YtenfheheepkfbaaK2
namespace Go.Proofs.Ytenfheheepkfbaa
open Go.RowKit

theorem count_nf (s j i : Int) (A : Option Addr) (c : Nat) (us : List Bool) (hus : us.length ≤ 1000) (w : World) (hR : Reads w A (us.map .bool)) (hE : CkE s j i us.length = 0) :
    Calls Try.prog 19 #[.agg #[.int .i64 s, .int .i64 j, .int .i64 i, .slice A us.length c]] w fun e w' => e = .returned (.tuple #[.int .i64 (nfree us), .int .i64 0]) ∧ Below w.heap.size w w' := by
  have hl := (ckE_len hE).2.2.1
  have h := count_any s j i A c us hus w hR
  have h1 : CountN s j i us = (nfree us : Int) := by unfold CountN; rw [if_pos hE, frees_len (by omega)]
  rw [h1, hE] at h
  exact h
theorem alloc_yes (s j i : Int) (A : Option Addr) (c : Nat) (us : List Bool) (f mn : Nat) (w : World) (hus : us.length ≤ 1000) (hR : Reads w A (us.map .bool)) (hE : CkE s j i us.length = 0) (hf : f < us.length) (hm : mn ≤ nfree us) :
    Calls Try.prog 13 #[.agg #[.int .i64 s, .int .i64 j, .int .i64 i, .slice A us.length c], .int .i64 f, .int .i64 mn] w fun e w' => Below w.heap.size w w' ∧
      ∃ A2 c2 av cv, e = .returned (.tuple #[.agg #[.int .i64 s, .int .i64 j, .int .i64 i, .slice A2 us.length c2], .slice av mn cv, .int .i64 0]) ∧ Reads w' A2 ((setAll us (allocd us f mn) true).map .bool) ∧ Reads w' av ((allocd us f mn).map (.int .i64)) := by
  refine (alloc_loop s j i A c f mn us hf hus w hR hE).mono ?_
  rintro e w' ⟨hb, ⟨h, _⟩ | ⟨_, g, cap, av, cv, he, h1, h2⟩⟩
  · rw [frees_len hf] at h; omega
  · have hl : (allocd us f mn).length = mn := by unfold allocd; rw [List.length_take, frees_len hf]; omega
    exact ⟨hb, _, _, av, cv, by rw [he, hl], Reads.of_own h1, Reads.of_own h2⟩
theorem alloc_no (s j i : Int) (A : Option Addr) (c : Nat) (us : List Bool) (f mn : Nat) (w : World) (hus : us.length ≤ 1000) (hR : Reads w A (us.map .bool)) (hE : CkE s j i us.length = 0) (hf : f < us.length) (hm : nfree us < mn) :
    Calls Try.prog 13 #[.agg #[.int .i64 s, .int .i64 j, .int .i64 i, .slice A us.length c], .int .i64 f, .int .i64 mn] w fun e w' => Below w.heap.size w w' ∧
      e = .returned (.tuple #[.agg #[.int .i64 s, .int .i64 j, .int .i64 i, .slice A us.length c], .slice none 0 0, .int .i64 11]) := by
  refine (alloc_loop s j i A c f mn us hf hus w hR hE).mono ?_
  rintro e w' ⟨hb, ⟨_, he⟩ | ⟨h, _⟩⟩
  · exact ⟨hb, he⟩
  · rw [frees_len hf] at h; omega

theorem nextAt_hit {us : List Bool} {f mn k : Nat} (hf : us[(f + k) % us.length]? = some false) (hm : (goRound us f k).length < mn) : nextAt us f mn (k + 1) = nextAt us f mn k + 1 := by
  unfold nextAt; rw [goRound_hit hf]; simp; omega
theorem nextAt_late {us : List Bool} {f mn k : Nat} (hm : mn ≤ (goRound us f k).length) : nextAt us f mn (k + 1) = nextAt us f mn k := by
  unfold nextAt
  have := (goRound_pre us f k (k + 1) (by omega)).length_le
  omega
theorem nextAt_used {us : List Bool} {f mn k : Nat} (hu : us[(f + k) % us.length]? = some true) : nextAt us f mn (k + 1) = nextAt us f mn k := by
  unfold nextAt; rw [goRound_miss hu]
theorem nextAt_all {us : List Bool} {f mn : Nat} (hf : f < us.length) (h : mn ≤ nfree us) : nextAt us f mn us.length = mn := by
  have : (goRound us f us.length).length = nfree us := frees_len hf
  unfold nextAt; omega

/-- One step: the three cases of a round. -/
theorem first_step {us : List Bool} {f mn k : Nat} (hk : k < us.length) (hf : f < us.length) (hm : (f + k) % us.length < us.length) (hs : (f + k) % us.length < (setAll us (allocd us f mn) true).length) :
    (us[(f + k) % us.length] = false ∧ (setAll us (allocd us f mn) true)[(f + k) % us.length] = true ∧ nextAt us f mn k < mn ∧ nextAt us f mn (k + 1) = nextAt us f mn k + 1 ∧
        ∃ h : nextAt us f mn k < (allocd us f mn).length, (allocd us f mn)[nextAt us f mn k] = ((f : Int) + (k : Int)) % (us.length : Int)) ∨
    (us[(f + k) % us.length] = false ∧ (setAll us (allocd us f mn) true)[(f + k) % us.length] = false ∧ ¬ nextAt us f mn k < mn ∧ nextAt us f mn (k + 1) = nextAt us f mn k) ∨
    (us[(f + k) % us.length] = true ∧ (setAll us (allocd us f mn) true)[(f + k) % us.length] = true ∧ nextAt us f mn (k + 1) = nextAt us f mn k ∧
        ∀ h : nextAt us f mn k < (allocd us f mn).length, ((allocd us f mn)[nextAt us f mn k] == ((f : Int) + (k : Int)) % (us.length : Int)) = false) := by
  have hcast : (((f + k) % us.length : Nat) : Int) = ((f : Int) + (k : Int)) % (us.length : Int) := by simp
  have hsa := setAll_at us (allocd us f mn) ((f + k) % us.length) hm (fun x hx => (allocd_in (by omega) x hx).1)
  have hsv := (List.getElem_eq_iff hs).mpr hsa
  cases hu : us[(f + k) % us.length]
  · have hq : us[(f + k) % us.length]? = some false := by rw [List.getElem?_eq_getElem hm, hu]
    by_cases hmm : (goRound us f k).length < mn
    · left
      have hp : nextAt us f mn k = (goRound us f k).length := by unfold nextAt; omega
      obtain ⟨hpl, hpv⟩ := allocd_at hk hq hmm
      have hin : (((f + k) % us.length : Nat) : Int) ∈ allocd us f mn := by rw [← hpv]; exact List.getElem_mem _
      refine ⟨rfl, by rw [hsv, decide_eq_true hin]; simp, by omega, nextAt_hit hq hmm, by omega, ?_⟩
      rw [← hcast, ← hpv]
      congr 1
    · right; left
      have hin := allocd_late hk hf (Nat.le_of_not_lt hmm)
      refine ⟨rfl, by rw [hsv, decide_eq_false hin, hu]; rfl, by unfold nextAt; omega, nextAt_late (Nat.le_of_not_lt hmm)⟩
  · right; right
    have hq : us[(f + k) % us.length]? = some true := by rw [List.getElem?_eq_getElem hm, hu]
    refine ⟨rfl, by rw [hsv, hu]; rfl, nextAt_used hq, fun h => ?_⟩
    rw [beq_eq_false_iff_ne, ← hcast]
    intro he
    exact allocd_used (near := f) (many := mn) hq (by rw [← he]; exact List.getElem_mem _)

set_option maxRecDepth 100000 in
set_option maxHeartbeats 4000000 in
theorem firstLaw_any (s j i : Int) (A : Option Addr) (c : Nat) (us : List Bool) (nr mn : Nat) (w : World) (hml : us.length ≤ maxLen) (hnr : nr ≤ 65535) (hmn : mn ≤ 255) (hR : Reads w A (us.map .bool)) :
    Calls Try.prog 4 #[.agg #[.int .i64 s, .int .i64 j, .int .i64 i, .slice A us.length c], .int .u16 nr, .int .u8 mn] w fun e w' => e = .returned (.bool true) ∧ Below w.heap.size w w' := by
  have hml' := hml
  unfold maxLen at hml'
  by_cases h300 : 300 < us.length
  · have hd : decide (300 < us.length) = true := by simpa using h300
    go_enter Try.func4, Try.ntmps4
    go_wp2_with fail
    refine (far_any s j i A us.length c _ hml).mono ?_
    rintro e w1 ⟨rfl, hb1⟩
    have B1 := below1 hb1
    clear hb1
    go_wp2_with fail
    refine (awake_any _).mono ?_
    rintro e w2 ⟨rfl, hb2⟩
    have B2 := B1.trans (hb2.mono B1.size)
    clear hb2
    go_wp2_with fail
    go_ret
    exact ⟨rfl, B2⟩
  have hd : decide (300 < us.length) = false := by simp; omega
  by_cases hE : CkE s j i us.length = 0
  rotate_left
  · have hE1 : (CkE s j i us.length != 0) = true := by simpa using hE
    clear hE
    go_enter Try.func4, Try.ntmps4
    go_wp2_with fail
    refine (far_any s j i A us.length c _ hml).mono ?_
    rintro e w1 ⟨rfl, hb1⟩
    have bS : Blk w1 w.heap.size 26 #[.int .i64 s, .int .i64 j, .int .i64 i, .slice A us.length c] := Blk.belowAll (by (repeat' (first | (with_reducible assumption) | exact Blk.new' (by simp) | refine Blk.alloc ?_ _))) hb1
    have B1 := below1 hb1
    have cS := bS.cells
    clear hb1
    go_wp2_with fail
    refine (check_any s j i A us.length c _ hml).mono ?_
    rintro e w2 ⟨rfl, hb2⟩
    have B2 := B1.trans (hb2.mono B1.size)
    clear hb2 cS
    go_wp2_with fail
    refine (awake_any _).mono ?_
    rintro e w3 ⟨rfl, hb3⟩
    have B3 := B2.trans (hb3.mono B2.size)
    clear hb3
    go_wp2_with fail
    go_ret
    exact ⟨rfl, B3⟩
  have hE1 : (CkE s j i us.length != 0) = false := by simpa using hE
  have hn8 : 8 ≤ us.length := (ckE_len hE).2.2.1
  have hn256 : us.length ≤ 256 := (ckE_len hE).2.2.2
  have hn0 : ((us.length : Int) == 0) = false := by rw [beq_eq_false_iff_ne]; omega
  have hfF : (nr : Int) % (us.length : Int) = ((nr % us.length : Nat) : Int) := by simp
  have hflt : nr % us.length < us.length := Nat.mod_lt _ (by omega)
  have HE := Lib.hid hE
  have HF := Lib.hid hfF
  clear hE hfF
  generalize hfd : nr % us.length = f at hflt HF
  clear hfd
  go_enter Try.func4, Try.ntmps4
  go_wp2_with fail
  refine (far_any s j i A us.length c _ hml).mono ?_
  rintro e w1 ⟨rfl, hb1⟩
  have bS : Blk w1 w.heap.size 26 #[.int .i64 s, .int .i64 j, .int .i64 i, .slice A us.length c] := Blk.belowAll (by (repeat' (first | (with_reducible assumption) | exact Blk.new' (by simp) | refine Blk.alloc ?_ _))) hb1
  have B1 := below1 hb1
  have cS := bS.cells
  clear hb1
  go_wp2_with fail
  refine (check_any s j i A us.length c _ hml).mono ?_
  rintro e w2 ⟨rfl, hb2⟩
  have bS2 := bS.belowAll hb2
  have B2 := B1.trans (hb2.mono B1.size)
  have hR2 := hR.below B2
  clear hb2 cS bS B1
  have cS := bS2.cells
  go_wp2_with fail
  rw [HF.out]
  refine (count_nf s j i A c us (by omega) _ hR2 HE.out).mono ?_
  rintro e w3 ⟨rfl, hb3⟩
  have bS3 := bS2.belowAll hb3
  have B3 := B2.trans (hb3.mono B2.size)
  have hR3 := hR2.below hb3
  clear hb3 cS bS2 B2 hR2
  have cS := bS3.cells
  by_cases hfew : nfree us < mn
  · have hdf : decide (nfree us < mn) = true := by simpa using hfew
    go_wp2_with fail
    refine (alloc_no s j i A c us f mn _ (by omega) hR3 HE.out hflt hfew).mono ?_
    rintro e w4 ⟨hb4, rfl⟩
    have bS4 := bS3.belowAll hb4
    have B4 := B3.trans (hb4.mono B3.size)
    have hR4 := hR3.below hb4
    clear hb4 cS bS3 B3 hR3
    have cS := bS4.cells
    have lS := bS4.lt
    go_wp2_with fail
    refine (same_self s j i A A c c us _ (hR4.alloc _) (hR4.alloc _) (by omega)).mono ?_
    rintro e w5 ⟨rfl, hb5⟩
    have B5 := B4.trans ((below1 hb5).mono B4.size)
    clear hb5 cS
    go_wp2_with fail
    refine (awake_any _).mono ?_
    rintro e w6 ⟨rfl, hb6⟩
    have B6 := B5.trans (hb6.mono B5.size)
    clear hb6
    go_wp2_with fail
    go_ret
    exact ⟨rfl, B6⟩
  · have hdf : decide (nfree us < mn) = false := by simpa using hfew
    go_wp2_with fail
    refine (alloc_yes s j i A c us f mn _ (by omega) hR3 HE.out hflt (by omega)).mono ?_
    rintro e w4 ⟨hb4, A2, c2, av, cv, rfl, hU, hL⟩
    have bS4 := bS3.belowAll hb4
    have B4 := B3.trans (hb4.mono B3.size)
    have hR4 := hR3.below hb4
    clear hb4 cS bS3 B3 hR3
    have cS := bS4.cells
    have lS := bS4.lt
    go_wp2_with fail
    obtain ⟨W5, hW5⟩ : ∃ W5, W5 = w4.alloc (.cells #[.int .i64 s, .int .i64 j, .int .i64 i, .slice A2 us.length c2] 26) := ⟨_, rfl⟩
    rw [← hW5]
    have bT : Blk W5 w4.heap.size 26 #[.int .i64 s, .int .i64 j, .int .i64 i, .slice A2 us.length c2] := by rw [hW5]; exact (by (repeat' (first | (with_reducible assumption) | exact Blk.new' (by simp) | refine Blk.alloc ?_ _)))
    have hbel : Below w4.heap.size w4 W5 := by rw [hW5]; exact (Below.refl _ _).alloc (Nat.le_refl _) _
    have bS5 := bS4.belowAll hbel
    have B5 := B4.trans (hbel.mono B4.size)
    have hR5 := Lib.hid (hR4.below hbel)
    have hU5 := Lib.hid (hU.below hbel)
    have hL5 := Lib.hid (hL.below hbel)
    clear hW5 hbel hR4 hU hL bS4 B4 cS lS
    have hmn' : mn ≤ nfree us := by omega
    clear hdf hfew
    have HAL : Hid ((allocd us f mn).length = mn) := Lib.hid (by unfold allocd; rw [List.length_take, frees_len hflt]; omega)
    go_loopw [14, 15] (fun v q wr => ∃ k : Nat, k ≤ us.length ∧ v = .int .i64 (nextAt us f mn k : Nat) ∧ q = .int .i64 k ∧ Below W5.heap.size W5 wr) (fun _ q _ => us.length - (intOf q).toNat)
    case atStart => exact ⟨0, Nat.zero_le _, by simp [nextAt, goRound_0], rfl, Below.refl _ _⟩
    case round =>
      obtain ⟨k, hk, rfl, rfl, hnx⟩ := hrel
      have bS6 := bS5.belowAll hnx
      have bT6 := bT.belowAll hnx
      have cS := bS6.cells
      have cT := bT6.cells
      have B6 := B5.trans (hnx.mono B5.size)
      by_cases hlt : k < us.length
      · have hm : (f + k) % us.length < us.length := Nat.mod_lt _ (by omega)
        have hbd : 0 ≤ ((f : Int) + (k : Int)) % (us.length : Int) ∧ ((f : Int) + (k : Int)) % (us.length : Int) < (us.length : Int) := ⟨Int.emod_nonneg _ (by omega), Int.emod_lt_of_pos _ (by omega)⟩
        obtain ⟨b, off, rfl, hb, hc⟩ := (hR5.out.below hnx).at_ (k := (f + k) % us.length) (by simpa using hm)
        obtain ⟨b2, off2, rfl, hb2, hc2⟩ := (hU5.out.below hnx).at_ (k := (f + k) % us.length) (by rw [List.length_map, setAll_length]; exact hm)
        rw [List.getElem_map] at hc hc2
        rcases first_step (mn := mn) hlt hflt hm (by rw [setAll_length]; exact hm) with ⟨h1, h2, h3, h4, h5, h6⟩ | ⟨h1, h2, h3, h4⟩ | ⟨h1, h2, h4, h5⟩
        · obtain ⟨b3, off3, rfl, hb3, hc3⟩ := (hL5.out.below hnx).at_ (k := nextAt us f mn k) (by simpa using h5)
          rw [List.getElem_map, h6] at hc3
          rw [h1] at hc
          rw [h2] at hc2
          have hd := decide_eq_true h3
          have hr := Lib.hid h4
          clear h1 h2 h4 h5 h6
          generalize nextAt us f mn k = p at *
          go_wp2_with fail
          go_quiet (fail)
          go_wp2
          go_roundw
          case rel => exact ⟨k + 1, by omega, by rw [hr.out]; go_num, by go_num, by (repeat' (first | (with_reducible exact Below.refl _ _) | (with_reducible assumption) | (with_reducible refine Below.alloc ?_ ?_ _) | (with_reducible refine Below.drew ?_) | (with_reducible refine below_drewN' ?_ _) | (with_reducible refine Below.setCell ?_ ?_ _) | (with_reducible exact Nat.le_refl _) | omega | (simp; done) | (simp; omega)))⟩
          case measure => simp [intOf]; omega
        · rw [h1] at hc
          rw [h2] at hc2
          have hd := decide_eq_false h3
          have hr := Lib.hid h4
          clear h1 h2 h4
          generalize nextAt us f mn k = p at *
          go_wp2_with fail
          go_quiet (fail)
          go_wp2
          go_roundw
          case rel => exact ⟨k + 1, by omega, by rw [hr.out], by go_num, by (repeat' (first | (with_reducible exact Below.refl _ _) | (with_reducible assumption) | (with_reducible refine Below.alloc ?_ ?_ _) | (with_reducible refine Below.drew ?_) | (with_reducible refine below_drewN' ?_ _) | (with_reducible refine Below.setCell ?_ ?_ _) | (with_reducible exact Nat.le_refl _) | omega | (simp; done) | (simp; omega)))⟩
          case measure => simp [intOf]; omega
        · rw [h1] at hc
          rw [h2] at hc2
          have hr := Lib.hid h4
          clear h1 h2 h4
          by_cases h3 : nextAt us f mn k < mn
          · have hlen : nextAt us f mn k < (allocd us f mn).length := by rw [HAL.out]; exact h3
            obtain ⟨b3, off3, rfl, hb3, hc3⟩ := (hL5.out.below hnx).at_ (k := nextAt us f mn k) (by simpa using hlen)
            rw [List.getElem_map] at hc3
            have h6 := h5 hlen
            have hd := decide_eq_true h3
            clear h5
            generalize (allocd us f mn)[nextAt us f mn k] = x at hc3 h6
            clear hlen
            generalize nextAt us f mn k = p at *
            go_wp2_with fail
            go_quiet (fail)
            go_wp2
            go_roundw
            case rel => exact ⟨k + 1, by omega, by rw [hr.out], by go_num, by (repeat' (first | (with_reducible exact Below.refl _ _) | (with_reducible assumption) | (with_reducible refine Below.alloc ?_ ?_ _) | (with_reducible refine Below.drew ?_) | (with_reducible refine below_drewN' ?_ _) | (with_reducible refine Below.setCell ?_ ?_ _) | (with_reducible exact Nat.le_refl _) | omega | (simp; done) | (simp; omega)))⟩
            case measure => simp [intOf]; omega
          · have hd := decide_eq_false h3
            clear h5
            generalize nextAt us f mn k = p at *
            go_wp2_with fail
            go_quiet (fail)
            go_wp2
            go_roundw
            case rel => exact ⟨k + 1, by omega, by rw [hr.out], by go_num, by (repeat' (first | (with_reducible exact Below.refl _ _) | (with_reducible assumption) | (with_reducible refine Below.alloc ?_ ?_ _) | (with_reducible refine Below.drew ?_) | (with_reducible refine below_drewN' ?_ _) | (with_reducible refine Below.setCell ?_ ?_ _) | (with_reducible exact Nat.le_refl _) | omega | (simp; done) | (simp; omega)))⟩
            case measure => simp [intOf]; omega
      · obtain rfl : k = us.length := by omega
        have hfin := nextAt_all hflt hmn'
        rw [hfin]
        clear hfin
        go_wp2_with fail
        refine (awake_any _).mono ?_
        rintro e w7 ⟨rfl, hb7⟩
        have B7 := B6.trans (hb7.mono B6.size)
        clear hb7
        go_wp2_with fail
        go_ret
        exact ⟨rfl, B7⟩
