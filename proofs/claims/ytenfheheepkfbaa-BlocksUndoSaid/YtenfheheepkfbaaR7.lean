/- The reference's Alloc, whatever the arguments. -/
import Derived.Test.YtenfheheepkfbaaR6
namespace Go.Proofs.Ytenfheheepkfbaa
open Go.RowKit

set_option maxRecDepth 100000 in
set_option maxHeartbeats 2000000 in
theorem allocR_bad (s j i : Int) (A : Option Addr) (c : Nat) (us : List Bool) (near many : Int) (hus : us.length ≤ 1000) (w : World) (hR : Reads w A (us.map .bool)) (E : Int)
    (h : (CkE s j i us.length ≠ 0 ∧ E = CkE s j i us.length) ∨ (CkE s j i us.length = 0 ∧ (near < 0 ∨ (us.length : Int) - 1 < near ∨ many < 0) ∧ E = 7) ∨
      (CkE s j i us.length = 0 ∧ ¬ (near < 0 ∨ (us.length : Int) - 1 < near ∨ many < 0) ∧ (nfree us : Int) < many ∧ E = 11)) :
    Calls Try.prog 14 #[.agg #[.int .i64 s, .int .i64 j, .int .i64 i, .slice A us.length c], .int .i64 near, .int .i64 many] w fun e w' =>
      e = .returned (.tuple #[.agg #[.int .i64 s, .int .i64 j, .int .i64 i, .slice A us.length c], .slice none 0 0, .int .i64 E]) ∧ Below w.heap.size w w' := by
  have hnf := nfree_le us
  rcases h with ⟨hE, rfl⟩ | ⟨hE, hr, rfl⟩ | ⟨hE, hr, hfm, rfl⟩
  · have hE' : (CkE s j i us.length != 0) = true := by simpa using hE
    have hE2 : (CkE s j i us.length == 0) = false := by simpa using hE
    have HE := Lib.hid hE
    clear hE
    go_enter Try.func14, Try.ntmps14
    go_wp2_with fail
    refine (checkR_any s j i A us.length c _ (by unfold maxLen; omega)).mono ?_
    rintro e w1 ⟨rfl, hb1⟩
    have bS : Blk w1 w.heap.size 26 #[.int .i64 s, .int .i64 j, .int .i64 i, .slice A us.length c] := Blk.belowAll (by (repeat' (first | (with_reducible assumption) | exact Blk.new' (by simp) | refine Blk.alloc ?_ _))) hb1
    have bR : Blk w1 (w.heap.size + 1) 26 #[.int .i64 0, .int .i64 0, .int .i64 0, .slice none 0 0] := Blk.belowAll (by (repeat' (first | (with_reducible assumption) | exact Blk.new' (by simp) | refine Blk.alloc ?_ _))) hb1
    have B1 : Below w.heap.size w w1 := below2 hb1
    clear hb1
    have cS := bS.cells
    have cR := bR.cells
    have fR := bR.free
    go_wp2_with fail
    refine bodyPost_ret (v := .tuple #[.agg #[.int .i64 s, .int .i64 j, .int .i64 i, .slice A us.length c], .slice none 0 0, .int .i64 (CkE s j i us.length)]) (by simp [results, Try.results14, go_sem, cR]) rfl ?_
    exact ⟨rfl, by (repeat' (first | (with_reducible exact Below.refl _ _) | (with_reducible assumption) | (with_reducible refine Below.alloc ?_ ?_ _) | (with_reducible refine Below.drew ?_) | (with_reducible refine below_drewN' ?_ _) | (with_reducible refine Below.setCell ?_ ?_ _) | (with_reducible exact Nat.le_refl _) | omega | (simp; done) | (simp; omega)))⟩
  · have hE' : (CkE s j i us.length != 0) = false := by simpa using hE
    have hE2 : (CkE s j i us.length == 0) = true := by simpa using hE
    have HE := Lib.hid hE
    clear hE
    by_cases hnr : near < 0 ∨ (us.length : Int) - 1 < near
    all_goals
      first | have hO := outB_yes hnr | have hO := outB_no hnr
      have hm0 : ¬ (near < 0 ∨ (us.length : Int) - 1 < near) → decide (many < 0) = true := fun h' => by simp; omega
      first | (have hm1 := hm0 hnr; clear hm0) | clear hm0
      go_enter Try.func14, Try.ntmps14
      go_wp2_with fail
      refine (checkR_any s j i A us.length c _ (by unfold maxLen; omega)).mono ?_
      rintro e w1 ⟨rfl, hb1⟩
      have bS : Blk w1 w.heap.size 26 #[.int .i64 s, .int .i64 j, .int .i64 i, .slice A us.length c] := Blk.belowAll (by (repeat' (first | (with_reducible assumption) | exact Blk.new' (by simp) | refine Blk.alloc ?_ _))) hb1
      have bR : Blk w1 (w.heap.size + 1) 26 #[.int .i64 0, .int .i64 0, .int .i64 0, .slice none 0 0] := Blk.belowAll (by (repeat' (first | (with_reducible assumption) | exact Blk.new' (by simp) | refine Blk.alloc ?_ _))) hb1
      have B1 : Below w.heap.size w w1 := below2 hb1
      clear hb1
      have cS := bS.cells
      have cR := bR.cells
      have fR := bR.free
      go_wp2_with (go_at_call 41; refine (within_out _ _ _ _).mono ?_; rintro e w' ⟨rfl, rfl⟩)
      refine bodyPost_ret (v := .tuple #[.agg #[.int .i64 s, .int .i64 j, .int .i64 i, .slice A us.length c], .slice none 0 0, .int .i64 7]) (by simp [results, Try.results14, go_sem, cR]) rfl ?_
      exact ⟨rfl, by (repeat' (first | (with_reducible exact Below.refl _ _) | (with_reducible assumption) | (with_reducible refine Below.alloc ?_ ?_ _) | (with_reducible refine Below.drew ?_) | (with_reducible refine below_drewN' ?_ _) | (with_reducible refine Below.setCell ?_ ?_ _) | (with_reducible exact Nat.le_refl _) | omega | (simp; done) | (simp; omega)))⟩
  · have hE' : (CkE s j i us.length != 0) = false := by simpa using hE
    have hE2 : (CkE s j i us.length == 0) = true := by simpa using hE
    have HE := Lib.hid hE
    clear hE
    have hO := outB_no (n := near) (lo := 0) (hi := (us.length : Int) - 1) (by omega)
    have hm1 : decide (many < 0) = false := by simp; omega
    have hfd : decide ((nfree us : Int) < many) = true := by simpa using hfm
    go_enter Try.func14, Try.ntmps14
    go_wp2_with fail
    refine (checkR_any s j i A us.length c _ (by unfold maxLen; omega)).mono ?_
    rintro e w1 ⟨rfl, hb1⟩
    have bS : Blk w1 w.heap.size 26 #[.int .i64 s, .int .i64 j, .int .i64 i, .slice A us.length c] := Blk.belowAll (by (repeat' (first | (with_reducible assumption) | exact Blk.new' (by simp) | refine Blk.alloc ?_ _))) hb1
    have bR : Blk w1 (w.heap.size + 1) 26 #[.int .i64 0, .int .i64 0, .int .i64 0, .slice none 0 0] := Blk.belowAll (by (repeat' (first | (with_reducible assumption) | exact Blk.new' (by simp) | refine Blk.alloc ?_ _))) hb1
    have B1 : Below w.heap.size w w1 := below2 hb1
    clear hb1
    have cS := bS.cells
    go_wp2_with (go_at_call 41; refine (within_out _ _ _ _).mono ?_; rintro e w' ⟨rfl, rfl⟩)
    refine (rfree_any s j i A c us _ (hR.below B1) hus).mono ?_
    rintro e w2 ⟨rfl, hb2⟩
    replace bS := bS.belowAll hb2
    replace bR := bR.belowAll hb2
    have B2 := B1.trans (hb2.mono B1.size)
    clear hb2 B1 cS
    have cS := bS.cells
    have cR := bR.cells
    have fR := bR.free
    go_wp2_with fail
    refine bodyPost_ret (v := .tuple #[.agg #[.int .i64 s, .int .i64 j, .int .i64 i, .slice A us.length c], .slice none 0 0, .int .i64 11]) (by simp [results, Try.results14, go_sem, cR]) rfl ?_
    exact ⟨rfl, by (repeat' (first | (with_reducible exact Below.refl _ _) | (with_reducible assumption) | (with_reducible refine Below.alloc ?_ ?_ _) | (with_reducible refine Below.drew ?_) | (with_reducible refine below_drewN' ?_ _) | (with_reducible refine Below.setCell ?_ ?_ _) | (with_reducible exact Nat.le_refl _) | omega | (simp; done) | (simp; omega)))⟩

theorem allocR_any (s j i : Int) (A : Option Addr) (c : Nat) (us : List Bool) (near many : Int) (w : World) (hn : us.length ≤ 1000) (hR : Reads w A (us.map .bool)) :
    Calls Try.prog 14 #[.agg #[.int .i64 s, .int .i64 j, .int .i64 i, .slice A us.length c], .int .i64 near, .int .i64 many] w (AlPost s j i A c us near many w) := by
  by_cases hE : CkE s j i us.length = 0
  · by_cases hr : near < 0 ∨ (us.length : Int) - 1 < near ∨ many < 0
    · have h7 : AlE s j i us near many = 7 := by simp only [AlE, if_pos hE, if_pos hr]
      exact (allocR_bad s j i A c us near many hn w hR 7 (.inr (.inl ⟨hE, hr, rfl⟩))).mono fun e w' ⟨he, hb⟩ => ⟨hb, .inl ⟨by omega, by rw [he, h7]⟩⟩
    · obtain ⟨nr, rfl⟩ := Int.eq_ofNat_of_zero_le (show 0 ≤ near by omega)
      obtain ⟨mn, rfl⟩ := Int.eq_ofNat_of_zero_le (show 0 ≤ many by omega)
      have hfl := frees_len (us := us) (near := nr) (by omega)
      by_cases hf : nfree us < mn
      · have h11 : AlE s j i us nr mn = 11 := by
          simp only [AlE, if_pos hE, if_neg hr]
          rw [if_pos (by rw [Int.toNat_natCast, Int.toNat_natCast, hfl]; exact hf)]
        exact (allocR_bad s j i A c us nr mn hn w hR 11 (.inr (.inr ⟨hE, hr, by omega, rfl⟩))).mono fun e w' ⟨he, hb⟩ => ⟨hb, .inl ⟨by omega, by rw [he, h11]⟩⟩
      · have h00 : AlE s j i us nr mn = 0 := by
          simp only [AlE, if_pos hE, if_neg hr]
          rw [if_neg (by rw [Int.toNat_natCast, Int.toNat_natCast, hfl]; exact hf)]
        refine (allocR_ok s j i A c nr mn us (by omega) hn w hR hE (by omega)).mono fun e w' ⟨hb, g, cap, av, cv, he, h1, h2⟩ => ⟨hb, .inr ⟨h00, g, cap, av, cv, ?_, ?_, ?_⟩⟩
        · simpa using he
        · simpa using h1
        · simpa using h2
  · have hx : AlE s j i us near many = CkE s j i us.length := by simp only [AlE, if_neg hE]
    exact (allocR_bad s j i A c us near many hn w hR _ (.inl ⟨hE, rfl⟩)).mono fun e w' ⟨he, hb⟩ => ⟨hb, .inl ⟨by omega, by rw [he, hx]⟩⟩

/-- What both return, in one form. -/
theorem AlPost.form {s j i : Int} {A : Option Addr} {c : Nat} {us : List Bool} {near many : Int} {w : World} {e : Ending} {w' : World} (hR : Reads w A (us.map .bool)) (h : AlPost s j i A c us near many w e w') :
    Below w.heap.size w w' ∧ ∃ A2 c2 av cv, e = .returned (.tuple #[.agg #[.int .i64 s, .int .i64 j, .int .i64 i, .slice A2 us.length c2], .slice av (if AlE s j i us near many = 0 then allocd us near.toNat many.toNat else []).length cv, .int .i64 (AlE s j i us near many)]) ∧
      Reads w' A2 ((if AlE s j i us near many = 0 then setAll us (allocd us near.toNat many.toNat) true else us).map .bool) ∧ Reads w' av ((if AlE s j i us near many = 0 then allocd us near.toNat many.toNat else []).map (.int .i64)) := by
  obtain ⟨hb, ⟨h, he⟩ | ⟨h, g, cap, av, cv, he, h1, h2⟩⟩ := h
  · refine ⟨hb, A, c, none, 0, ?_, ?_, ?_⟩
    · simp only [if_neg h, he, List.length_nil]
    · simp only [if_neg h]; exact hR.below hb
    · simp only [if_neg h]; exact Reads.nil
  · refine ⟨hb, some ⟨g, 0, none⟩, cap, av, cv, ?_, ?_, ?_⟩
    · rw [if_pos h, he, h]
    · rw [if_pos h]; exact Reads.of_own h1
    · rw [if_pos h]; exact Reads.of_own h2

end Go.Proofs.Ytenfheheepkfbaa
