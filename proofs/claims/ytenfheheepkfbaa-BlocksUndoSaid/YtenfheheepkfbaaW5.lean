/- BlocksRound, walked. -/
import Derived.Test.YtenfheheepkfbaaQ1
import Derived.Test.YtenfheheepkfbaaK2
import Derived.Test.YtenfheheepkfbaaW1
import Derived.Laws.BytesArg
namespace Go.Proofs.Ytenfheheepkfbaa
open Go.RowKit

theorem ckE_rg {s j i : Int} {n : Nat} (h : rgE s j i = 0) (hn : n = (rgB s j i).toNat) : CkE s j i n = 0 := by
  have := rgB_bds s j i
  unfold CkE
  rw [if_pos h, if_pos (by omega)]

theorem conv_bytes (A : Option Addr) (n c : Nat) (xs : List Int) (hn : xs.length = n) (w : World) (hR : Reads w A (xs.map (.int .u8))) :
    (convert 50 9 (.slice A n c)).run Try.prog w = .ok (.string (strOfNums xs)) w := by
  rcases hR with h | ⟨b, off, rfl, hb, hc⟩
  · have hx : xs = [] := by simpa using h
    subst hx
    have hn0 : n = 0 := by simpa using hn.symm
    subst hn0
    rcases A with _ | a
    · exact run_convert_bytes_nil w 50 5 Try.underlying50 Try.underlying5 0 c 9 Try.underlying9
    · rw [run_convert_bytes_string w 50 9 5 _ 0 c Try.underlying50 Try.underlying5 Try.underlying9, run_bytesToString w a 0 c [] (by simp [loadCells, loadCellsFrom])]
      rfl
  · exact run_convert_bytes_arg w 50 5 Try.underlying50 Try.underlying5 b off n c xs hn (fun i hi => by
      have := hc i (.int .u8 (xs.getD i 0)) (by simp [List.getElem?_eq_getElem (show i < xs.length by omega)])
      exact this) 9 Try.underlying9

theorem decode_enc (s j i : Int) (g : Nat) (us : List Bool) (w : World) (hE : CkE s j i us.length = 0) (hR : Reads w (some ⟨g, 0, none⟩) ((encL us us.length).map (.int .u8))) :
    Calls Try.prog 27 #[.agg #[.int .i64 s, .int .i64 j, .int .i64 i], .slice (some ⟨g, 0, none⟩) 96 96] w fun e w' => Below w.heap.size w w' ∧
      ∃ g', e = .returned (.tuple #[.agg #[.int .i64 s, .int .i64 j, .int .i64 i, .slice (some ⟨g', 0, none⟩) us.length us.length], .int .i64 0]) ∧ Reads w' (some ⟨g', 0, none⟩) (us.map .bool) := by
  have h96 := encL_length us us.length
  have D := decode_any s j i (some ⟨g, 0, none⟩) 96 (encL us us.length) (by rw [h96]; decide) w hR
  rw [h96] at D
  obtain ⟨h0, hB, h8, h256⟩ := ckE_len hE
  have hn : (rgB s j i).toNat = us.length := by omega
  refine D.mono ?_
  rintro e w' ⟨hb, h⟩
  unfold DecPost at *
  obtain ⟨hd1, hd2⟩ := dec_enc (us := us) (by omega)
  rw [hn] at h
  rcases h with ⟨h, _⟩ | ⟨_, h, _⟩ | ⟨_, _, h, _⟩ | ⟨_, _, _, g', he, _, hr⟩
  · exact absurd h0 h
  · exact absurd h96 h
  · exact absurd hd2 h
  · rw [hd1] at hr
    exact ⟨hb, g', he, hr⟩

theorem decode_back (s j i : Int) (A : Option Addr) (c : Nat) (xs : List Int) (hml : xs.length ≤ maxLen) (hbx : Bytes xs) (w : World) (hR : Reads w A (xs.map (.int .u8))) :
    Calls Try.prog 27 #[.agg #[.int .i64 s, .int .i64 j, .int .i64 i], .slice A xs.length c] w fun e w' => Below w.heap.size w w' ∧
      ((∃ E : Int, E ≠ 0 ∧ e = .returned (.tuple #[.agg #[.int .i64 0, .int .i64 0, .int .i64 0, .slice none 0 0], .int .i64 E])) ∨
       ∃ (us : List Bool) (g : Nat), e = .returned (.tuple #[.agg #[.int .i64 s, .int .i64 j, .int .i64 i, .slice (some ⟨g, 0, none⟩) us.length us.length], .int .i64 0]) ∧ Reads w' (some ⟨g, 0, none⟩) (us.map .bool) ∧
         CkE s j i us.length = 0 ∧ us.length ≤ 1000 ∧ encL us us.length = xs) := by
  refine (decode_any s j i A c xs hml w hR).mono ?_
  rintro e w' ⟨hb, ⟨h0, he⟩ | ⟨_, _, he⟩ | ⟨_, _, _, he⟩ | ⟨h0, h96, hno, g, he, _, hr⟩⟩
  · exact ⟨hb, .inl ⟨_, h0, he⟩⟩
  · exact ⟨hb, .inl ⟨3, by decide, he⟩⟩
  · exact ⟨hb, .inl ⟨6, by decide, he⟩⟩
  · have hB := rgB_bds s j i
    have hl := decS_length xs (rgB s j i).toNat 768
    refine ⟨hb, .inr ⟨decS xs (rgB s j i).toNat 768, g, by rw [hl]; exact he, hr, ?_, by omega, ?_⟩⟩
    · rw [hl]; exact ckE_rg h0 rfl
    · rw [hl]; exact enc_dec (by omega) h96 hbx hno

set_option maxRecDepth 100000 in
set_option maxHeartbeats 2000000 in
theorem roundLaw_far (s j i : Int) (A B : Option Addr) (n c m d : Nat) (w : World) (hm : n ≤ maxLen) (h : 300 < n ∨ 300 < m) :
    Calls Try.prog 7 #[.agg #[.int .i64 s, .int .i64 j, .int .i64 i, .slice A n c], .slice B m d] w fun e w' => e = .returned (.bool true) ∧ Below w.heap.size w w' := by
  by_cases h1 : 300 < n
  all_goals
    first | have hd : decide (300 < n) = true := decide_eq_true h1 | have hd : decide (300 < n) = false := decide_eq_false h1
    have hd2 : ¬ 300 < n → 300 < m := fun h' => by omega
    first | (have hd3 := hd2 h1; clear hd2) | clear hd2
    clear h
    go_enter Try.func7, Try.ntmps7
    go_wp2_with fail
    refine (far_any s j i A n c _ hm).mono ?_
    rintro e w1 ⟨rfl, hb1⟩
    have B1 := below1 hb1
    clear hb1
    go_wp2_with fail
    refine (awake_any _).mono ?_
    rintro e w2 ⟨rfl, hb2⟩
    have B2 := B1.trans (hb2.mono B1.size)
    clear hb2
    go_wp2_with fail
    go_ret
    exact ⟨rfl, B2⟩

set_option maxRecDepth 100000 in
set_option maxHeartbeats 4000000 in
theorem roundLaw_near (s j i : Int) (A B : Option Addr) (c d : Nat) (us : List Bool) (xs : List Int) (w : World) (h : us.length ≤ 300) (h2 : xs.length ≤ 300) (hbx : Bytes xs) (hR : Reads w A (us.map .bool)) (hX : Reads w B (xs.map (.int .u8))) :
    Calls Try.prog 7 #[.agg #[.int .i64 s, .int .i64 j, .int .i64 i, .slice A us.length c], .slice B xs.length d] w fun e w' => e = .returned (.bool true) ∧ Below w.heap.size w w' := by
  have hd : decide (300 < us.length) = false := by simp; omega
  have hml : us.length ≤ maxLen := by unfold maxLen; omega
  have hml2 : xs.length ≤ maxLen := by unfold maxLen; omega
  go_enter Try.func7, Try.ntmps7
  go_wp2_with fail
  refine (far_any s j i A us.length c _ hml).mono ?_
  rintro e w1 ⟨rfl, hb1⟩
  have bS : Blk w1 w.heap.size 26 #[.int .i64 s, .int .i64 j, .int .i64 i, .slice A us.length c] := Blk.belowAll (by (repeat' (first | (with_reducible assumption) | exact Blk.new' (by simp) | refine Blk.alloc ?_ _))) hb1
  have B1 := below1 hb1
  have hR1 := hR.below B1
  have hX1 := hX.below B1
  have cS := bS.cells
  have lS := bS.lt
  clear hb1 hR hX
  go_wp2_with fail
  refine (encode_any s j i A c us (by omega) _ hR1).mono ?_
  rintro e w2 ⟨hb2, ⟨hC, rfl⟩ | ⟨hC, g, rfl, hg, hrd⟩⟩
  focus
    have hC' : (CkE s j i us.length == 0) = false := by simpa using hC
    have bS5 := bS.belowAll hb2
    have B5 := B1.trans (hb2.mono B1.size)
    have hX5 := hX1.below hb2
    clear bS cS hb2 B1 hX1 hR1 hC
    have cS := bS5.cells
    have lS5 := bS5.lt
    go_wp2_with fail
  rotate_left
  focus
    have HC := Lib.hid hC
    have bS2 := bS.belowAll hb2
    have B2 := B1.trans (hb2.mono B1.size)
    have hX2 := hX1.below hb2
    have hR2 := hR1.below hb2
    clear bS cS hb2 B1 hX1 hR1 hC
    have cS := bS2.cells
    have lS2 := bS2.lt
    go_wp2_with fail
    refine (decode_enc s j i g us _ HC.out hrd).mono ?_
    rintro e w3 ⟨hb3, g3, rfl, hrd3⟩
    have bS3 := bS2.belowAll hb3
    have B3 := B2.trans (hb3.mono B2.size)
    have hX3 := hX2.below hb3
    have hR3 := hR2.below hb3
    clear bS2 cS hb3 B2 hX2 hR2 lS2
    have cS := bS3.cells
    have lS3 := bS3.lt
    have bT3 : Blk (w3.alloc (.cells #[.int .i64 s, .int .i64 j, .int .i64 i, .slice (some ⟨g3, 0, none⟩) us.length us.length] 26)) w3.heap.size 26 #[.int .i64 s, .int .i64 j, .int .i64 i, .slice (some ⟨g3, 0, none⟩) us.length us.length] := Blk.new _ _ _
    go_wp2_with fail
    refine (same_self s j i A (some ⟨g3, 0, none⟩) c us.length us _ (hR3.alloc _) (hrd3.alloc _) (by omega)).mono ?_
    rintro e w5 ⟨rfl, hb5⟩
    have bS5 := (bS3.alloc _).belowAll hb5
    have B5 := B3.trans ((below1 hb5).mono B3.size)
    have hX5 := hX3.below (below1 hb5)
    clear bS3 cS hb5 B3 hX3 hR3 lS3 bT3
    have cS := bS5.cells
    have lS5 := bS5.lt
    go_wp2_with fail
  rotate_left
  all_goals
    refine (decode_back s j i B d xs hml2 hbx _ hX5).mono ?_
    rintro e w6 ⟨hb6, ⟨E, hE, rfl⟩ | ⟨vs, g6, rfl, hrd6, hE6, hl6, henc⟩⟩
    · have hE' : (E == 0) = false := by simpa using hE
      have B6 := B5.trans (hb6.mono B5.size)
      go_wp2_with fail
      refine (awake_any _).mono ?_
      rintro e w7 ⟨rfl, hb7⟩
      have B7 := (B6.alloc B6.size _).trans (hb7.mono (by have := B6.size; simp; omega))
      clear hb7 hb6
      go_wp2_with fail
      go_ret
      exact ⟨rfl, B7⟩
    · have B6 := B5.trans (hb6.mono B5.size)
      have hX6 := hX5.below hb6
      have HN := Lib.hid henc
      clear hb6 B5 hX5 henc cS
      go_wp2_with fail
      refine (encode_ok s j i (some ⟨g6, 0, none⟩) vs.length vs hl6 _ (hrd6.alloc _) hE6).mono ?_
      rintro e w7 ⟨hb7, ⟨hC7, _⟩ | ⟨hC7, g7, rfl, hg7, hrd7⟩⟩
      · exact absurd hE6 hC7
      · rw [HN.out] at hrd7
        have B7 := B6.trans ((below1 hb7).mono B6.size)
        have hX7 := hX6.below (below1 hb7)
        have h96 : xs.length = 96 := by rw [← HN.out]; exact encL_length _ _
        have hc1 := conv_bytes (some ⟨g7, 0, none⟩) 96 96 xs h96 w7 hrd7
        have hc2 := conv_bytes B 96 d xs h96 w7 hX7
        go_wp2_with fail
        refine (awake_any _).mono ?_
        rintro e w8 ⟨rfl, hb8⟩
        have B8 := B7.trans (hb8.mono B7.size)
        clear hb8 hb7
        go_wp2_with fail
        go_ret
        exact ⟨rfl, B8⟩

end Go.Proofs.Ytenfheheepkfbaa
