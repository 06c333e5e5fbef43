/- BlocksTakes, walked. -/
import Derived.Test.YtenfheheepkfbaaT4
import Derived.Test.YtenfheheepkfbaaK2
import Derived.Test.YtenfheheepkfbaaW1
namespace Go.Proofs.Ytenfheheepkfbaa
open Go.RowKit

set_option maxRecDepth 100000 in
set_option maxHeartbeats 2000000 in
theorem takesLaw_far (s j i : Int) (A B : Option Addr) (n c m d : Nat) (w : World) (hm : n ≤ maxLen) (h : 300 < n ∨ 300 < m) :
    Calls Try.prog 9 #[.agg #[.int .i64 s, .int .i64 j, .int .i64 i, .slice A n c], .slice B m d] w fun e w' => e = .returned (.bool true) ∧ Below w.heap.size w w' := by
  by_cases h1 : 300 < n
  all_goals
    first | have hd : decide (300 < n) = true := decide_eq_true h1 | have hd : decide (300 < n) = false := decide_eq_false h1
    have hd2 : ¬ 300 < n → 300 < m := fun h' => by omega
    first | (have hd3 := hd2 h1; clear hd2) | clear hd2
    clear h
    go_enter Try.func9, Try.ntmps9
    go_wp2_with fail
    refine (far_any s j i A n c _ hm).mono ?_
    rintro e w1 ⟨rfl, hb1⟩
    have B1 := below1 hb1
    clear hb1
    go_wp2_with fail
    refine (awake_any _).mono ?_
    rintro e w2 ⟨rfl, hb2⟩
    have B2 := B1.trans (hb2.mono B1.size)
    clear hb2
    go_wp2_with fail
    go_ret
    exact ⟨rfl, B2⟩

set_option maxRecDepth 100000 in
set_option maxHeartbeats 4000000 in
theorem takesLaw_near (s j i : Int) (A B : Option Addr) (c d : Nat) (us : List Bool) (l : List Int) (w : World) (h : us.length ≤ 300) (h2 : l.length ≤ 300) (hA : A = none → us.length = 0) (hR : Reads w A (us.map .bool)) (hX : Reads w B (l.map (.int .i64))) :
    Calls Try.prog 9 #[.agg #[.int .i64 s, .int .i64 j, .int .i64 i, .slice A us.length c], .slice B l.length d] w fun e w' => e = .returned (.bool true) ∧ Below w.heap.size w w' := by
  have hd : decide (300 < us.length) = false := by simp; omega
  have hml : us.length ≤ maxLen := by unfold maxLen; omega
  obtain ⟨i0, hi, hz0, hz1, hz2⟩ := info_parts Try.info4
  have hone := Lib.hid (oneCell_bools us)
  have HA := Lib.hid hA
  clear hA
  go_enter Try.func9, Try.ntmps9
  go_wp2_with fail
  refine (far_any s j i A us.length c _ hml).mono ?_
  rintro e w1 ⟨rfl, hb1⟩
  have bS : Blk w1 w.heap.size 26 #[.int .i64 s, .int .i64 j, .int .i64 i, .slice A us.length c] := Blk.belowAll (by (repeat' (first | (with_reducible assumption) | exact Blk.new' (by simp) | refine Blk.alloc ?_ _))) hb1
  have B1 := below1 hb1
  have hR1 := hR.below B1
  have cS := bS.cells
  have lS := bS.lt
  clear hb1
  go_wp2_with (at_builtin; refine wpList_append_any _ rfl (.tmp 22) (.tmp 24) _ rfl w1.heap.size 4 i0 (.bool false) 1 Try.underlying24 hi hz0 hz1 hz2 rfl (.slice (some ⟨w1.heap.size, 0, none⟩) 0 0) 0 [] rfl (World.ownsRow_made w1 #[] 0 (Nat.le_refl _) (by simp) rfl) A us.length c (us.map .bool) rfl (by simp) HA.out (hR1.alloc _) hone.out (by simp only [maxLen]; omega) (by omega) (by simp) ?_; intro v1 w2 hown1 hg1 hat1; obtain ⟨ao, co, rfl⟩ := own_slice hown1; have bS2 : Blk w2 _ _ _ := (Blk.alloc bS _).grown hg1 (by simp [Value.ownBlock]; omega); have cS := bS2.cells; have lS := bS2.lt)
  have B2 : Below w.heap.size w w2 := (B1.alloc B1.size _).grown hg1 (by simp; have := B1.size; omega) (by intro k hk; simp [Value.ownBlock] at hk; have := B1.size; omega)
  have hO2 : Reads w2 ao (us.map .bool) := by simpa using Reads.of_own hown1
  have hR2 := hR.below B2
  have hX2 := hX.below B2
  clear hown1 hg1 hat1 bS cS B1 hR1 hone hi hz0 hz1 hz2
  have cS := bS2.cells
  refine ((take_any s j i A B c d us l (by omega) (by omega) _ hR2 hX2).mono fun e w' hx => hx.form hR2).mono ?_
  rintro e w3 ⟨hb, a1, c1, rfl, hP3⟩
  have bS3 := bS2.belowAll hb
  have B3 := B2.trans (hb.mono B2.size)
  have hR3 := hR2.below hb
  have hX3 := hX2.below hb
  have hO3 := hO2.below hb
  clear hb bS2 cS B2 hR2 hX2 hO2
  have cS := bS3.cells
  have lS3 := bS3.lt
  go_wp2_with fail
  have b1_3 : Blk (w3.alloc (.cells #[.int .i64 s, .int .i64 j, .int .i64 i, .slice a1 (TnU s j i us l true 9).length c1] 26)) w3.heap.size 26 #[.int .i64 s, .int .i64 j, .int .i64 i, .slice a1 (TnU s j i us l true 9).length c1] := Blk.new _ _ _
  refine ((takeR_any s j i A B c d us l (by omega) (by omega) _ (hR3.alloc _) (hX3.alloc _)).mono fun e w' hx => hx.form (hR3.alloc _)).mono ?_
  rintro e w4 ⟨hb, a2, c2, rfl, hQ4⟩
  have bS4 := (bS3.alloc _).belowAll hb
  have b1_4 := b1_3.belowAll hb
  have hb' := below1 hb
  have B4 := B3.trans (hb'.mono B3.size)
  have hR4 := hR3.below hb'
  have hX4 := hX3.below hb'
  have hO4 := hO3.below hb'
  have hP4 := hP3.below hb'
  clear hb hb' bS3 cS B3 hR3 hX3 hO3 hP3 b1_3
  have cS := bS4.cells
  have lS4 := bS4.lt
  go_wp2_with fail
  have b2_4 : Blk (w4.alloc (.cells #[.int .i64 s, .int .i64 j, .int .i64 i, .slice a2 (TnU s j i us l true 9).length c2] 26)) w4.heap.size 26 #[.int .i64 s, .int .i64 j, .int .i64 i, .slice a2 (TnU s j i us l true 9).length c2] := Blk.new _ _ _
  refine ((freeb_any s j i A B c d us l (by omega) (by omega) _ (hR4.alloc _) (hX4.alloc _)).mono fun e w' hx => hx.form (hR4.alloc _)).mono ?_
  rintro e w5 ⟨hb, a3, c3, rfl, hS5⟩
  have bS5 := (bS4.alloc _).belowAll hb
  have b1_5 := (b1_4.alloc _).belowAll hb
  have b2_5 := b2_4.belowAll hb
  have hb' := below1 hb
  have B5 := B4.trans (hb'.mono B4.size)
  have hR5 := hR4.below hb'
  have hX5 := hX4.below hb'
  have hO5 := hO4.below hb'
  have hP5 := hP4.below hb'
  have hQ5 := hQ4.below hb'
  clear hb hb' bS4 cS B4 hR4 hX4 hO4 hP4 hQ4 b1_4 b2_4
  have cS := bS5.cells
  have lS5 := bS5.lt
  go_wp2_with fail
  have b3_5 : Blk (w5.alloc (.cells #[.int .i64 s, .int .i64 j, .int .i64 i, .slice a3 (TnU s j i us l false 4).length c3] 26)) w5.heap.size 26 #[.int .i64 s, .int .i64 j, .int .i64 i, .slice a3 (TnU s j i us l false 4).length c3] := Blk.new _ _ _
  refine ((freeR_any s j i A B c d us l (by omega) (by omega) _ (hR5.alloc _) (hX5.alloc _)).mono fun e w' hx => hx.form (hR5.alloc _)).mono ?_
  rintro e w6 ⟨hb, a4, c4, rfl, hT6⟩
  have bS6 := (bS5.alloc _).belowAll hb
  have b1_6 := (b1_5.alloc _).belowAll hb
  have b2_6 := (b2_5.alloc _).belowAll hb
  have b3_6 := b3_5.belowAll hb
  have hb' := below1 hb
  have B6 := B5.trans (hb'.mono B5.size)
  have hR6 := hR5.below hb'
  have hO6 := hO5.below hb'
  have hP6 := hP5.below hb'
  have hQ6 := hQ5.below hb'
  have hS6 := hS5.below hb'
  clear hb hb' bS5 cS B5 hR5 hX5 hO5 hP5 hQ5 hS5 b1_5 b2_5 b3_5
  have cS := bS6.cells
  have lS6 := bS6.lt
  obtain ⟨W0, hW0⟩ : ∃ W0, W0 = w6.alloc (.cells #[.int .i64 s, .int .i64 j, .int .i64 i, .slice a4 (TnU s j i us l false 4).length c4] 26) := ⟨_, rfl⟩
  have bS7 : Blk W0 w.heap.size 26 #[.int .i64 s, .int .i64 j, .int .i64 i, .slice A us.length c] := by rw [hW0]; exact bS6.alloc _
  have b1_7 : Blk W0 w3.heap.size 26 #[.int .i64 s, .int .i64 j, .int .i64 i, .slice a1 (TnU s j i us l true 9).length c1] := by rw [hW0]; exact b1_6.alloc _
  have b2_7 : Blk W0 w4.heap.size 26 #[.int .i64 s, .int .i64 j, .int .i64 i, .slice a2 (TnU s j i us l true 9).length c2] := by rw [hW0]; exact b2_6.alloc _
  have b3_7 : Blk W0 w5.heap.size 26 #[.int .i64 s, .int .i64 j, .int .i64 i, .slice a3 (TnU s j i us l false 4).length c3] := by rw [hW0]; exact b3_6.alloc _
  have b4_7 : Blk W0 w6.heap.size 26 #[.int .i64 s, .int .i64 j, .int .i64 i, .slice a4 (TnU s j i us l false 4).length c4] := by rw [hW0]; exact Blk.new _ _ _
  have B7 : Below w.heap.size w W0 := by rw [hW0]; exact B6.alloc B6.size _
  have hR7 : Reads W0 A (us.map .bool) := by rw [hW0]; exact hR6.alloc _
  have hO7 : Reads W0 ao (us.map .bool) := by rw [hW0]; exact hO6.alloc _
  have hP7 : Reads W0 a1 ((TnU s j i us l true 9).map .bool) := by rw [hW0]; exact hP6.alloc _
  have hQ7 : Reads W0 a2 ((TnU s j i us l true 9).map .bool) := by rw [hW0]; exact hQ6.alloc _
  have hS7 : Reads W0 a3 ((TnU s j i us l false 4).map .bool) := by rw [hW0]; exact hS6.alloc _
  have hT7 : Reads W0 a4 ((TnU s j i us l false 4).map .bool) := by rw [hW0]; exact hT6.alloc _
  have hu1 : (TnU s j i us l true 9).length ≤ 1000 := by rw [TnU_length]; omega
  have hu2 : (TnU s j i us l false 4).length ≤ 1000 := by rw [TnU_length]; omega
  generalize TnU s j i us l true 9 = U1 at *
  generalize TnU s j i us l false 4 = U2 at *
  go_wp2_with (rw [← hW0]; clear hW0 cS; have cS := bS7.cells; have q1 := b1_7.cells; have q2 := b2_7.cells)
  refine (same_self s j i a1 a2 c1 c2 U1 _ hP7 hQ7 hu1).mono ?_
  rintro e w8 ⟨rfl, hb⟩
  have r3 := (b3_7.belowAll hb).cells
  have r4 := (b4_7.belowAll hb).cells
  have bS8 := bS7.belowAll hb
  have B8 := B7.trans (hb.mono B7.size)
  have hR8 := hR7.below hb
  have hO8 := hO7.below hb
  have hS8 := hS7.below hb
  have hT8 := hT7.below hb
  clear hb
  go_wp2_with fail
  refine (same_self s j i a3 a4 c3 c4 U2 _ hS8 hT8 hu2).mono ?_
  rintro e w9 ⟨rfl, hb⟩
  have bS9 := bS8.belowAll hb
  have B9 := B8.trans (hb.mono B8.size)
  have hR9 := hR8.below hb
  have hO9 := hO8.below hb
  clear hb
  have cS9 := bS9.cells
  go_wp2_with fail
  refine (same_self s j i A ao c co us _ hR9 hO9 (by omega)).mono ?_
  rintro e w10 ⟨rfl, hb⟩
  have B10 := B9.trans (hb.mono B9.size)
  clear hb
  go_wp2_with fail
  refine (awake_any _).mono ?_
  rintro e w11 ⟨rfl, hb⟩
  have B11 := B10.trans (hb.mono B10.size)
  clear hb
  go_wp2_with fail
  go_ret
  exact ⟨rfl, B11⟩

end Go.Proofs.Ytenfheheepkfbaa
