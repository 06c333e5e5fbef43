/- BlocksBits, walked. -/
import Derived.Test.YtenfheheepkfbaaR9
import Derived.Test.YtenfheheepkfbaaE3
import Derived.Test.YtenfheheepkfbaaW5
namespace Go.Proofs.Ytenfheheepkfbaa
open Go.RowKit

def rsL (s j i : Int) (us : List Bool) : List Int := if CkE s j i us.length = 0 then runsL us else []
def enL (s j i : Int) (us : List Bool) : List Int := if CkE s j i us.length = 0 then encL us us.length else []
theorem rsL_len (s j i : Int) (us : List Bool) : ∃ m, (rsL s j i us).length = m * 2 ∧ m ≤ us.length := by
  unfold rsL
  split
  · obtain ⟨m, h1, h2, _⟩ := (runs_know (us := us) (k := us.length) (Nat.le_refl _)).1
    exact ⟨m, h1, h2⟩
  · exact ⟨0, rfl, Nat.zero_le _⟩
theorem Reads.of_own2 {w : World} {base : Nat} {e : TypeId} {A : Option Addr} {n c : Nat} {xs : List Value} (h : w.ownsRow base e 2 (.slice A n c) n xs) : Reads w A xs := by
  obtain ⟨h1, h2⟩ := h
  rcases h2 with ⟨_, h2⟩ | ⟨g, cap, cur, hv, hg, hh, h3, h4, h5, h6⟩
  · left; subst h2; simpa using h1
  · right
    simp only [Value.slice.injEq] at hv
    refine ⟨g, 0, hv.1, ?_, fun j u hu => ?_⟩
    · exact (Array.getElem?_eq_some_iff.1 hh).1
    · rw [cell_of_row w g (0 + j) cur e (0, 0) hh]
      rw [← h6, List.getElem?_take] at hu
      split at hu
      · simpa using hu
      · simp at hu
theorem runs_form {s j i : Int} {us : List Bool} {w : World} {e : Ending} {w' : World} (h : RunsPost s j i us w e w') :
    Below w.heap.size w w' ∧ ∃ av cv, e = .returned (.tuple #[.slice av ((rsL s j i us).length / 2) cv, .int .i64 (CkE s j i us.length)]) ∧ Reads w' av ((rsL s j i us).map (.int .i64)) := by
  obtain ⟨hb, ⟨hE, he⟩ | ⟨hE, av, cv, he, ho⟩⟩ := h
  · refine ⟨hb, none, 0, ?_, ?_⟩
    · rw [he]; simp [rsL, hE]
    · simp [rsL, hE]; exact Reads.nil
  · refine ⟨hb, av, cv, ?_, ?_⟩
    · rw [he]; simp [rsL, hE]
    · simp only [rsL, hE, if_true]; exact Reads.of_own2 ho
theorem enc_form {s j i : Int} {us : List Bool} {w : World} {e : Ending} {w' : World} (h : EncPost s j i us w e w') :
    Below w.heap.size w w' ∧ ∃ av cv, e = .returned (.tuple #[.slice av (enL s j i us).length cv, .int .i64 (CkE s j i us.length)]) ∧ Reads w' av ((enL s j i us).map (.int .u8)) := by
  obtain ⟨hb, ⟨hE, he⟩ | ⟨hE, g, he, _, hr⟩⟩ := h
  · refine ⟨hb, none, 0, ?_, ?_⟩
    · rw [he]; simp [enL, hE]
    · simp [enL, hE]; exact Reads.nil
  · refine ⟨hb, some ⟨g, 0, none⟩, 96, ?_, ?_⟩
    · rw [he]; simp [enL, hE, encL_length]
    · simp only [enL, hE, if_true]; exact hr
/-- What Decode returns: the layout's numbers, the blocks, the error. -/
def DecIs (s j i : Int) (xs : List Int) (D : Int × Int × Int × List Bool × Int) : Prop :=
  (rgE s j i ≠ 0 ∧ D = (0, 0, 0, [], rgE s j i)) ∨ (rgE s j i = 0 ∧ xs.length ≠ 96 ∧ D = (0, 0, 0, [], 3)) ∨ (rgE s j i = 0 ∧ xs.length = 96 ∧ ¬ noneAfter xs (rgB s j i).toNat 768 ∧ D = (0, 0, 0, [], 6)) ∨
    (rgE s j i = 0 ∧ xs.length = 96 ∧ noneAfter xs (rgB s j i).toNat 768 ∧ D = (s, j, i, decS xs (rgB s j i).toNat 768, 0))
theorem DecIs.one {s j i : Int} {xs : List Int} {D D' : Int × Int × Int × List Bool × Int} (h : DecIs s j i xs D) (h' : DecIs s j i xs D') : D = D' := by
  rcases h with ⟨h1, h2⟩ | ⟨h1, h2, h3⟩ | ⟨h1, h2, h3, h4⟩ | ⟨h1, h2, h3, h4⟩ <;> rcases h' with ⟨k1, k2⟩ | ⟨k1, k2, k3⟩ | ⟨k1, k2, k3, k4⟩ | ⟨k1, k2, k3, k4⟩ <;> first | (exact absurd (by assumption) h1) | (exact absurd (by assumption) k1) | (exact absurd (by assumption) h2) | (exact absurd (by assumption) k2) | (exact absurd (by assumption) h3) | (exact absurd (by assumption) k3) | (rw [h2, k2]; done) | (rw [h3, k3]; done) | (rw [h4, k4]; done)
theorem DecIs.len {s j i : Int} {xs : List Int} {a b c e : Int} {us : List Bool} (h : DecIs s j i xs (a, b, c, us, e)) : us.length ≤ 1000 := by
  have := rgB_bds s j i
  rcases h with ⟨_, h⟩ | ⟨_, _, h⟩ | ⟨_, _, _, h⟩ | ⟨_, _, _, h⟩ <;> cases h
  · simp
  · simp
  · simp
  · rw [decS_length]; omega
theorem dec_form {s j i : Int} {xs : List Int} {w : World} {e : Ending} {w' : World} (h : DecPost s j i xs w e w') :
    Below w.heap.size w w' ∧ ∃ a b d us E, DecIs s j i xs (a, b, d, us, E) ∧ ∃ av cv, e = .returned (.tuple #[.agg #[.int .i64 a, .int .i64 b, .int .i64 d, .slice av us.length cv], .int .i64 E]) ∧ Reads w' av (us.map .bool) := by
  obtain ⟨hb, ⟨h1, he⟩ | ⟨h1, h2, he⟩ | ⟨h1, h2, h3, he⟩ | ⟨h1, h2, h3, g, he, _, hr⟩⟩ := h
  · exact ⟨hb, 0, 0, 0, [], _, .inl ⟨h1, rfl⟩, none, 0, he, Reads.nil⟩
  · exact ⟨hb, 0, 0, 0, [], _, .inr (.inl ⟨h1, h2, rfl⟩), none, 0, he, Reads.nil⟩
  · exact ⟨hb, 0, 0, 0, [], _, .inr (.inr (.inl ⟨h1, h2, h3, rfl⟩)), none, 0, he, Reads.nil⟩
  · exact ⟨hb, s, j, i, _, 0, .inr (.inr (.inr ⟨h1, h2, h3, rfl⟩)), some ⟨g, 0, none⟩, (rgB s j i).toNat, by rw [decS_length]; exact he, hr⟩

set_option maxRecDepth 100000 in
set_option maxHeartbeats 2000000 in
theorem bitsLaw_far (s j i : Int) (A B : Option Addr) (n c m d : Nat) (w : World) (hm : n ≤ maxLen) (h : 300 < n ∨ 300 < m) :
    Calls Try.prog 8 #[.agg #[.int .i64 s, .int .i64 j, .int .i64 i, .slice A n c], .slice B m d] w fun e w' => e = .returned (.bool true) ∧ Below w.heap.size w w' := by
  by_cases h1 : 300 < n
  all_goals
    first | have hd : decide (300 < n) = true := decide_eq_true h1 | have hd : decide (300 < n) = false := decide_eq_false h1
    have hd2 : ¬ 300 < n → 300 < m := fun h' => by omega
    first | (have hd3 := hd2 h1; clear hd2) | clear hd2
    clear h
    go_enter Try.func8, Try.ntmps8
    go_wp2_with fail
    refine (far_any s j i A n c _ hm).mono ?_
    rintro e w1 ⟨rfl, hb1⟩
    have B1 := below1 hb1
    clear hb1
    go_wp2_with fail
    refine (awake_any _).mono ?_
    rintro e w2 ⟨rfl, hb2⟩
    have B2 := B1.trans (hb2.mono B1.size)
    clear hb2
    go_wp2_with fail
    go_ret
    exact ⟨rfl, B2⟩

set_option maxRecDepth 100000 in
set_option maxHeartbeats 4000000 in
theorem bitsLaw_near (s j i : Int) (A B : Option Addr) (c d : Nat) (us : List Bool) (xs : List Int) (w : World) (h : us.length ≤ 300) (h2 : xs.length ≤ 300) (hbx : Bytes xs) (hR : Reads w A (us.map .bool)) (hX : Reads w B (xs.map (.int .u8))) :
    Calls Try.prog 8 #[.agg #[.int .i64 s, .int .i64 j, .int .i64 i, .slice A us.length c], .slice B xs.length d] w fun e w' => e = .returned (.bool true) ∧ Below w.heap.size w w' := by
  have hd : decide (300 < us.length) = false := by simp; omega
  have hml : us.length ≤ maxLen := by unfold maxLen; omega
  have hml2 : xs.length ≤ maxLen := by unfold maxLen; omega
  obtain ⟨m, hlm, hmu⟩ := rsL_len s j i us
  have HLM := Lib.hid hlm
  have hl2 : (rsL s j i us).length / 2 = m := by omega
  go_enter Try.func8, Try.ntmps8
  go_wp2_with fail
  refine (far_any s j i A us.length c _ hml).mono ?_
  rintro e w1 ⟨rfl, hb1⟩
  have bS1 : Blk w1 w.heap.size 26 #[.int .i64 s, .int .i64 j, .int .i64 i, .slice A us.length c] := Blk.belowAll (by (repeat' (first | (with_reducible assumption) | exact Blk.new' (by simp) | refine Blk.alloc ?_ _))) hb1
  have B1 := below1 hb1
  have hR1 := hR.below B1
  have hX1 := hX.below B1
  have cS := bS1.cells
  have lS := bS1.lt
  clear hb1 hR hX
  go_wp2_with fail
  refine (count_any s j i A c us (by omega) _ hR1).mono ?_
  rintro e w2 ⟨rfl, hb⟩
  have bS2 := bS1.belowAll hb
  have B2 := B1.trans (hb.mono B1.size)
  have hR2 := hR1.below hb
  have hX2 := hX1.below hb
  clear hb bS1 B1 hR1 hX1 cS
  have cS := bS2.cells
  have lS := bS2.lt
  go_wp2_with fail
  refine (countR_any s j i A c us (by omega) _ hR2).mono ?_
  rintro e w3 ⟨rfl, hb⟩
  have bS3 := bS2.belowAll hb
  have B3 := B2.trans (hb.mono B2.size)
  have hR3 := hR2.below hb
  have hX3 := hX2.below hb
  clear hb bS2 B2 hR2 hX2 cS
  have cS := bS3.cells
  have lS := bS3.lt
  go_wp2_with fail
  refine ((runs_any s j i A c us (by omega) _ hR3).mono fun e w' hx => runs_form hx).mono ?_
  rintro e w4 ⟨hb, a1, c1, rfl, hL4⟩
  have bS4 := bS3.belowAll hb
  have B4 := B3.trans (hb.mono B3.size)
  have hR4 := hR3.below hb
  have hX4 := hX3.below hb
  clear hb bS3 B3 hR3 hX3 cS
  have cS := bS4.cells
  have lS := bS4.lt
  go_wp2_with fail
  refine ((runsR_any s j i A c us (by omega) _ hR4).mono fun e w' hx => runs_form hx).mono ?_
  rintro e w5 ⟨hb, a2, c2, rfl, hK5⟩
  have bS5 := bS4.belowAll hb
  have B5 := B4.trans (hb.mono B4.size)
  have hR5 := hR4.below hb
  have hX5 := hX4.below hb
  have hL5 := hL4.below hb
  clear hb bS4 B4 hR4 hX4 hL4 cS
  have cS := bS5.cells
  have lS := bS5.lt
  rw [hl2]
  clear hlm hl2
  go_wp2_with fail
  go_loopw [13] (fun q wr => ∃ k : Nat, k ≤ m ∧ q = .int .i64 k ∧ Below w5.heap.size w5 wr) (fun q _ => m - (intOf q).toNat)
  case atStart => exact ⟨0, Nat.zero_le _, rfl, Below.refl _ _⟩
  case round =>
    obtain ⟨k, hk, rfl, hnx⟩ := hrel
    have bS6 := bS5.belowAll hnx
    have B6 := B5.trans (hnx.mono B5.size)
    have hR6 := hR5.below hnx
    have hX6 := hX5.below hnx
    have cS := bS6.cells
    have lS := bS6.lt
    by_cases hlt : k < m
    · have k1 : k * 2 < (rsL s j i us).length := by rw [HLM.out]; omega
      have k2 : k * 2 + 1 < (rsL s j i us).length := by rw [HLM.out]; omega
      obtain ⟨b, off, rfl, hb, hc⟩ := (hL5.below hnx).at_ (k := k * 2) (by simpa using k1)
      obtain ⟨b', off', hA', _, hc'⟩ := (hL5.below hnx).at_ (k := k * 2 + 1) (by simpa using k2)
      simp only [Option.some.injEq, Addr.mk.injEq, and_true] at hA'
      obtain ⟨rfl, rfl⟩ := hA'
      obtain ⟨b2, off2, rfl, hb2, hd⟩ := (hK5.below hnx).at_ (k := k * 2) (by simpa using k1)
      obtain ⟨b', off', hA', _, hd'⟩ := (hK5.below hnx).at_ (k := k * 2 + 1) (by simpa using k2)
      simp only [Option.some.injEq, Addr.mk.injEq, and_true] at hA'
      obtain ⟨rfl, rfl⟩ := hA'
      rw [List.getElem_map] at hc hc' hd hd'
      rw [← Nat.add_assoc] at hc' hd'
      generalize (rsL s j i us)[k * 2] = x at hc hd
      generalize (rsL s j i us)[k * 2 + 1] = y at hc' hd'
      clear k1 k2
      go_wp2_with fail
      go_quiet (fail)
      go_wp2
      go_roundw
      case rel => exact ⟨k + 1, by omega, by go_num, by (repeat' (first | (with_reducible exact Below.refl _ _) | (with_reducible assumption) | (with_reducible refine Below.alloc ?_ ?_ _) | (with_reducible refine Below.drew ?_) | (with_reducible refine below_drewN' ?_ _) | (with_reducible refine Below.setCell ?_ ?_ _) | (with_reducible exact Nat.le_refl _) | omega | (simp; done) | (simp; omega)))⟩
      case measure => simp [intOf]; omega
    · obtain rfl : k = m := by omega
      have hbb : Bytes xs := hbx
      clear hL5 hK5 hR5 hX5 bS5
      go_wp2_with fail
      refine ((encode_any s j i A c us (by omega) _ hR6).mono fun e w' hx => enc_form hx).mono ?_
      rintro e w7 ⟨hb, a3, c3, rfl, hL7⟩
      have bS7 := bS6.belowAll hb
      have B7 := B6.trans (hb.mono B6.size)
      have hR7 := hR6.below hb
      have hX7 := hX6.below hb
      clear hb bS6 B6 hR6 hX6 cS hnx
      have cS := bS7.cells
      have lS := bS7.lt
      go_wp2_with fail
      refine ((encodeR_any s j i A c us (by omega) _ hR7).mono fun e w' hx => enc_form hx).mono ?_
      rintro e w8 ⟨hb, a4, c4, rfl, hK8⟩
      have bS8 := bS7.belowAll hb
      have B8 := B7.trans (hb.mono B7.size)
      have hX8 := hX7.below hb
      have hL8 := hL7.below hb
      clear hb bS7 B7 hR7 hX7 hL7 cS
      have cS := bS8.cells
      have lS := bS8.lt
      go_wp2_with fail
      refine ((decode_any s j i B d xs hml2 _ hX8).mono fun e w' hx => dec_form hx).mono ?_
      rintro e w9 ⟨hb, x, y, z, vs, E, hD, a5, c5, rfl, hV9⟩
      have hvl := hD.len
      have HD := Lib.hid hD
      have bS9 := bS8.belowAll hb
      have B9 := B8.trans (hb.mono B8.size)
      have hX9 := hX8.below hb
      have hL9 := hL8.below hb
      have hK9 := hK8.below hb
      clear hb bS8 B8 hX8 hL8 hK8 cS hD
      have cS := bS9.cells
      have lS := bS9.lt
      go_wp2_with fail
      refine ((decodeR_any s j i B d xs (by omega) hbb _ (hX9.alloc _)).mono fun e w' hx => dec_form hx).mono ?_
      rintro e w10 ⟨hb, x', y', z', vs', E', hD', a6, c6, rfl, hV10⟩
      cases HD.out.one hD'
      have bS10 := (bS9.alloc _).belowAll hb
      have bT10 : Blk w10 w9.heap.size 26 #[.int .i64 x, .int .i64 y, .int .i64 z, .slice a5 vs.length c5] := (Blk.new _ _ _).belowAll hb
      have B10 := B9.trans ((below1 hb).mono B9.size)
      have hL10 := hL9.below (below1 hb)
      have hK10 := hK9.below (below1 hb)
      have hV9' := hV9.below (below1 hb)
      clear hb bS9 B9 hX9 hL9 hK9 hV9 cS hD'
      obtain ⟨W11, hW11⟩ : ∃ W11, W11 = w10.alloc (.cells #[.int .i64 x, .int .i64 y, .int .i64 z, .slice a6 vs.length c6] 26) := ⟨_, rfl⟩
      have bT11 : Blk W11 w9.heap.size 26 #[.int .i64 x, .int .i64 y, .int .i64 z, .slice a5 vs.length c5] := by rw [hW11]; exact bT10.alloc _
      have bU11 : Blk W11 w10.heap.size 26 #[.int .i64 x, .int .i64 y, .int .i64 z, .slice a6 vs.length c6] := by rw [hW11]; exact Blk.new _ _ _
      have B11 : Below w.heap.size w W11 := by rw [hW11]; exact B10.alloc B10.size _
      have hL11 : Reads W11 a3 ((enL s j i us).map (.int .u8)) := by rw [hW11]; exact hL10.alloc _
      have hK11 : Reads W11 a4 ((enL s j i us).map (.int .u8)) := by rw [hW11]; exact hK10.alloc _
      have hV11 : Reads W11 a5 (vs.map .bool) := by rw [hW11]; exact hV9'.alloc _
      have hU11 : Reads W11 a6 (vs.map .bool) := by rw [hW11]; exact hV10.alloc _
      have hc1 := conv_bytes a3 (enL s j i us).length c3 (enL s j i us) rfl W11 hL11
      have hc2 := conv_bytes a4 (enL s j i us).length c4 (enL s j i us) rfl W11 hK11
      have cS := bS10.cells
      have lS := bS10.lt
      go_wp2_with (rw [← hW11]; clear hW11; have cT := bT11.cells; have cU := bU11.cells; clear cS)
      refine (same_self x y z a5 a6 c5 c6 vs _ hV11 hU11 hvl).mono ?_
      rintro e w12 ⟨rfl, hb⟩
      have B12 := B11.trans (hb.mono B11.size)
      clear hb
      go_wp2_with fail
      refine (awake_any _).mono ?_
      rintro e w13 ⟨rfl, hb⟩
      have B13 := B12.trans (hb.mono B12.size)
      clear hb
      go_wp2_with fail
      go_ret
      exact ⟨rfl, B13⟩

end Go.Proofs.Ytenfheheepkfbaa
