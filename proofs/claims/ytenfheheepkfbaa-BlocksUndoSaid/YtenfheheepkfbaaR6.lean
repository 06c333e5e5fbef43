/- The reference's Alloc, walked. -/
import Derived.Test.YtenfheheepkfbaaR5
namespace Go.Proofs.Ytenfheheepkfbaa
open Go.RowKit

def AllocPostR (s j i : Int) (near many : Nat) (us : List Bool) (w : World) (e : Ending) (w' : World) : Prop :=
  Below w.heap.size w w' ∧ ∃ g cap av cv, e = .returned (.tuple #[.agg #[.int .i64 s, .int .i64 j, .int .i64 i, .slice (some ⟨g, 0, none⟩) us.length cap], .slice av (allocd us near many).length cv, .int .i64 0]) ∧
      w'.ownsRow w.heap.size 4 1 (.slice (some ⟨g, 0, none⟩) us.length cap) us.length ((setAll us (allocd us near many) true).map .bool) ∧
      w'.ownsRow w.heap.size 3 1 (.slice av (allocd us near many).length cv) (allocd us near many).length ((allocd us near many).map (.int .i64))

set_option maxRecDepth 100000 in
set_option maxHeartbeats 2000000 in
theorem allocR_ok (s j i : Int) (A : Option Addr) (c near many : Nat) (us : List Bool) (hnear : near < us.length) (hus : us.length ≤ 1000) (w : World)
    (hR : Reads w A (us.map .bool)) (hE : CkE s j i us.length = 0) (hfr : many ≤ nfree us) :
    Calls Try.prog 14 #[.agg #[.int .i64 s, .int .i64 j, .int .i64 i, .slice A us.length c], .int .i64 near, .int .i64 many] w (AllocPostR s j i near many us w) := by
  have hE' : (CkE s j i us.length != 0) = false := by simp [hE]
  have hE2 : (CkE s j i us.length == 0) = true := by simp [hE]
  have hO' : outB near 0 ((us.length : Int) - 1) = false := outB_no (by omega)
  have hm0 : decide ((many : Int) < 0) = false := by simp
  have hfl := frees_len hnear
  have hnf := nfree_le us
  have hf1 : decide (nfree us < many) = false := by simp; omega
  have HE := Lib.hid hE
  have HFL := Lib.hid hfl
  clear hE hfl
  obtain ⟨i0, hi, hz0, hz1, hz2⟩ := info_parts Try.info3
  go_enter Try.func14, Try.ntmps14
  go_wp2_with fail
  refine (checkR_any s j i A us.length c _ (by unfold maxLen; omega)).mono ?_
  rintro e w1 ⟨rfl, hb1⟩
  have bS : Blk w1 w.heap.size 26 #[.int .i64 s, .int .i64 j, .int .i64 i, .slice A us.length c] := Blk.belowAll (by (repeat' (first | (with_reducible assumption) | exact Blk.new' (by simp) | refine Blk.alloc ?_ _))) hb1
  have bR : Blk w1 (w.heap.size + 1) 26 #[.int .i64 0, .int .i64 0, .int .i64 0, .slice none 0 0] := Blk.belowAll (by (repeat' (first | (with_reducible assumption) | exact Blk.new' (by simp) | refine Blk.alloc ?_ _))) hb1
  have B1 : Below w.heap.size w w1 := below2 hb1
  clear hb1
  have cS := bS.cells
  go_wp2_with fail
  refine (within_out _ _ _ _).mono ?_
  rintro e w2 ⟨rfl, rfl⟩
  go_wp2_with fail
  refine (rfree_any s j i A c us _ (hR.below B1) hus).mono ?_
  rintro e w2 ⟨rfl, hb2⟩
  replace bS := bS.belowAll hb2
  replace bR := bR.belowAll hb2
  have B2 := B1.trans (hb2.mono B1.size)
  clear hb2 B1 cS
  have cS := bS.cells
  have lS := bS.lt
  have lR := bR.lt
  go_wp2_with fail
  go_loopw [10, 11] (fun v q wr => ∃ k : Nat, k ≤ us.length ∧ q = .int .i64 k ∧ wr.ownsRow w2.heap.size 3 1 v (goRound us near k).length ((goRound us near k).map (.int .i64)) ∧ (goRound us near k).length ≤ many ∧ Below w2.heap.size w2 wr) (fun _ q _ => us.length - (intOf q).toNat)
  case atStart => exact ⟨0, Nat.zero_le _, rfl, by rw [goRound_0]; exact World.ownsRow_nil _ _ _ _, by rw [goRound_0]; simp, Below.refl _ _⟩
  case round =>
    obtain ⟨k, hk, rfl, hown, hlm, hnx⟩ := hrel
    obtain ⟨av, cv, rfl⟩ := own_slice hown
    have bS3 := bS.belowAll hnx
    have cS := bS3.cells
    have lS3 := bS3.lt
    have B3 := B2.trans (hnx.mono B2.size)
    have hlk := goRound_le us near k
    have hsz := hnx.size
    by_cases hlt : k < us.length
    · by_cases hmm : (goRound us near k).length < many
      · have hm : (near + k) % us.length < us.length := Nat.mod_lt _ (by omega)
        have hbd : 0 ≤ ((near : Int) + (k : Int)) % (us.length : Int) ∧ ((near : Int) + (k : Int)) % (us.length : Int) < (us.length : Int) := ⟨Int.emod_nonneg _ (by omega), Int.emod_lt_of_pos _ (by omega)⟩
        obtain ⟨b, off, rfl, hb, hc⟩ := (hR.below B3).at_ (k := (near + k) % us.length) (by simpa using hm)
        rw [List.getElem_map] at hc
        cases hu : us[(near + k) % us.length] <;> rw [hu] at hc
        · have hr := Lib.hid (goRound_hit (us := us) (near := near) (k := k) (by rw [List.getElem?_eq_getElem hm, hu]))
          clear hu
          go_wp2_with (at_builtin; refine wpList_append_own _ rfl _ _ 29 rfl w2.heap.size 3 i0 (.int .i64 0) 1 8 Try.underlying29 hi hz0 hz1 hz2 rfl (by decide) _ _ _ rfl (hown.alloc _) ⟨wr.heap.size, 0, none⟩ 1 1 [.int .i64 (((near : Int) + (k : Int)) % (us.length : Int))] rfl rfl (cell_one_new _ _ _) (by simp [Value.oneCell']) (by simp only [maxLen]; omega) (by omega) (by simp; omega) ?_; intro v' w4 hown' hgrow _; obtain ⟨g', cap', rfl, _, _⟩ := own_form hown' (by omega))
          have hnx4 : Below w2.heap.size w2 w4 := (hnx.alloc hsz _).grown hgrow (by simp; omega) (fun q hq => (hown.lt q hq).1)
          go_wp2
          go_roundw
          case rel => exact ⟨k + 1, by omega, by go_num, by rw [hr.out]; simpa using hown', by rw [hr.out]; simp; omega, hnx4⟩
          case measure => simp [intOf]; omega
        · have hr := Lib.hid (goRound_miss (us := us) (near := near) (k := k) (by rw [List.getElem?_eq_getElem hm, hu]))
          clear hu
          go_wp2_with fail
          go_roundw
          case rel => exact ⟨k + 1, by omega, by go_num, by rw [hr.out]; exact hown, by rw [hr.out]; exact hlm, hnx⟩
          case measure => simp [intOf]; omega
      · have hal : allocd us near many = goRound us near k := by
          obtain ⟨r, hr⟩ := goRound_pre us near k us.length hk
          have : (goRound us near k).length = many := by omega
          unfold allocd frees
          rw [← hr, ← this]; simp
        have hd : decide ((goRound us near k).length < many) = false := by simp; omega
        have HAL := Lib.hid hal
        have HIN : Hid (∀ b ∈ goRound us near k, 0 ≤ b ∧ b < (us.length : Int)) := Lib.hid (by rw [← hal]; exact allocd_in (by omega))
        clear hal
        have hL : (goRound us near k).length ≤ 1000 := by omega
        have HRW := Lib.hid (hR.below B3)
        have HRI := Lib.hid (Reads.of_own hown)
        go_wp2_with fail
        refine (with_any s j i A av c cv us (goRound us near k) true _ HRW.out (by omega) hus HRI.out hL HIN.out).mono ?_
        rintro e w5 ⟨g, cap, rfl, hown5, hb5⟩
        have bR5 := (bR.belowAll hnx).belowAll hb5
        have cR := bR5.cells
        have fR := bR5.free
        have lR5 := bR5.lt
        have hown6 := own_below hown hb5
        have B5 := B3.trans (hb5.mono B3.size)
        have zz := B2.size
        go_wp2_with fail
        refine bodyPost_ret (v := .tuple #[.agg #[.int .i64 s, .int .i64 j, .int .i64 i, .slice (some ⟨g, 0, none⟩) us.length cap], .slice av (goRound us near k).length cv, .int .i64 0]) (by simp [results, Try.results14, go_sem, cR]) rfl ?_
        refine ⟨by (repeat' (first | (with_reducible exact Below.refl _ _) | (with_reducible assumption) | (with_reducible refine Below.alloc ?_ ?_ _) | (with_reducible refine Below.drew ?_) | (with_reducible refine below_drewN' ?_ _) | (with_reducible refine Below.setCell ?_ ?_ _) | (with_reducible exact Nat.le_refl _) | omega | (simp; done) | (simp; omega))), g, cap, av, cv, by rw [HAL.out], ?_, ?_⟩
        · rw [HAL.out]; exact own_base (ownsRow_setCell_below (ownsRow_setCell_below (ownsRow_setCell_below (ownsRow_setCell_below hown5 (by simp; omega) _) (by simp; omega) _) (by simp; omega) _) (by simp; omega) _) (by omega)
        · rw [HAL.out]; exact own_base (ownsRow_setCell_below (ownsRow_setCell_below (ownsRow_setCell_below (ownsRow_setCell_below hown6 (by simp; omega) _) (by simp; omega) _) (by simp; omega) _) (by simp; omega) _) (by omega)
    · obtain rfl : k = us.length := by omega
      have hal : allocd us near many = goRound us near us.length := allocd_all hlm
      by_cases hone : True
      · skip
        have HAL := Lib.hid hal
        have HIN : Hid (∀ b ∈ goRound us near us.length, 0 ≤ b ∧ b < (us.length : Int)) := Lib.hid (by rw [← hal]; exact allocd_in (by omega))
        clear hal
        have hL : (goRound us near us.length).length ≤ 1000 := by omega
        have HRW := Lib.hid (hR.below B3)
        have HRI := Lib.hid (Reads.of_own hown)
        go_wp2_with fail
        refine (with_any s j i A av c cv us (goRound us near us.length) true _ HRW.out (by omega) hus HRI.out hL HIN.out).mono ?_
        rintro e w5 ⟨g, cap, rfl, hown5, hb5⟩
        have bR5 := (bR.belowAll hnx).belowAll hb5
        have cR := bR5.cells
        have fR := bR5.free
        have lR5 := bR5.lt
        have hown6 := own_below hown hb5
        have B5 := B3.trans (hb5.mono B3.size)
        have zz := B2.size
        go_wp2_with fail
        refine bodyPost_ret (v := .tuple #[.agg #[.int .i64 s, .int .i64 j, .int .i64 i, .slice (some ⟨g, 0, none⟩) us.length cap], .slice av (goRound us near us.length).length cv, .int .i64 0]) (by simp [results, Try.results14, go_sem, cR]) rfl ?_
        refine ⟨by (repeat' (first | (with_reducible exact Below.refl _ _) | (with_reducible assumption) | (with_reducible refine Below.alloc ?_ ?_ _) | (with_reducible refine Below.drew ?_) | (with_reducible refine below_drewN' ?_ _) | (with_reducible refine Below.setCell ?_ ?_ _) | (with_reducible exact Nat.le_refl _) | omega | (simp; done) | (simp; omega))), g, cap, av, cv, by rw [HAL.out], ?_, ?_⟩
        · rw [HAL.out]; exact own_base (ownsRow_setCell_below (ownsRow_setCell_below (ownsRow_setCell_below (ownsRow_setCell_below hown5 (by simp; omega) _) (by simp; omega) _) (by simp; omega) _) (by simp; omega) _) (by omega)
        · rw [HAL.out]; exact own_base (ownsRow_setCell_below (ownsRow_setCell_below (ownsRow_setCell_below (ownsRow_setCell_below hown6 (by simp; omega) _) (by simp; omega) _) (by simp; omega) _) (by simp; omega) _) (by omega)
      · exact absurd trivial hone

end Go.Proofs.Ytenfheheepkfbaa
