/- BlocksAllocs, walked. -/
import Derived.Test.YtenfheheepkfbaaR7
import Derived.Test.YtenfheheepkfbaaK2
import Derived.Test.YtenfheheepkfbaaW1
namespace Go.Proofs.Ytenfheheepkfbaa
open Go.RowKit

def alU (s j i : Int) (us : List Bool) (near many : Int) : List Bool := if AlE s j i us near many = 0 then setAll us (allocd us near.toNat many.toNat) true else us
def alL (s j i : Int) (us : List Bool) (near many : Int) : List Int := if AlE s j i us near many = 0 then allocd us near.toNat many.toNat else []
theorem alU_len (s j i : Int) (us : List Bool) (near many : Int) : (alU s j i us near many).length = us.length := by
  unfold alU; split
  · exact setAll_length _ _ _
  · rfl
theorem alL_len (s j i : Int) (us : List Bool) (near many : Int) : (alL s j i us near many).length ≤ us.length := by
  unfold alL; split
  · unfold allocd frees
    have := goRound_le us near.toNat us.length
    simp only [List.length_take]; omega
  · simp
def AlForm (s j i : Int) (us : List Bool) (near many : Int) (w : World) (e : Ending) (w' : World) : Prop :=
  Below w.heap.size w w' ∧ ∃ A2 c2 av cv, e = .returned (.tuple #[.agg #[.int .i64 s, .int .i64 j, .int .i64 i, .slice A2 (alU s j i us near many).length c2], .slice av (alL s j i us near many).length cv, .int .i64 (AlE s j i us near many)]) ∧
    Reads w' A2 ((alU s j i us near many).map .bool) ∧ Reads w' av ((alL s j i us near many).map (.int .i64))
theorem alForm_of {s j i : Int} {A : Option Addr} {c : Nat} {us : List Bool} {near many : Int} {w : World} {e : Ending} {w' : World} (hR : Reads w A (us.map .bool)) (h : AlPost s j i A c us near many w e w') : AlForm s j i us near many w e w' := by
  obtain ⟨hb, A2, c2, av, cv, he, h1, h2⟩ := AlPost.form hR h
  exact ⟨hb, A2, c2, av, cv, by rw [alU_len]; exact he, h1, h2⟩
theorem ints_self (A B : Option Addr) (c d : Nat) (xs : List Int) (w : World) (hx : Reads w A (xs.map (.int .i64))) (hy : Reads w B (xs.map (.int .i64))) (hn : xs.length ≤ 1000) :
    Calls Try.prog 18 #[.slice A xs.length c, .slice B xs.length d] w fun e w' => e = .returned (.bool true) ∧ Below w.heap.size w w' :=
  (ints_any A B c d xs xs w hx hy (by omega) (by unfold maxLen; omega)).mono fun e w' ⟨he, hb⟩ => ⟨by rw [he]; simp, hb⟩

set_option maxRecDepth 100000 in
set_option maxHeartbeats 2000000 in
theorem allocsLaw_far (s j i : Int) (A : Option Addr) (n c : Nat) (near many : Int) (w : World) (hm : n ≤ maxLen) (h : 300 < n) :
    Calls Try.prog 3 #[.agg #[.int .i64 s, .int .i64 j, .int .i64 i, .slice A n c], .int .i64 near, .int .i64 many] w fun e w' => e = .returned (.bool true) ∧ Below w.heap.size w w' := by
  have hd : decide (300 < n) = true := by simpa using h
  go_enter Try.func3, Try.ntmps3
  go_wp2_with fail
  refine (far_any s j i A n c _ hm).mono ?_
  rintro e w1 ⟨rfl, hb1⟩
  have B1 := below1 hb1
  clear hb1
  go_wp2_with fail
  refine (awake_any _).mono ?_
  rintro e w2 ⟨rfl, hb2⟩
  have B2 := B1.trans (hb2.mono B1.size)
  clear hb2
  go_wp2_with fail
  go_ret
  exact ⟨rfl, B2⟩

set_option maxRecDepth 100000 in
set_option maxHeartbeats 4000000 in
theorem allocsLaw_near (s j i : Int) (A : Option Addr) (c : Nat) (us : List Bool) (near many : Int) (w : World) (h : us.length ≤ 300) (hA : A = none → us.length = 0) (hR : Reads w A (us.map .bool)) :
    Calls Try.prog 3 #[.agg #[.int .i64 s, .int .i64 j, .int .i64 i, .slice A us.length c], .int .i64 near, .int .i64 many] w fun e w' => e = .returned (.bool true) ∧ Below w.heap.size w w' := by
  have hd : decide (300 < us.length) = false := by simp; omega
  have hml : us.length ≤ maxLen := by unfold maxLen; omega
  obtain ⟨i0, hi, hz0, hz1, hz2⟩ := info_parts Try.info4
  have hone := Lib.hid (oneCell_bools us)
  have HA := Lib.hid hA
  clear hA
  go_enter Try.func3, Try.ntmps3
  go_wp2_with fail
  refine (far_any s j i A us.length c _ hml).mono ?_
  rintro e w1 ⟨rfl, hb1⟩
  have bS : Blk w1 w.heap.size 26 #[.int .i64 s, .int .i64 j, .int .i64 i, .slice A us.length c] := Blk.belowAll (by (repeat' (first | (with_reducible assumption) | exact Blk.new' (by simp) | refine Blk.alloc ?_ _))) hb1
  have B1 := below1 hb1
  have hR1 := hR.below B1
  have cS := bS.cells
  have lS := bS.lt
  clear hb1
  go_wp2_with (at_builtin; refine wpList_append_any _ rfl (.tmp 17) (.tmp 19) _ rfl w1.heap.size 4 i0 (.bool false) 1 Try.underlying24 hi hz0 hz1 hz2 rfl (.slice (some ⟨w1.heap.size, 0, none⟩) 0 0) 0 [] rfl (World.ownsRow_made w1 #[] 0 (Nat.le_refl _) (by simp) rfl) A us.length c (us.map .bool) rfl (by simp) HA.out (hR1.alloc _) hone.out (by simp only [maxLen]; omega) (by omega) (by simp) ?_; intro v1 w2 hown1 hg1 hat1; obtain ⟨ao, co, rfl⟩ := own_slice hown1; have bS2 : Blk w2 _ _ _ := (Blk.alloc bS _).grown hg1 (by simp [Value.ownBlock]; omega); have cS := bS2.cells; have lS := bS2.lt)
  have B2 : Below w.heap.size w w2 := (B1.alloc B1.size _).grown hg1 (by simp; have := B1.size; omega) (by intro k hk; simp [Value.ownBlock] at hk; have := B1.size; omega)
  have hRo : Reads w2 ao (us.map .bool) := by simpa using Reads.of_own hown1
  have hR2 := hR.below B2
  have HU := Lib.hid (alU_len s j i us near many)
  have HL := Lib.hid (alL_len s j i us near many)
  clear hown1 hg1 hat1 bS cS B1 hR1 hone hi hz0 hz1 hz2
  have cS := bS2.cells
  refine ((alloc_any s j i A c us near many _ (by omega) hR2).mono fun e w' hx => alForm_of hR2 hx).mono ?_
  rintro e w3 ⟨hb3, A8, c8, av, cv, rfl, hA8, hav⟩
  have bS3 := bS2.belowAll hb3
  have B3 := B2.trans (hb3.mono B2.size)
  have hR3 := hR2.below hb3
  have hRo3 := hRo.below hb3
  clear hb3 bS2 cS B2 hR2 hRo
  have cS := bS3.cells
  have lS3 := bS3.lt
  go_wp2_with fail
  refine ((allocR_any s j i A c us near many _ (by omega) (hR3.alloc _)).mono fun e w' hx => alForm_of (hR3.alloc _) hx).mono ?_
  rintro e w4 ⟨hb4, A9, c9, av2, cv2, rfl, hA9, hav2⟩
  have bS4 := Blk.belowAll (Blk.alloc bS3 _) hb4
  have bA4 : Blk w4 w3.heap.size 26 #[.int .i64 s, .int .i64 j, .int .i64 i, .slice A8 (alU s j i us near many).length c8] := Blk.belowAll (by (repeat' (first | (with_reducible assumption) | exact Blk.new' (by simp) | refine Blk.alloc ?_ _))) hb4
  have b34 := below1 hb4
  have B4 := B3.trans (b34.mono B3.size)
  have hR4 := hR3.below b34
  have hRo4 := hRo3.below b34
  have hA84 := hA8.below b34
  have hav4 := hav.below b34
  have z4 := sz1 hb4
  clear hb4 bS3 cS B3 hR3 hRo3 hA8 hav b34
  have lS4 := bS4.lt
  obtain ⟨W0, hW0⟩ : ∃ W0, W0 = w4.alloc (.cells #[.int .i64 s, .int .i64 j, .int .i64 i, .slice A9 (alU s j i us near many).length c9] 26) := ⟨_, rfl⟩
  have bS5 : Blk W0 w.heap.size 26 #[.int .i64 s, .int .i64 j, .int .i64 i, .slice A us.length c] := by rw [hW0]; exact bS4.alloc _
  have bA5 : Blk W0 w3.heap.size 26 #[.int .i64 s, .int .i64 j, .int .i64 i, .slice A8 (alU s j i us near many).length c8] := by rw [hW0]; exact bA4.alloc _
  have bB5 : Blk W0 w4.heap.size 26 #[.int .i64 s, .int .i64 j, .int .i64 i, .slice A9 (alU s j i us near many).length c9] := by rw [hW0]; exact Blk.new _ _ _
  have B5 : Below w.heap.size w W0.drew := by rw [hW0]; exact (B4.alloc B4.size _).drew
  have R1 : Reads W0.drew A (us.map .bool) := by rw [hW0]; exact (hR4.alloc _).below (Below.refl _ _).drew
  have R2 : Reads W0.drew ao (us.map .bool) := by rw [hW0]; exact (hRo4.alloc _).below (Below.refl _ _).drew
  have R3 : Reads W0.drew A8 ((alU s j i us near many).map .bool) := by rw [hW0]; exact (hA84.alloc _).below (Below.refl _ _).drew
  have R4 : Reads W0.drew A9 ((alU s j i us near many).map .bool) := by rw [hW0]; exact (hA9.alloc _).below (Below.refl _ _).drew
  have R5 : Reads W0.drew av ((alL s j i us near many).map (.int .i64)) := by rw [hW0]; exact (hav4.alloc _).below (Below.refl _ _).drew
  have R6 : Reads W0.drew av2 ((alL s j i us near many).map (.int .i64)) := by rw [hW0]; exact (hav2.alloc _).below (Below.refl _ _).drew
  have hul : (alU s j i us near many).length ≤ 1000 := by rw [HU.out]; omega
  have hll : (alL s j i us near many).length ≤ 1000 := by have := HL.out; omega
  have hu2 : us.length ≤ 1000 := by omega
  go_wp2_with fail
  rw [← hW0]
  clear hW0 bS4 bA4 B4 hR4 hRo4 hA84 hA9 hav4 hav2 z4 lS4
  have cS := bS5.cells
  have cA := bA5.cells
  have cB := bB5.cells
  have tok1 : True := trivial
  go_region_held3 (fun w' => w'.cell? ⟨w.heap.size, 0, none⟩ = some (.int .i64 s) ∧ w'.cell? ⟨w.heap.size, 1, none⟩ = some (.int .i64 j) ∧ w'.cell? ⟨w.heap.size, 2, none⟩ = some (.int .i64 i) ∧ w'.cell? ⟨w.heap.size, 3, none⟩ = some (.slice A us.length c) ∧
      w'.cell? ⟨w3.heap.size, 0, none⟩ = some (.int .i64 s) ∧ w'.cell? ⟨w3.heap.size, 1, none⟩ = some (.int .i64 j) ∧ w'.cell? ⟨w3.heap.size, 2, none⟩ = some (.int .i64 i) ∧ w'.cell? ⟨w3.heap.size, 3, none⟩ = some (.slice A8 (alU s j i us near many).length c8) ∧
      w'.cell? ⟨w4.heap.size, 0, none⟩ = some (.int .i64 s) ∧ w'.cell? ⟨w4.heap.size, 1, none⟩ = some (.int .i64 j) ∧ w'.cell? ⟨w4.heap.size, 2, none⟩ = some (.int .i64 i) ∧ w'.cell? ⟨w4.heap.size, 3, none⟩ = some (.slice A9 (alU s j i us near many).length c9))
    (first | (go_keep; done) | ((try dsimp only); refine ⟨?_, ?_, ?_, ?_, ?_, ?_, ?_, ?_, ?_, ?_, ?_, ?_⟩ <;> (first | (go_keep; done) | (simp [go_sem, *]; done))))
    (first
      | (go_at_call 15; refine (check_any s j i A us.length c W0.drew hml).mono ?_; rintro e x1 ⟨rfl, y1⟩; have cS := (bS5.drew.belowAll y1).cells; have cA := (bA5.drew.belowAll y1).cells; have cB := (bB5.drew.belowAll y1).cells)
      | (go_at_call 16; refine (checkR_any s j i A us.length c x1 hml).mono ?_; rintro e x2 ⟨rfl, y2⟩; have y12 := y1.trans (y2.mono y1.size); have cS := (bS5.drew.belowAll y12).cells; have cA := (bA5.drew.belowAll y12).cells; have cB := (bB5.drew.belowAll y12).cells)
      | (go_at_call 17; have _t := tok1; refine (same_self s j i A8 A9 c8 c9 (alU s j i us near many) x2 (R3.below y12) (R4.below y12) hul).mono ?_; rintro e x3 ⟨rfl, y3⟩; clear tok1 _t; have y13 := y12.trans (y3.mono y12.size); have cS := (bS5.drew.belowAll y13).cells; have cA := (bA5.drew.belowAll y13).cells; have cB := (bB5.drew.belowAll y13).cells)
      | (go_at_call 18; refine (ints_self av av2 cv cv2 (alL s j i us near many) x3 (R5.below y13) (R6.below y13) hll).mono ?_; rintro e x4 ⟨rfl, y4⟩; have y14 := y13.trans (y4.mono y13.size); have cS := (bS5.drew.belowAll y14).cells; have cA := (bA5.drew.belowAll y14).cells; have cB := (bB5.drew.belowAll y14).cells)
      | (go_at_call 17; refine (same_self s j i A ao c co us x4 (R1.below y14) (R2.below y14) hu2).mono ?_; rintro e x5 ⟨rfl, y5⟩; have y15 := y14.trans (y5.mono y14.size); have cS := (bS5.drew.belowAll y15).cells; have cA := (bA5.drew.belowAll y15).cells; have cB := (bB5.drew.belowAll y15).cells)
      | (go_at_call 12; refine (awake_any x5).mono ?_; rintro e x6 ⟨rfl, y6⟩; have y16 := y15.trans (y6.mono y15.size); have cS := (bS5.drew.belowAll y16).cells; have cA := (bA5.drew.belowAll y16).cells; have cB := (bB5.drew.belowAll y16).cells))
  have B6 := B5.trans (y16.mono B5.size)
  clear y1 y2 y12 y3 y13 y4 y14 y5 y15 y6 y16 cS cA cB bS5 bA5 bB5 R1 R2 R3 R4 R5 R6
  go_wp2_with fail
  go_ret
  exact ⟨rfl, B6⟩

end Go.Proofs.Ytenfheheepkfbaa
