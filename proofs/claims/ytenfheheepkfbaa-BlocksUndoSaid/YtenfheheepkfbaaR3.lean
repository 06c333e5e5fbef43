/- Alloc, whatever the arguments; Count. -/
import Derived.Test.YtenfheheepkfbaaR2
namespace Go.Proofs.Ytenfheheepkfbaa
open Go.RowKit Go.Shelf

attribute [local go_sem] Oper.semAt_some

def AlE (s j i : Int) (us : List Bool) (near many : Int) : Int :=
  if CkE s j i us.length = 0 then (if near < 0 ∨ (us.length : Int) - 1 < near ∨ many < 0 then 7 else if (frees us near.toNat).length < many.toNat then 11 else 0) else CkE s j i us.length

def AlPost (s j i : Int) (A : Option Addr) (c : Nat) (us : List Bool) (near many : Int) (w : World) (e : Ending) (w' : World) : Prop :=
  Below w.heap.size w w' ∧ ((AlE s j i us near many ≠ 0 ∧ e = .returned (.tuple #[.agg #[.int .i64 s, .int .i64 j, .int .i64 i, .slice A us.length c], .slice none 0 0, .int .i64 (AlE s j i us near many)])) ∨
    (AlE s j i us near many = 0 ∧ ∃ g cap av cv, e = .returned (.tuple #[.agg #[.int .i64 s, .int .i64 j, .int .i64 i, .slice (some ⟨g, 0, none⟩) us.length cap], .slice av (allocd us near.toNat many.toNat).length cv, .int .i64 0]) ∧
      w'.ownsRow w.heap.size 4 1 (.slice (some ⟨g, 0, none⟩) us.length cap) us.length ((setAll us (allocd us near.toNat many.toNat) true).map .bool) ∧
      w'.ownsRow w.heap.size 3 1 (.slice av (allocd us near.toNat many.toNat).length cv) (allocd us near.toNat many.toNat).length ((allocd us near.toNat many.toNat).map (.int .i64))))

set_option maxRecDepth 100000 in
set_option maxHeartbeats 1000000 in
theorem alloc_bad (s j i : Int) (A : Option Addr) (n c : Nat) (near many : Int) (w : World) (hn : n ≤ maxLen) (E : Int)
    (h : (CkE s j i n ≠ 0 ∧ E = CkE s j i n) ∨ (CkE s j i n = 0 ∧ (near < 0 ∨ (n : Int) - 1 < near ∨ many < 0) ∧ E = 7)) :
    Calls Try.prog 13 #[.agg #[.int .i64 s, .int .i64 j, .int .i64 i, .slice A n c], .int .i64 near, .int .i64 many] w fun e w' =>
      e = .returned (.tuple #[.agg #[.int .i64 s, .int .i64 j, .int .i64 i, .slice A n c], .slice none 0 0, .int .i64 E]) ∧ Below w.heap.size w w' := by
  have key : ∀ w1 : World, Below w.heap.size w w1 → Blk w1 w.heap.size 26 #[.int .i64 s, .int .i64 j, .int .i64 i, .slice A n c] → Blk w1 (w.heap.size + 1) 3 #[.int .i64 many] → Blk w1 (w.heap.size + 2) 26 #[.int .i64 0, .int .i64 0, .int .i64 0, .slice none 0 0] → Blk w1 (w.heap.size + 3) 29 #[.slice none 0 0] → True := fun _ _ _ _ _ _ => trivial
  clear key
  have hn' := hn
  unfold maxLen at hn'
  rcases h with ⟨hE, rfl⟩ | ⟨hE, hr, rfl⟩
  · have hE' : (CkE s j i n != 0) = true := by simpa using hE
    have HE := Lib.hid hE
    clear hE
    go_enter Try.func13, Try.ntmps13
    go_wp2_with fail
    refine (check_any s j i A n c _ hn).mono ?_
    rintro e w1 ⟨rfl, hb1⟩
    have bS : Blk w1 w.heap.size 26 #[.int .i64 s, .int .i64 j, .int .i64 i, .slice A n c] := Blk.belowAll (by (repeat' (first | (with_reducible assumption) | exact Blk.new' (by simp) | refine Blk.alloc ?_ _))) hb1
    have bR : Blk w1 (w.heap.size + 2) 26 #[.int .i64 0, .int .i64 0, .int .i64 0, .slice none 0 0] := Blk.belowAll (by (repeat' (first | (with_reducible assumption) | exact Blk.new' (by simp) | refine Blk.alloc ?_ _))) hb1
    have bL : Blk w1 (w.heap.size + 3) 29 #[.slice none 0 0] := Blk.belowAll (by (repeat' (first | (with_reducible assumption) | exact Blk.new' (by simp) | refine Blk.alloc ?_ _))) hb1
    replace hb1 : Below w.heap.size w w1 := below3 (below1 hb1)
    have cS := bS.cells
    have cR := bR.cells
    have fR := bR.free
    have cL := bL.cells
    have fL := bL.free
    go_wp2_with fail
    refine bodyPost_ret (v := .tuple #[.agg #[.int .i64 s, .int .i64 j, .int .i64 i, .slice A n c], .slice none 0 0, .int .i64 (CkE s j i n)]) (by simp [results, Try.results13, go_sem, cR, cL]) rfl ?_
    exact ⟨rfl, by (repeat' (first | (with_reducible exact Below.refl _ _) | (with_reducible assumption) | (with_reducible refine Below.alloc ?_ ?_ _) | (with_reducible refine Below.drew ?_) | (with_reducible refine below_drewN' ?_ _) | (with_reducible refine Below.setCell ?_ ?_ _) | (with_reducible exact Nat.le_refl _) | omega | (simp; done) | (simp; omega)))⟩
  · have hE' : (CkE s j i n != 0) = false := by simpa using hE
    have HE := Lib.hid hE
    clear hE
    by_cases hnr : near < 0 ∨ (n : Int) - 1 < near
    all_goals
      first | have hO := outB_yes hnr | have hO := outB_no hnr
      have hm0 : ¬ (near < 0 ∨ (n : Int) - 1 < near) → decide (many < 0) = true := fun h' => by simp; omega
      first | (have hm1 := hm0 hnr; clear hm0) | clear hm0
      go_enter Try.func13, Try.ntmps13
      go_wp2_with fail
      refine (check_any s j i A n c _ hn).mono ?_
      rintro e w1 ⟨rfl, hb1⟩
      have bS : Blk w1 w.heap.size 26 #[.int .i64 s, .int .i64 j, .int .i64 i, .slice A n c] := Blk.belowAll (by (repeat' (first | (with_reducible assumption) | exact Blk.new' (by simp) | refine Blk.alloc ?_ _))) hb1
      have bM : Blk w1 (w.heap.size + 1) 3 #[.int .i64 many] := Blk.belowAll (by (repeat' (first | (with_reducible assumption) | exact Blk.new' (by simp) | refine Blk.alloc ?_ _))) hb1
      have bR : Blk w1 (w.heap.size + 2) 26 #[.int .i64 0, .int .i64 0, .int .i64 0, .slice none 0 0] := Blk.belowAll (by (repeat' (first | (with_reducible assumption) | exact Blk.new' (by simp) | refine Blk.alloc ?_ _))) hb1
      have bL : Blk w1 (w.heap.size + 3) 29 #[.slice none 0 0] := Blk.belowAll (by (repeat' (first | (with_reducible assumption) | exact Blk.new' (by simp) | refine Blk.alloc ?_ _))) hb1
      replace hb1 : Below w.heap.size w w1 := below3 (below1 hb1)
      have cS := bS.cells
      have cM := bM.cells
      have cR := bR.cells
      have fR := bR.free
      have cL := bL.cells
      have fL := bL.free
      go_wp2_with (go_at_call 38; refine (outside_out _ _ _ _).mono ?_; rintro e w' ⟨rfl, rfl⟩)
      refine bodyPost_ret (v := .tuple #[.agg #[.int .i64 s, .int .i64 j, .int .i64 i, .slice A n c], .slice none 0 0, .int .i64 7]) (by simp [results, Try.results13, go_sem, cR, cL]) rfl ?_
      exact ⟨rfl, by (repeat' (first | (with_reducible exact Below.refl _ _) | (with_reducible assumption) | (with_reducible refine Below.alloc ?_ ?_ _) | (with_reducible refine Below.drew ?_) | (with_reducible refine below_drewN' ?_ _) | (with_reducible refine Below.setCell ?_ ?_ _) | (with_reducible exact Nat.le_refl _) | omega | (simp; done) | (simp; omega)))⟩

theorem alloc_any (s j i : Int) (A : Option Addr) (c : Nat) (us : List Bool) (near many : Int) (w : World) (hn : us.length ≤ 1000) (hR : Reads w A (us.map .bool)) :
    Calls Try.prog 13 #[.agg #[.int .i64 s, .int .i64 j, .int .i64 i, .slice A us.length c], .int .i64 near, .int .i64 many] w (AlPost s j i A c us near many w) := by
  by_cases hE : CkE s j i us.length = 0
  · by_cases hr : near < 0 ∨ (us.length : Int) - 1 < near ∨ many < 0
    · have h7 : AlE s j i us near many = 7 := by simp only [AlE, if_pos hE, if_pos hr]
      exact (alloc_bad s j i A us.length c near many w (by unfold maxLen; omega) 7 (.inr ⟨hE, hr, rfl⟩)).mono fun e w' ⟨he, hb⟩ => ⟨hb, .inl ⟨by omega, by rw [he, h7]⟩⟩
    · obtain ⟨nr, rfl⟩ := Int.eq_ofNat_of_zero_le (show 0 ≤ near by omega)
      obtain ⟨mn, rfl⟩ := Int.eq_ofNat_of_zero_le (show 0 ≤ many by omega)
      refine (alloc_loop s j i A c nr mn us (by omega) hn w hR hE).mono fun e w' ⟨hb, h⟩ => ⟨hb, ?_⟩
      rcases h with ⟨hf, he⟩ | ⟨hf, g, cap, av, cv, he, h1, h2⟩
      · have h11 : AlE s j i us nr mn = 11 := by
          simp only [AlE, if_pos hE, if_neg hr]
          rw [if_pos (by simpa using hf)]
        exact .inl ⟨by omega, by rw [he, h11]⟩
      · have h00 : AlE s j i us nr mn = 0 := by
          simp only [AlE, if_pos hE, if_neg hr]
          rw [if_neg (by simpa using hf)]
        exact .inr ⟨h00, g, cap, av, cv, by simpa using he, by simpa using h1, by simpa using h2⟩
  · have hx : AlE s j i us near many = CkE s j i us.length := by simp only [AlE, if_neg hE]
    exact (alloc_bad s j i A us.length c near many w (by unfold maxLen; omega) _ (.inl ⟨hE, rfl⟩)).mono fun e w' ⟨he, hb⟩ => ⟨hb, .inl ⟨by omega, by rw [he, hx]⟩⟩

end Go.Proofs.Ytenfheheepkfbaa
