/- New, Check. -/
import Derived.Test.YtenfheheepkfbaaA2
namespace Go.Proofs.Ytenfheheepkfbaa
open Go.RowKit

theorem Try.info4 : (Try.prog.info? 4).map (fun i => (i.zero, i.size, i.bytes)) = some (some (.bool false), 1, 1) := by kernel_rfl

def NewPost (s j i : Int) (w : World) (e : Ending) (w' : World) : Prop :=
  Below w.heap.size w w' ∧ ((rgE s j i ≠ 0 ∧ e = .returned (.tuple #[.agg #[.int .i64 0, .int .i64 0, .int .i64 0, .slice none 0 0], .int .i64 (rgE s j i)])) ∨
  (rgE s j i = 0 ∧ ∃ b, e = .returned (.tuple #[.agg #[.int .i64 s, .int .i64 j, .int .i64 i, .slice (some ⟨b, 0, none⟩) (rgB s j i).toNat (rgB s j i).toNat], .int .i64 0]) ∧ w.heap.size ≤ b ∧
    w'.heap[b]? = some (.cells (fill (.bool false) (rgB s j i).toNat) 4 (0, 0))))


set_option maxHeartbeats 400000 in
theorem new_any (s j i : Int) (w : World) :
    Calls Try.prog 24 #[.agg #[.int .i64 s, .int .i64 j, .int .i64 i]] w (NewPost s j i w) := by
  obtain ⟨i0, hi, hz0, hz1, hz2⟩ := info_parts Try.info4
  have hB := rgB_bds s j i
  have hmk : ∀ w : World, (Instr.makeSlice 24 (.int .i64 (rgB s j i)) (.int .i64 (rgB s j i))).run Try.prog w = .ok (.slice (some ⟨w.heap.size, 0, none⟩) (rgB s j i).toNat (rgB s j i).toNat) (w.alloc (.cells (fill (.bool false) (rgB s j i).toNat) 4)) := by
    intro w
    have := run_make (P := Try.prog) w 24 4 i0 (.bool false) Try.underlying24 hi hz0 .i64 .i64 (rgB s j i) (rgB s j i) hB.1 (Int.le_refl _) (by rw [hz2]; omega) (by omega)
    rw [this, hz1]; simp [fill, Value.cells]
  by_cases hE : rgE s j i = 0
  · have hE' : (rgE s j i == 0) = true := by simpa using hE
    have hE'' : (rgE s j i != 0) = false := by simpa using hE
    have HE := Lib.hid hE
    clear hE hi hz0 hz1 hz2
    go_enter Try.func24, Try.ntmps24
    go_wp2_with (
      go_at_call 20; refine (regions_any _ _ _ _).mono ?_; rintro e w1 ⟨rfl, hb1⟩; have c0 := box_cell hb1 (hp20 _ _ _); have c1 := box_cell hb1 (hp21 _ _ _); have f0 := box_free hb1 (hp20 _ _ _); have f1 := box_free hb1 (hp21 _ _ _); obtain ⟨hz, hz'⟩ := sz2 hb1; replace hb1 := below2 hb1
      unfold rgV)
    go_region
    all_goals
      go_wp2
      refine bodyPost_ret (v := .tuple #[.agg #[.int .i64 s, .int .i64 j, .int .i64 i, .slice (some ⟨w1.heap.size + 1, 0, none⟩) (rgB s j i).toNat (rgB s j i).toNat], .int .i64 0]) (by simp [results, Try.results24, go_sem, c1, hz, hz']) rfl ?_
      refine ⟨by (repeat' (first | (with_reducible exact Below.refl _ _) | (with_reducible assumption) | (with_reducible refine Below.alloc ?_ ?_ _) | (with_reducible refine Below.drew ?_) | (with_reducible refine Below.setCell ?_ ?_ _) | (with_reducible exact Nat.le_refl _) | omega | (simp; done) | (simp; omega))), .inr ⟨HE.out, w1.heap.size + 1, rfl, by omega, ?_⟩⟩
      exact hpLd (by simp)
  · have hE' : (rgE s j i == 0) = false := by simpa using hE
    have hE'' : (rgE s j i != 0) = true := by simpa using hE
    have HE := Lib.hid hE
    clear hE hi hz0 hz1 hz2 hmk
    go_enter Try.func24, Try.ntmps24
    go_wp2_with (
      go_at_call 20; refine (regions_any _ _ _ _).mono ?_; rintro e w1 ⟨rfl, hb1⟩; have c0 := box_cell hb1 (hp20 _ _ _); have c1 := box_cell hb1 (hp21 _ _ _); have f0 := box_free hb1 (hp20 _ _ _); have f1 := box_free hb1 (hp21 _ _ _); obtain ⟨hz, hz'⟩ := sz2 hb1; replace hb1 := below2 hb1
      unfold rgV)
    refine bodyPost_ret (v := .tuple #[.agg #[.int .i64 0, .int .i64 0, .int .i64 0, .slice none 0 0], .int .i64 (rgE s j i)]) (by simp [results, Try.results24, go_sem, c1, hz']) rfl ?_
    exact ⟨by (repeat' (first | (with_reducible exact Below.refl _ _) | (with_reducible assumption) | (with_reducible refine Below.alloc ?_ ?_ _) | (with_reducible refine Below.drew ?_) | (with_reducible refine Below.setCell ?_ ?_ _) | (with_reducible exact Nat.le_refl _) | omega | (simp; done) | (simp; omega))), .inl ⟨HE.out, rfl⟩⟩

set_option maxHeartbeats 400000 in
theorem newR_any (s j i : Int) (w : World) :
    Calls Try.prog 25 #[.agg #[.int .i64 s, .int .i64 j, .int .i64 i]] w (NewPost s j i w) := by
  obtain ⟨i0, hi, hz0, hz1, hz2⟩ := info_parts Try.info4
  have hB := rgB_bds s j i
  have hmk : ∀ w : World, (Instr.makeSlice 24 (.int .i64 (rgB s j i)) (.int .i64 (rgB s j i))).run Try.prog w = .ok (.slice (some ⟨w.heap.size, 0, none⟩) (rgB s j i).toNat (rgB s j i).toNat) (w.alloc (.cells (fill (.bool false) (rgB s j i).toNat) 4)) := by
    intro w
    have := run_make (P := Try.prog) w 24 4 i0 (.bool false) Try.underlying24 hi hz0 .i64 .i64 (rgB s j i) (rgB s j i) hB.1 (Int.le_refl _) (by rw [hz2]; omega) (by omega)
    rw [this, hz1]; simp [fill, Value.cells]
  by_cases hE : rgE s j i = 0
  · have hE' : (rgE s j i == 0) = true := by simpa using hE
    have hE'' : (rgE s j i != 0) = false := by simpa using hE
    have HE := Lib.hid hE
    clear hE hi hz0 hz1 hz2
    go_enter Try.func25, Try.ntmps25
    go_wp2_with (
      go_at_call 21; refine (regionsR_any _ _ _ _).mono ?_; rintro e w1 ⟨rfl, hb1⟩; have c0 := box_cell hb1 (hp20 _ _ _); have c1 := box_cell hb1 (hp21 _ _ _); have f0 := box_free hb1 (hp20 _ _ _); have f1 := box_free hb1 (hp21 _ _ _); obtain ⟨hz, hz'⟩ := sz2 hb1; replace hb1 := below2 hb1
      unfold rgV)
    go_region
    all_goals
      go_wp2
      refine bodyPost_ret (v := .tuple #[.agg #[.int .i64 s, .int .i64 j, .int .i64 i, .slice (some ⟨w1.heap.size + 1, 0, none⟩) (rgB s j i).toNat (rgB s j i).toNat], .int .i64 0]) (by simp [results, Try.results25, go_sem, c1, hz, hz']) rfl ?_
      refine ⟨by (repeat' (first | (with_reducible exact Below.refl _ _) | (with_reducible assumption) | (with_reducible refine Below.alloc ?_ ?_ _) | (with_reducible refine Below.drew ?_) | (with_reducible refine Below.setCell ?_ ?_ _) | (with_reducible exact Nat.le_refl _) | omega | (simp; done) | (simp; omega))), .inr ⟨HE.out, w1.heap.size + 1, rfl, by omega, ?_⟩⟩
      exact hpLd (by simp)
  · have hE' : (rgE s j i == 0) = false := by simpa using hE
    have hE'' : (rgE s j i != 0) = true := by simpa using hE
    have HE := Lib.hid hE
    clear hE hi hz0 hz1 hz2 hmk
    go_enter Try.func25, Try.ntmps25
    go_wp2_with (
      go_at_call 21; refine (regionsR_any _ _ _ _).mono ?_; rintro e w1 ⟨rfl, hb1⟩; have c0 := box_cell hb1 (hp20 _ _ _); have c1 := box_cell hb1 (hp21 _ _ _); have f0 := box_free hb1 (hp20 _ _ _); have f1 := box_free hb1 (hp21 _ _ _); obtain ⟨hz, hz'⟩ := sz2 hb1; replace hb1 := below2 hb1
      unfold rgV)
    refine bodyPost_ret (v := .tuple #[.agg #[.int .i64 0, .int .i64 0, .int .i64 0, .slice none 0 0], .int .i64 (rgE s j i)]) (by simp [results, Try.results25, go_sem, c1, hz']) rfl ?_
    exact ⟨by (repeat' (first | (with_reducible exact Below.refl _ _) | (with_reducible assumption) | (with_reducible refine Below.alloc ?_ ?_ _) | (with_reducible refine Below.drew ?_) | (with_reducible refine Below.setCell ?_ ?_ _) | (with_reducible exact Nat.le_refl _) | omega | (simp; done) | (simp; omega))), .inl ⟨HE.out, rfl⟩⟩


def CkE (s j i : Int) (n : Nat) : Int := if rgE s j i = 0 then (if (n : Int) = rgB s j i then 0 else 6) else rgE s j i

set_option maxHeartbeats 400000 in
theorem check_any (s j i : Int) (A : Option Addr) (n c : Nat) (w : World) (_hn : n ≤ maxLen) :
    Calls Try.prog 15 #[.agg #[.int .i64 s, .int .i64 j, .int .i64 i, .slice A n c]] w fun e w' => e = .returned (.int .i64 (CkE s j i n)) ∧ Below w.heap.size w w' := by
  unfold maxLen at _hn
  by_cases hE : rgE s j i = 0
  · have hE' : (rgE s j i == 0) = true := by simpa using hE
    have hv : CkE s j i n = if (n : Int) = rgB s j i then 0 else 6 := by simp [CkE, hE]
    have HV := Lib.hid hv
    clear hv
    by_cases hL : (n : Int) = rgB s j i
    all_goals
      have HE := Lib.hid hE
      clear hE
      first | (have hd : ((n : Int) != rgB s j i) = false := by simp [hL]) | (have hd : ((n : Int) != rgB s j i) = true := by simpa using hL)
      have HL := Lib.hid hL
      clear hL
      go_enter Try.func15, Try.ntmps15
      go_wp2_with (
        go_at_call 20; refine (regions_any _ _ _ _).mono ?_; rintro e w1 ⟨rfl, hb1⟩; have c0 := box_cell hb1 (hp1 _ _); have f0 := box_free hb1 (hp1 _ _); have hz := sz1 hb1; replace hb1 := below1 hb1
        unfold rgV)
      go_ret
      have HL' := HL.out
      exact ⟨ret_int (by rw [HV.out]; first | (simp [HL', HE.out]; done) | (simp [HL'])), by (repeat' (first | (with_reducible exact Below.refl _ _) | (with_reducible assumption) | (with_reducible refine Below.alloc ?_ ?_ _) | (with_reducible refine Below.drew ?_) | (with_reducible refine Below.setCell ?_ ?_ _) | (with_reducible exact Nat.le_refl _) | omega | (simp; done) | (simp; omega)))⟩
  · have hE' : (rgE s j i == 0) = false := by simpa using hE
    have hv : CkE s j i n = rgE s j i := by simp [CkE, hE]
    have HV := Lib.hid hv
    clear hv
    have HE := Lib.hid hE
    clear hE
    go_enter Try.func15, Try.ntmps15
    go_wp2_with (
      go_at_call 20; refine (regions_any _ _ _ _).mono ?_; rintro e w1 ⟨rfl, hb1⟩; have c0 := box_cell hb1 (hp1 _ _); have f0 := box_free hb1 (hp1 _ _); have hz := sz1 hb1; replace hb1 := below1 hb1
      unfold rgV)
    go_ret
    exact ⟨ret_int HV.out.symm, by (repeat' (first | (with_reducible exact Below.refl _ _) | (with_reducible assumption) | (with_reducible refine Below.alloc ?_ ?_ _) | (with_reducible refine Below.drew ?_) | (with_reducible refine Below.setCell ?_ ?_ _) | (with_reducible exact Nat.le_refl _) | omega | (simp; done) | (simp; omega)))⟩

set_option maxHeartbeats 400000 in
theorem checkR_any (s j i : Int) (A : Option Addr) (n c : Nat) (w : World) (_hn : n ≤ maxLen) :
    Calls Try.prog 16 #[.agg #[.int .i64 s, .int .i64 j, .int .i64 i, .slice A n c]] w fun e w' => e = .returned (.int .i64 (CkE s j i n)) ∧ Below w.heap.size w w' := by
  unfold maxLen at _hn
  by_cases hE : rgE s j i = 0
  · have hE' : (rgE s j i == 0) = true := by simpa using hE
    have hv : CkE s j i n = if (n : Int) = rgB s j i then 0 else 6 := by simp [CkE, hE]
    have HV := Lib.hid hv
    clear hv
    by_cases hL : (n : Int) = rgB s j i
    all_goals
      have HE := Lib.hid hE
      clear hE
      first | (have hd : ((n : Int) != rgB s j i) = false := by simp [hL]) | (have hd : ((n : Int) != rgB s j i) = true := by simpa using hL)
      have HL := Lib.hid hL
      clear hL
      go_enter Try.func16, Try.ntmps16
      go_wp2_with (
        go_at_call 21; refine (regionsR_any _ _ _ _).mono ?_; rintro e w1 ⟨rfl, hb1⟩; have c0 := box_cell hb1 (hp1 _ _); have f0 := box_free hb1 (hp1 _ _); have hz := sz1 hb1; replace hb1 := below1 hb1
        unfold rgV)
      go_ret
      have HL' := HL.out
      exact ⟨ret_int (by rw [HV.out]; first | (simp [HL', HE.out]; done) | (simp [HL'])), by (repeat' (first | (with_reducible exact Below.refl _ _) | (with_reducible assumption) | (with_reducible refine Below.alloc ?_ ?_ _) | (with_reducible refine Below.drew ?_) | (with_reducible refine Below.setCell ?_ ?_ _) | (with_reducible exact Nat.le_refl _) | omega | (simp; done) | (simp; omega)))⟩
  · have hE' : (rgE s j i == 0) = false := by simpa using hE
    have hv : CkE s j i n = rgE s j i := by simp [CkE, hE]
    have HV := Lib.hid hv
    clear hv
    have HE := Lib.hid hE
    clear hE
    go_enter Try.func16, Try.ntmps16
    go_wp2_with (
      go_at_call 21; refine (regionsR_any _ _ _ _).mono ?_; rintro e w1 ⟨rfl, hb1⟩; have c0 := box_cell hb1 (hp1 _ _); have f0 := box_free hb1 (hp1 _ _); have hz := sz1 hb1; replace hb1 := below1 hb1
      unfold rgV)
    go_ret
    exact ⟨ret_int HV.out.symm, by (repeat' (first | (with_reducible exact Below.refl _ _) | (with_reducible assumption) | (with_reducible refine Below.alloc ?_ ?_ _) | (with_reducible refine Below.drew ?_) | (with_reducible refine Below.setCell ?_ ?_ _) | (with_reducible exact Nat.le_refl _) | omega | (simp; done) | (simp; omega)))⟩

end Go.Proofs.Ytenfheheepkfbaa
