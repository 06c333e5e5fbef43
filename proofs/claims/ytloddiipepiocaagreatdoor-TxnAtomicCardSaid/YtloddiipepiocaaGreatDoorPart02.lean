/- Parts of the proof, put together by program: A4, L2, E1, D1. -/
import Derived.Test.YtloddiipepiocaaGreatDoorPart01
import Derived.Deep.RegionWith
import Derived.Deep.RegionHeld3
import Derived.Deep.QuietTactic
set_option linter.unusedVariables false
set_option linter.unusedSimpArgs false
/- New, Check. -/
namespace Go.Proofs.YtloddiipepiocaaGreatDoor
open Go.RowKit

theorem Tryz.info4 : (Tryz.prog.info? 4).map (fun i => (i.zero, i.size, i.bytes)) = some (some (.bool false), 1, 1) := by kernel_rfl

def NewPost (s j i : Int) (w : World) (e : Ending) (w' : World) : Prop :=
  Below w.heap.size w w' ∧ ((rgE s j i ≠ 0 ∧ e = .returned (.tuple #[.agg #[.int .i64 0, .int .i64 0, .int .i64 0, .slice none 0 0], .int .i64 (rgE s j i)])) ∨
  (rgE s j i = 0 ∧ ∃ b, e = .returned (.tuple #[.agg #[.int .i64 s, .int .i64 j, .int .i64 i, .slice (some ⟨b, 0, none⟩) (rgB s j i).toNat (rgB s j i).toNat], .int .i64 0]) ∧ w.heap.size ≤ b ∧
    w'.heap[b]? = some (.cells (fill (.bool false) (rgB s j i).toNat) 4 (0, 0))))


set_option maxHeartbeats 400000 in
theorem new_any (s j i : Int) (w : World) :
    Calls Tryz.prog 53 #[.agg #[.int .i64 s, .int .i64 j, .int .i64 i]] w (NewPost s j i w) := by
  obtain ⟨i0, hi, hz0, hz1, hz2⟩ := info_parts Tryz.info4
  have hB := rgB_bds s j i
  have hmk : ∀ w : World, (Instr.makeSlice 51 (.int .i64 (rgB s j i)) (.int .i64 (rgB s j i))).run Tryz.prog w = .ok (.slice (some ⟨w.heap.size, 0, none⟩) (rgB s j i).toNat (rgB s j i).toNat) (w.alloc (.cells (fill (.bool false) (rgB s j i).toNat) 4)) := by
    intro w
    have := run_make (P := Tryz.prog) w 51 4 i0 (.bool false) Tryz.underlying51 hi hz0 .i64 .i64 (rgB s j i) (rgB s j i) hB.1 (Int.le_refl _) (by rw [hz2]; omega) (by omega)
    rw [this, hz1]; simp [fill, Value.cells]
  by_cases hE : rgE s j i = 0
  · have hE' : (rgE s j i == 0) = true := by simpa using hE
    have hE'' : (rgE s j i != 0) = false := by simpa using hE
    have HE := Lib.hid hE
    clear hE hi hz0 hz1 hz2
    go_enter Tryz.func53, Tryz.ntmps53
    go_wp2_with (
      go_at_call 90; refine (regions_any _ _ _ _).mono ?_; rintro e w1 ⟨rfl, hb1⟩; have c0 := box_cell hb1 (hp20 _ _ _); have c1 := box_cell hb1 (hp21 _ _ _); have f0 := box_free hb1 (hp20 _ _ _); have f1 := box_free hb1 (hp21 _ _ _); obtain ⟨hz, hz'⟩ := sz2 hb1; replace hb1 := below2 hb1
      unfold rgV)
    go_region
    all_goals
      go_wp2
      refine bodyPost_ret (v := .tuple #[.agg #[.int .i64 s, .int .i64 j, .int .i64 i, .slice (some ⟨w1.heap.size + 1, 0, none⟩) (rgB s j i).toNat (rgB s j i).toNat], .int .i64 0]) (by simp [results, Tryz.results53, go_sem, c1, hz, hz']) rfl ?_
      refine ⟨by (repeat' (first | (with_reducible exact Below.refl _ _) | (with_reducible assumption) | (with_reducible refine Below.alloc ?_ ?_ _) | (with_reducible refine Below.drew ?_) | (with_reducible refine Below.setCell ?_ ?_ _) | (with_reducible exact Nat.le_refl _) | omega | (simp; done) | (simp; omega))), .inr ⟨HE.out, w1.heap.size + 1, rfl, by omega, ?_⟩⟩
      exact hpLd (by simp)
  · have hE' : (rgE s j i == 0) = false := by simpa using hE
    have hE'' : (rgE s j i != 0) = true := by simpa using hE
    have HE := Lib.hid hE
    clear hE hi hz0 hz1 hz2 hmk
    go_enter Tryz.func53, Tryz.ntmps53
    go_wp2_with (
      go_at_call 90; refine (regions_any _ _ _ _).mono ?_; rintro e w1 ⟨rfl, hb1⟩; have c0 := box_cell hb1 (hp20 _ _ _); have c1 := box_cell hb1 (hp21 _ _ _); have f0 := box_free hb1 (hp20 _ _ _); have f1 := box_free hb1 (hp21 _ _ _); obtain ⟨hz, hz'⟩ := sz2 hb1; replace hb1 := below2 hb1
      unfold rgV)
    refine bodyPost_ret (v := .tuple #[.agg #[.int .i64 0, .int .i64 0, .int .i64 0, .slice none 0 0], .int .i64 (rgE s j i)]) (by simp [results, Tryz.results53, go_sem, c1, hz']) rfl ?_
    exact ⟨by (repeat' (first | (with_reducible exact Below.refl _ _) | (with_reducible assumption) | (with_reducible refine Below.alloc ?_ ?_ _) | (with_reducible refine Below.drew ?_) | (with_reducible refine Below.setCell ?_ ?_ _) | (with_reducible exact Nat.le_refl _) | omega | (simp; done) | (simp; omega))), .inl ⟨HE.out, rfl⟩⟩

set_option maxHeartbeats 400000 in
theorem newR_any (s j i : Int) (w : World) :
    Calls Tryz.prog 63 #[.agg #[.int .i64 s, .int .i64 j, .int .i64 i]] w (NewPost s j i w) := by
  obtain ⟨i0, hi, hz0, hz1, hz2⟩ := info_parts Tryz.info4
  have hB := rgB_bds s j i
  have hmk : ∀ w : World, (Instr.makeSlice 51 (.int .i64 (rgB s j i)) (.int .i64 (rgB s j i))).run Tryz.prog w = .ok (.slice (some ⟨w.heap.size, 0, none⟩) (rgB s j i).toNat (rgB s j i).toNat) (w.alloc (.cells (fill (.bool false) (rgB s j i).toNat) 4)) := by
    intro w
    have := run_make (P := Tryz.prog) w 51 4 i0 (.bool false) Tryz.underlying51 hi hz0 .i64 .i64 (rgB s j i) (rgB s j i) hB.1 (Int.le_refl _) (by rw [hz2]; omega) (by omega)
    rw [this, hz1]; simp [fill, Value.cells]
  by_cases hE : rgE s j i = 0
  · have hE' : (rgE s j i == 0) = true := by simpa using hE
    have hE'' : (rgE s j i != 0) = false := by simpa using hE
    have HE := Lib.hid hE
    clear hE hi hz0 hz1 hz2
    go_enter Tryz.func63, Tryz.ntmps63
    go_wp2_with (
      go_at_call 7; refine (regionsR_any _ _ _ _).mono ?_; rintro e w1 ⟨rfl, hb1⟩; have c0 := box_cell hb1 (hp20 _ _ _); have c1 := box_cell hb1 (hp21 _ _ _); have f0 := box_free hb1 (hp20 _ _ _); have f1 := box_free hb1 (hp21 _ _ _); obtain ⟨hz, hz'⟩ := sz2 hb1; replace hb1 := below2 hb1
      unfold rgV)
    go_region
    all_goals
      go_wp2
      refine bodyPost_ret (v := .tuple #[.agg #[.int .i64 s, .int .i64 j, .int .i64 i, .slice (some ⟨w1.heap.size + 1, 0, none⟩) (rgB s j i).toNat (rgB s j i).toNat], .int .i64 0]) (by simp [results, Tryz.results63, go_sem, c1, hz, hz']) rfl ?_
      refine ⟨by (repeat' (first | (with_reducible exact Below.refl _ _) | (with_reducible assumption) | (with_reducible refine Below.alloc ?_ ?_ _) | (with_reducible refine Below.drew ?_) | (with_reducible refine Below.setCell ?_ ?_ _) | (with_reducible exact Nat.le_refl _) | omega | (simp; done) | (simp; omega))), .inr ⟨HE.out, w1.heap.size + 1, rfl, by omega, ?_⟩⟩
      exact hpLd (by simp)
  · have hE' : (rgE s j i == 0) = false := by simpa using hE
    have hE'' : (rgE s j i != 0) = true := by simpa using hE
    have HE := Lib.hid hE
    clear hE hi hz0 hz1 hz2 hmk
    go_enter Tryz.func63, Tryz.ntmps63
    go_wp2_with (
      go_at_call 7; refine (regionsR_any _ _ _ _).mono ?_; rintro e w1 ⟨rfl, hb1⟩; have c0 := box_cell hb1 (hp20 _ _ _); have c1 := box_cell hb1 (hp21 _ _ _); have f0 := box_free hb1 (hp20 _ _ _); have f1 := box_free hb1 (hp21 _ _ _); obtain ⟨hz, hz'⟩ := sz2 hb1; replace hb1 := below2 hb1
      unfold rgV)
    refine bodyPost_ret (v := .tuple #[.agg #[.int .i64 0, .int .i64 0, .int .i64 0, .slice none 0 0], .int .i64 (rgE s j i)]) (by simp [results, Tryz.results63, go_sem, c1, hz']) rfl ?_
    exact ⟨by (repeat' (first | (with_reducible exact Below.refl _ _) | (with_reducible assumption) | (with_reducible refine Below.alloc ?_ ?_ _) | (with_reducible refine Below.drew ?_) | (with_reducible refine Below.setCell ?_ ?_ _) | (with_reducible exact Nat.le_refl _) | omega | (simp; done) | (simp; omega))), .inl ⟨HE.out, rfl⟩⟩


def CkE (s j i : Int) (n : Nat) : Int := if rgE s j i = 0 then (if (n : Int) = rgB s j i then 0 else 6) else rgE s j i

set_option maxHeartbeats 400000 in
theorem check_any (s j i : Int) (A : Option Addr) (n c : Nat) (w : World) (_hn : n ≤ maxLen) :
    Calls Tryz.prog 165 #[.agg #[.int .i64 s, .int .i64 j, .int .i64 i, .slice A n c]] w fun e w' => e = .returned (.int .i64 (CkE s j i n)) ∧ Below w.heap.size w w' := by
  unfold maxLen at _hn
  by_cases hE : rgE s j i = 0
  · have hE' : (rgE s j i == 0) = true := by simpa using hE
    have hv : CkE s j i n = if (n : Int) = rgB s j i then 0 else 6 := by simp [CkE, hE]
    have HV := Lib.hid hv
    clear hv
    by_cases hL : (n : Int) = rgB s j i
    all_goals
      have HE := Lib.hid hE
      clear hE
      first | (have hd : ((n : Int) != rgB s j i) = false := by simp [hL]) | (have hd : ((n : Int) != rgB s j i) = true := by simpa using hL)
      have HL := Lib.hid hL
      clear hL
      go_enter Tryz.func165, Tryz.ntmps165
      go_wp2_with (
        go_at_call 90; refine (regions_any _ _ _ _).mono ?_; rintro e w1 ⟨rfl, hb1⟩; have c0 := box_cell hb1 (hp1 _ _); have f0 := box_free hb1 (hp1 _ _); have hz := sz1 hb1; replace hb1 := below1 hb1
        unfold rgV)
      go_ret
      have HL' := HL.out
      exact ⟨ret_int (by rw [HV.out]; first | (simp [HL', HE.out]; done) | (simp [HL'])), by (repeat' (first | (with_reducible exact Below.refl _ _) | (with_reducible assumption) | (with_reducible refine Below.alloc ?_ ?_ _) | (with_reducible refine Below.drew ?_) | (with_reducible refine Below.setCell ?_ ?_ _) | (with_reducible exact Nat.le_refl _) | omega | (simp; done) | (simp; omega)))⟩
  · have hE' : (rgE s j i == 0) = false := by simpa using hE
    have hv : CkE s j i n = rgE s j i := by simp [CkE, hE]
    have HV := Lib.hid hv
    clear hv
    have HE := Lib.hid hE
    clear hE
    go_enter Tryz.func165, Tryz.ntmps165
    go_wp2_with (
      go_at_call 90; refine (regions_any _ _ _ _).mono ?_; rintro e w1 ⟨rfl, hb1⟩; have c0 := box_cell hb1 (hp1 _ _); have f0 := box_free hb1 (hp1 _ _); have hz := sz1 hb1; replace hb1 := below1 hb1
      unfold rgV)
    go_ret
    exact ⟨ret_int HV.out.symm, by (repeat' (first | (with_reducible exact Below.refl _ _) | (with_reducible assumption) | (with_reducible refine Below.alloc ?_ ?_ _) | (with_reducible refine Below.drew ?_) | (with_reducible refine Below.setCell ?_ ?_ _) | (with_reducible exact Nat.le_refl _) | omega | (simp; done) | (simp; omega)))⟩

set_option maxHeartbeats 400000 in
theorem checkR_any (s j i : Int) (A : Option Addr) (n c : Nat) (w : World) (_hn : n ≤ maxLen) :
    Calls Tryz.prog 123 #[.agg #[.int .i64 s, .int .i64 j, .int .i64 i, .slice A n c]] w fun e w' => e = .returned (.int .i64 (CkE s j i n)) ∧ Below w.heap.size w w' := by
  unfold maxLen at _hn
  by_cases hE : rgE s j i = 0
  · have hE' : (rgE s j i == 0) = true := by simpa using hE
    have hv : CkE s j i n = if (n : Int) = rgB s j i then 0 else 6 := by simp [CkE, hE]
    have HV := Lib.hid hv
    clear hv
    by_cases hL : (n : Int) = rgB s j i
    all_goals
      have HE := Lib.hid hE
      clear hE
      first | (have hd : ((n : Int) != rgB s j i) = false := by simp [hL]) | (have hd : ((n : Int) != rgB s j i) = true := by simpa using hL)
      have HL := Lib.hid hL
      clear hL
      go_enter Tryz.func123, Tryz.ntmps123
      go_wp2_with (
        go_at_call 7; refine (regionsR_any _ _ _ _).mono ?_; rintro e w1 ⟨rfl, hb1⟩; have c0 := box_cell hb1 (hp1 _ _); have f0 := box_free hb1 (hp1 _ _); have hz := sz1 hb1; replace hb1 := below1 hb1
        unfold rgV)
      go_ret
      have HL' := HL.out
      exact ⟨ret_int (by rw [HV.out]; first | (simp [HL', HE.out]; done) | (simp [HL'])), by (repeat' (first | (with_reducible exact Below.refl _ _) | (with_reducible assumption) | (with_reducible refine Below.alloc ?_ ?_ _) | (with_reducible refine Below.drew ?_) | (with_reducible refine Below.setCell ?_ ?_ _) | (with_reducible exact Nat.le_refl _) | omega | (simp; done) | (simp; omega)))⟩
  · have hE' : (rgE s j i == 0) = false := by simpa using hE
    have hv : CkE s j i n = rgE s j i := by simp [CkE, hE]
    have HV := Lib.hid hv
    clear hv
    have HE := Lib.hid hE
    clear hE
    go_enter Tryz.func123, Tryz.ntmps123
    go_wp2_with (
      go_at_call 7; refine (regionsR_any _ _ _ _).mono ?_; rintro e w1 ⟨rfl, hb1⟩; have c0 := box_cell hb1 (hp1 _ _); have f0 := box_free hb1 (hp1 _ _); have hz := sz1 hb1; replace hb1 := below1 hb1
      unfold rgV)
    go_ret
    exact ⟨ret_int HV.out.symm, by (repeat' (first | (with_reducible exact Below.refl _ _) | (with_reducible assumption) | (with_reducible refine Below.alloc ?_ ?_ _) | (with_reducible refine Below.drew ?_) | (with_reducible refine Below.setCell ?_ ?_ _) | (with_reducible exact Nat.le_refl _) | omega | (simp; done) | (simp; omega)))⟩

end Go.Proofs.YtloddiipepiocaaGreatDoor
/- Blocks that are known whole. -/
namespace Go.Proofs.YtloddiipepiocaaGreatDoor
open Go.RowKit

def Blk (w : World) (g : Nat) (t : TypeId) (cs : Array Value) : Prop := w.heap[g]? = some (.cells cs t (0, 0))
section
variable {w w' : World} {g : Nat} {t : TypeId} {cs : Array Value}
theorem Blk.lt (h : Blk w g t cs) : g < w.heap.size := (Array.getElem?_eq_some_iff.1 h).1
theorem Blk.cells (h : Blk w g t cs) : ∀ j, w.cell? ⟨g, j, none⟩ = cs[j]? := fun j => cell_of_row w g j cs t (0, 0) h
theorem Blk.free (h : Blk w g t cs) : ∀ j, w.frozen? ⟨g, j, none⟩ = false := fun j => by unfold Blk at h; simp [World.frozen?, h]
theorem Blk.new (w : World) (t : TypeId) (cs : Array Value) : Blk (w.alloc (.cells cs t)) w.heap.size t cs := hp1 w _
theorem Blk.new' {w : World} {t : TypeId} {cs : Array Value} {g : Nat} (h : g = w.heap.size) : Blk (w.alloc (.cells cs t)) g t cs := by subst h; exact hp1 w _
theorem Blk.drew (h : Blk w g t cs) : Blk w.drew g t cs := h
theorem Blk.alloc (h : Blk w g t cs) (o : Obj) : Blk (w.alloc o) g t cs := hp_keep h o
theorem Blk.below {B : Nat} (h : Blk w g t cs) (hb : Below B w w') (hg : g < B) : Blk w' g t cs := (hb.block g hg).trans h
theorem Blk.belowAll (h : Blk w g t cs) (hb : Below w.heap.size w w') : Blk w' g t cs := h.below hb h.lt
theorem Blk.set_ (h : Blk w g t cs) (i : Nat) (u : Value) : Blk (w.setCell ⟨g, i, none⟩ u) g t (cs.setIfInBounds i u) := heap_setCell_same w g i cs t u h
theorem Blk.far (h : Blk w g t cs) {p : Addr} (hp : g ≠ p.block) (u : Value) : Blk (w.setCell p u) g t cs := (Below.heap_setCell w p u g hp).trans h
theorem Blk.grown {row : Option Nat} (h : Blk w g t cs) (hb : w.grownBy w' row) (hg : some g ≠ row) : Blk w' g t cs := (hb.block g h.lt hg).trans h
end
theorem below_drewN' {B : Nat} {a w : World} (h : Below B a w) (n : Nat) : Below B a (w.drewN n) := ⟨h.os, h.tape, h.output, h.size, h.block⟩
theorem Below.far {B : Nat} {a w : World} (h : Below B a w) {p : Addr} (hp : B ≤ p.block) (u : Value) : Below B a (w.setCell p u) := h.setCell hp u
end Go.Proofs.YtloddiipepiocaaGreatDoor
/- Encode. -/
namespace Go.Proofs.YtloddiipepiocaaGreatDoor
open Go.RowKit

theorem zero96 (w : World) : (zeroValue 235).run Tryz.prog w = .ok (.agg (fill (.int .u8 0) 96)) w := by kernel_rfl

theorem ckE_len {s j i : Int} {n : Nat} (h : CkE s j i n = 0) : rgE s j i = 0 ∧ (n : Int) = rgB s j i ∧ 8 ≤ n ∧ n ≤ 256 := by
  unfold CkE at h
  split at h
  · rename_i hg
    split at h
    · rename_i hl
      have := rg_bds hg
      have := (rg_ok hg).2.2.2.2
      exact ⟨hg, hl, by omega, by omega⟩
    · omega
  · exact absurd h (by assumption)

def orv (x : Int) (m : Nat) : Int := bits BinOp.or IntKind.u8 x (2 ^ m % 256)
/-- The bitmap's bytes when k blocks have been looked at. -/
def encL (us : List Bool) : Nat → List Int
  | 0 => List.replicate 96 0
  | k + 1 => if us[k]? = some true then (encL us k).set (k / 8) (orv ((encL us k).getD (k / 8) 0) (k % 8)) else encL us k
theorem encL_length (us : List Bool) (k : Nat) : (encL us k).length = 96 := by
  induction k with
  | zero => simp [encL]
  | succ k ih => unfold encL; split <;> simp [ih]
theorem encL_hit {us : List Bool} {k : Nat} (h : us[k]? = some true) : encL us (k + 1) = (encL us k).set (k / 8) (orv ((encL us k).getD (k / 8) 0) (k % 8)) := by
  show (if us[k]? = some true then _ else _) = _
  rw [if_pos h]
theorem encL_miss {us : List Bool} {k : Nat} (h : us[k]? = some false) : encL us (k + 1) = encL us k := by
  show (if us[k]? = some true then _ else _) = _
  rw [if_neg (by rw [h]; simp)]

def bytesV (l : List Int) : Array Value := (l.map (Value.int .u8)).toArray
theorem bytesV_rep (n : Nat) : bytesV (List.replicate n 0) = fill (.int .u8 0) n := by rw [fill_eq]; unfold bytesV; simp
theorem bytesV_set (l : List Int) (m : Nat) (x : Int) : (bytesV l).setIfInBounds m (.int .u8 x) = bytesV (l.set m x) := by
  unfold bytesV; simp [List.map_set]
theorem bytesV_get {l : List Int} {m : Nat} (h : m < l.length) : (bytesV l)[m]? = some (.int .u8 (l.getD m 0)) := by
  unfold bytesV; simp [h]
theorem reads_bytes {w : World} {g : Nat} {t : TypeId} {l : List Int} (h : Blk w g t (bytesV l)) : Reads w (some ⟨g, 0, none⟩) (l.map (Value.int .u8)) :=
  .inr ⟨g, 0, rfl, h.lt, fun j u hu => by rw [h.cells, Nat.zero_add]; unfold bytesV; simpa using hu⟩

def EncPost (s j i : Int) (us : List Bool) (w : World) (e : Ending) (w' : World) : Prop :=
  Below w.heap.size w w' ∧ ((CkE s j i us.length ≠ 0 ∧ e = .returned (.tuple #[.slice none 0 0, .int .i64 (CkE s j i us.length)])) ∨
    (CkE s j i us.length = 0 ∧ ∃ g, e = .returned (.tuple #[.slice (some ⟨g, 0, none⟩) 96 96, .int .i64 0]) ∧ w.heap.size ≤ g ∧ Reads w' (some ⟨g, 0, none⟩) ((encL us us.length).map (Value.int .u8))))

set_option maxRecDepth 100000 in
set_option maxHeartbeats 1000000 in
theorem encode_ok (s j i : Int) (A : Option Addr) (c : Nat) (us : List Bool) (hus : us.length ≤ 1000) (w : World) (hR : Reads w A (us.map .bool)) (hE : CkE s j i us.length = 0) :
    Calls Tryz.prog 109 #[.agg #[.int .i64 s, .int .i64 j, .int .i64 i, .slice A us.length c]] w (EncPost s j i us w) := by
  have hus' := (ckE_len hE).2.2
  have hE' : (CkE s j i us.length != 0) = false := by simpa using hE
  have HE := Lib.hid hE
  clear hE
  have hz96 := zero96
  go_enter Tryz.func109, Tryz.ntmps109
  go_wp2_with fail
  refine (check_any s j i A us.length c _ (by unfold maxLen; omega)).mono ?_
  rintro e w1 ⟨rfl, hb1⟩
  have bS : Blk w1 w.heap.size 53 #[.int .i64 s, .int .i64 j, .int .i64 i, .slice A us.length c] := Blk.belowAll (by (repeat' (first | (with_reducible assumption) | exact Blk.new' (by simp) | refine Blk.alloc ?_ _))) hb1
  replace hb1 : Below w.heap.size w w1 := below1 hb1
  have cS := bS.cells
  have hbS := bS.lt
  go_wp2_with fail
  obtain ⟨W1, hW1⟩ : ∃ W1, W1 = w1.alloc (.cells (fill (.int .u8 0) 96) 235) := ⟨_, rfl⟩
  rw [← hW1]
  have bO : Blk W1 w1.heap.size 235 (fill (.int .u8 0) 96) := by rw [hW1]; exact Blk.new _ _ _
  have hB1 : Below w.heap.size w W1 := by rw [hW1]; exact hb1.alloc hb1.size _
  have hs1 : W1.heap.size = w1.heap.size + 1 := by rw [hW1]; simp
  clear hW1 bS cS hb1 hz96
  go_loopw [16] (fun q wr => ∃ k : Nat, k ≤ us.length ∧ q = .int .i64 k ∧ Blk wr w1.heap.size 235 (bytesV (encL us k)) ∧ Below w1.heap.size W1 wr) (fun q _ => us.length - (intOf q).toNat)
  case atStart => exact ⟨0, Nat.zero_le _, rfl, by rw [show encL us 0 = List.replicate 96 0 from rfl, bytesV_rep]; exact bO, Below.refl _ _⟩
  case round =>
    obtain ⟨k, hk, rfl, bO, hnx⟩ := hrel
    have fO := bO.free
    by_cases hlt : k < us.length
    · obtain ⟨b, off, rfl, hb, hc⟩ := (hR.below (hB1.trans (hnx.mono (by omega)))).at_ (k := k) (by simpa using hlt)
      rw [List.getElem_map] at hc
      have hd8 : k / 8 < 96 := by omega
      have hcO : wr.cell? ⟨w1.heap.size, k / 8, none⟩ = some (.int .u8 ((encL us k).getD (k / 8) 0)) := by rw [bO.cells]; exact bytesV_get (by rw [encL_length]; exact hd8)
      cases hu : us[k] <;> rw [hu] at hc
      · have hs := Lib.hid (encL_miss (us := us) (k := k) (by rw [List.getElem?_eq_getElem hlt, hu]))
        clear hu hcO
        go_wp2
        go_roundw
        case rel => exact ⟨k + 1, by omega, by go_num, by rw [hs.out]; exact bO, hnx⟩
        case measure => simp [intOf]; omega
      · have hs := Lib.hid (encL_hit (us := us) (k := k) (by rw [List.getElem?_eq_getElem hlt, hu]))
        clear hu
        generalize hx : (encL us k).getD (k / 8) 0 = x at hcO hs
        clear hx
        go_wp2
        go_region
        all_goals go_wp2
        go_roundw
        case rel => exact ⟨k + 1, by omega, by go_num, by rw [hs.out, ← bytesV_set]; exact (bO.set_ _ _).drew, (hnx.setCell (p := ⟨w1.heap.size, k / 8, none⟩) (Nat.le_refl _) _).drew⟩
        case measure => simp [intOf]; omega
    · obtain rfl : k = us.length := by omega
      have hB2 : Below w.heap.size w wr := hB1.trans (hnx.mono (by omega))
      go_wp2
      go_ret2
      exact ⟨by (repeat' (first | (with_reducible exact Below.refl _ _) | (with_reducible assumption) | (with_reducible refine Below.alloc ?_ ?_ _) | (with_reducible refine Below.drew ?_) | (with_reducible refine below_drewN' ?_ _) | (with_reducible refine Below.setCell ?_ ?_ _) | (with_reducible exact Nat.le_refl _) | omega | (simp; done) | (simp; omega))), .inr ⟨HE.out, w1.heap.size, rfl, by omega, reads_bytes bO⟩⟩

set_option maxHeartbeats 400000 in
theorem encode_any (s j i : Int) (A : Option Addr) (c : Nat) (us : List Bool) (hus : us.length ≤ 1000) (w : World) (hR : Reads w A (us.map .bool)) :
    Calls Tryz.prog 109 #[.agg #[.int .i64 s, .int .i64 j, .int .i64 i, .slice A us.length c]] w (EncPost s j i us w) := by
  by_cases hE : CkE s j i us.length = 0
  · exact encode_ok s j i A c us hus w hR hE
  · have hE' : (CkE s j i us.length != 0) = true := by simpa using hE
    have HE := Lib.hid hE
    clear hE
    go_enter Tryz.func109, Tryz.ntmps109
    go_wp2_with fail
    refine (check_any s j i A us.length c _ (by unfold maxLen; omega)).mono ?_
    rintro e w1 ⟨rfl, hb1⟩
    replace hb1 : Below w.heap.size w w1 := below1 hb1
    go_wp2_with fail
    go_ret2
    exact ⟨hb1, .inl ⟨HE.out, rfl⟩⟩

end Go.Proofs.YtloddiipepiocaaGreatDoor
/- Decode. -/
namespace Go.Proofs.YtloddiipepiocaaGreatDoor
open Go.RowKit

def bitOf (x : Int) (m : Nat) : Bool := bits BinOp.and IntKind.u8 (x / 2 ^ m) 1 == 1
/-- Bit k of a row of bytes. -/
def bitAt (xs : List Int) (k : Nat) : Bool := bitOf (xs.getD (k / 8) 0) (k % 8)
/-- The blocks when k bits have been looked at. -/
def decS (xs : List Int) (n : Nat) : Nat → List Bool
  | 0 => List.replicate n false
  | k + 1 => if k < n then (decS xs n k).set k (bitAt xs k) else decS xs n k
theorem decS_length (xs : List Int) (n k : Nat) : (decS xs n k).length = n := by
  induction k with
  | zero => simp [decS]
  | succ k ih => unfold decS; split <;> simp [ih]
theorem decS_in {xs : List Int} {n k : Nat} (h : k < n) : decS xs n (k + 1) = (decS xs n k).set k (bitAt xs k) := by
  show (if k < n then _ else _) = _
  rw [if_pos h]
theorem decS_out {xs : List Int} {n k : Nat} (h : ¬ k < n) : decS xs n (k + 1) = decS xs n k := by
  show (if k < n then _ else _) = _
  rw [if_neg h]
theorem decS_at (xs : List Int) (n k b : Nat) (hb : b < n) : (decS xs n k)[b]? = some (if b < k then bitAt xs b else false) := by
  induction k with
  | zero => simp [decS, hb]
  | succ k ih =>
    by_cases hk : k < n
    · rw [decS_in hk, List.getElem?_set]
      by_cases h : k = b
      · subst h; simp [decS_length, hk]
      · rw [if_neg h, ih]
        by_cases h2 : b < k
        · rw [if_pos h2, if_pos (by omega)]
        · rw [if_neg h2, if_neg (by omega)]
    · rw [decS_out hk, ih]
      rw [if_pos (by omega), if_pos (by omega)]

def boolsV (l : List Bool) : Array Value := (l.map Value.bool).toArray
theorem boolsV_rep (n : Nat) : boolsV (List.replicate n false) = fill (.bool false) n := by rw [fill_eq]; unfold boolsV; simp
theorem boolsV_set (l : List Bool) (m : Nat) (x : Bool) : (boolsV l).setIfInBounds m (.bool x) = boolsV (l.set m x) := by
  unfold boolsV; simp [List.map_set]
theorem boolsV_get {l : List Bool} {m : Nat} (h : m < l.length) : (boolsV l)[m]? = some (.bool (l.getD m false)) := by
  unfold boolsV; simp [h]

theorem reads_bools {w : World} {g : Nat} {t : TypeId} {l : List Bool} (h : Blk w g t (boolsV l)) : Reads w (some ⟨g, 0, none⟩) (l.map Value.bool) :=
  .inr ⟨g, 0, rfl, h.lt, fun j u hu => by rw [h.cells, Nat.zero_add]; unfold boolsV; simpa using hu⟩

/-- The first bit from n on that is set, if there is one below k. -/
def noneAfter (xs : List Int) (n k : Nat) : Prop := ∀ b, n ≤ b → b < k → bitAt xs b = false

def DecPost (s j i : Int) (xs : List Int) (w : World) (e : Ending) (w' : World) : Prop :=
  Below w.heap.size w w' ∧
    ((rgE s j i ≠ 0 ∧ e = .returned (.tuple #[.agg #[.int .i64 0, .int .i64 0, .int .i64 0, .slice none 0 0], .int .i64 (rgE s j i)])) ∨
    (rgE s j i = 0 ∧ xs.length ≠ 96 ∧ e = .returned (.tuple #[.agg #[.int .i64 0, .int .i64 0, .int .i64 0, .slice none 0 0], .int .i64 3])) ∨
    (rgE s j i = 0 ∧ xs.length = 96 ∧ ¬ noneAfter xs (rgB s j i).toNat 768 ∧ e = .returned (.tuple #[.agg #[.int .i64 0, .int .i64 0, .int .i64 0, .slice none 0 0], .int .i64 6])) ∨
    (rgE s j i = 0 ∧ xs.length = 96 ∧ noneAfter xs (rgB s j i).toNat 768 ∧ ∃ g, e = .returned (.tuple #[.agg #[.int .i64 s, .int .i64 j, .int .i64 i, .slice (some ⟨g, 0, none⟩) (rgB s j i).toNat (rgB s j i).toNat], .int .i64 0]) ∧
      w.heap.size ≤ g ∧ Reads w' (some ⟨g, 0, none⟩) ((decS xs (rgB s j i).toNat 768).map .bool)))

set_option maxRecDepth 100000 in
set_option maxHeartbeats 2000000 in
theorem decode_any (s j i : Int) (A : Option Addr) (c : Nat) (xs : List Int) (hml : xs.length ≤ maxLen) (w : World) (hR : Reads w A (xs.map (.int .u8))) :
    Calls Tryz.prog 44 #[.agg #[.int .i64 s, .int .i64 j, .int .i64 i], .slice A xs.length c] w (DecPost s j i xs w) := by
  go_enter Tryz.func44, Tryz.ntmps44
  go_wp2_with fail
  refine (new_any s j i _).mono ?_
  rintro e w1 ⟨hb1, ⟨hE, rfl⟩ | ⟨hE, g, rfl, hg, hrow⟩⟩
  · have hE' : (rgE s j i != 0) = true := by simpa using hE
    have HE := Lib.hid hE
    clear hE
    have bR : Blk w1 (w.heap.size + 1) 53 #[.int .i64 0, .int .i64 0, .int .i64 0, .slice none 0 0] := Blk.belowAll (by (repeat' (first | (with_reducible assumption) | exact Blk.new' (by simp) | refine Blk.alloc ?_ _))) hb1
    have B1 : Below w.heap.size w w1 := below2 hb1
    clear hb1
    have cR := bR.cells
    have fR := bR.free
    have lR := bR.lt
    go_wp2_with fail
    refine bodyPost_ret (v := .tuple #[.agg #[.int .i64 0, .int .i64 0, .int .i64 0, .slice none 0 0], .int .i64 (rgE s j i)]) (by simp [results, Tryz.results44, go_sem, cR, lR]) rfl ?_
    exact ⟨by (repeat' (first | (with_reducible exact Below.refl _ _) | (with_reducible assumption) | (with_reducible refine Below.alloc ?_ ?_ _) | (with_reducible refine Below.drew ?_) | (with_reducible refine below_drewN' ?_ _) | (with_reducible refine Below.setCell ?_ ?_ _) | (with_reducible exact Nat.le_refl _) | omega | (simp; done) | (simp; omega))), .inl ⟨HE.out, rfl⟩⟩
  · have hE' : (rgE s j i != 0) = false := by simpa using hE
    have HE := Lib.hid hE
    clear hE
    have bR : Blk w1 (w.heap.size + 1) 53 #[.int .i64 0, .int .i64 0, .int .i64 0, .slice none 0 0] := Blk.belowAll (by (repeat' (first | (with_reducible assumption) | exact Blk.new' (by simp) | refine Blk.alloc ?_ _))) hb1
    have B1 : Below w.heap.size w w1 := below2 hb1
    clear hb1
    have cR := bR.cells
    have fR := bR.free
    have lR := bR.lt
    have bQ0 : Blk w1 g 4 (fill (.bool false) (rgB s j i).toNat) := hrow
    by_cases h96 : xs.length = 96
    · have hn : ((xs.length : Int) != 96) = false := by rw [h96]; rfl
      unfold DecPost
      generalize hNN : (rgB s j i).toNat = n at *
      have NN := Lib.hid hNN
      clear hNN
      have bQ : Blk w1 g 4 (boolsV (decS xs n 0)) := by rw [show decS xs n 0 = List.replicate n false from rfl, boolsV_rep]; exact bQ0
      clear hrow bQ0
      go_wp2_with fail
      have bW : Blk (w1.alloc (.cells #[.int .i64 s, .int .i64 j, .int .i64 i, .slice (some ⟨g, 0, none⟩) n n] 53)) w1.heap.size 53 #[.int .i64 s, .int .i64 j, .int .i64 i, .slice (some ⟨g, 0, none⟩) n n] := Blk.new _ _ _
      have bQ1 := bQ.alloc (.cells #[.int .i64 s, .int .i64 j, .int .i64 i, .slice (some ⟨g, 0, none⟩) n n] 53)
      have bR1 := bR.alloc (.cells #[.int .i64 s, .int .i64 j, .int .i64 i, .slice (some ⟨g, 0, none⟩) n n] 53)
      have B2 := B1.alloc B1.size (.cells #[.int .i64 s, .int .i64 j, .int .i64 i, .slice (some ⟨g, 0, none⟩) n n] 53)
      have hg2 : w.heap.size + 2 ≤ g := by simpa using hg
      have hgl : g < w1.heap.size := bQ.lt
      clear cR fR hg
      go_loopw [28] (fun q wr => ∃ k : Nat, k ≤ 768 ∧ q = .int .i64 k ∧ Blk wr g 4 (boolsV (decS xs n k)) ∧ Blk wr (w.heap.size + 1) 53 #[.int .i64 0, .int .i64 0, .int .i64 0, .slice none 0 0] ∧ Blk wr w1.heap.size 53 #[.int .i64 s, .int .i64 j, .int .i64 i, .slice (some ⟨g, 0, none⟩) n n] ∧ noneAfter xs n k ∧ Below w.heap.size w wr) (fun q _ => 768 - (intOf q).toNat)
      case atStart => exact ⟨0, Nat.zero_le _, rfl, bQ1, bR1, bW, fun b _ h => absurd h (by omega), B2⟩
      case round =>
        obtain ⟨k, hk, rfl, bQ, bR, bW, hno, hnx⟩ := hrel
        have cQ := bQ.cells
        have fQ := bQ.free
        have cR := bR.cells
        have fR := bR.free
        have cW := bW.cells
        by_cases hlt : k < 768
        · have hk8 : k / 8 < xs.length := by omega
          obtain ⟨b, off, rfl, hb, hc⟩ := (hR.below hnx).at_ (k := k / 8) (by simpa using hk8)
          rw [List.getElem_map] at hc
          have hq8 : 0 ≤ (k : Int) / 8 ∧ (k : Int) / 8 < 96 := by omega
          have hbit : bitAt xs k = bitOf xs[k / 8] (k % 8) := by unfold bitAt; simp [hk8]
          have HB := Lib.hid hbit
          clear hbit
          generalize xs[k / 8] = x at hc HB
          by_cases hkn : k < n
          · have hd := decide_eq_true hkn
            have hcQ : wr.cell? ⟨g, k, none⟩ = some (.bool ((decS xs n k).getD k false)) := by rw [bQ.cells]; exact boolsV_get (by rw [decS_length]; exact hkn)
            have hs := Lib.hid (decS_in (xs := xs) hkn)
            clear cQ
            go_wp2_with fail
            go_roundw
            case rel => exact ⟨k + 1, by omega, by go_num, by rw [hs.out, HB.out, ← boolsV_set]; exact bQ.set_ _ _, bR.far (by simp; omega) _, bW.far (by simp; omega) _, fun b h1 h2 => hno b h1 (by omega), by (repeat' (first | (with_reducible exact Below.refl _ _) | (with_reducible assumption) | (with_reducible refine Below.alloc ?_ ?_ _) | (with_reducible refine Below.drew ?_) | (with_reducible refine below_drewN' ?_ _) | (with_reducible refine Below.setCell ?_ ?_ _) | (with_reducible exact Nat.le_refl _) | omega | (simp; done) | (simp; omega)))⟩
            case measure => simp [intOf]; omega
          · have hd := decide_eq_false hkn
            have hs := Lib.hid (decS_out (xs := xs) hkn)
            clear cQ
            cases hbt : bitOf x (k % 8)
            · have hbt' : (bits BinOp.and IntKind.u8 (x / 2 ^ (k % 8)) 1 == 1) = false := hbt
              have HT := Lib.hid hbt
              clear hbt
              go_wp2_with fail
              go_roundw
              case rel => exact ⟨k + 1, by omega, by go_num, by rw [hs.out]; exact bQ, bR, bW, fun b h1 h2 => by
                by_cases hbk : b = k
                · subst hbk; rw [HB.out, HT.out]
                · exact hno b h1 (by omega), hnx⟩
              case measure => simp [intOf]; omega
            · have hbt' : (bits BinOp.and IntKind.u8 (x / 2 ^ (k % 8)) 1 == 1) = true := hbt
              have HT := Lib.hid hbt
              clear hbt
              have lR := bR.lt
              go_wp2_with fail
              refine bodyPost_ret (v := .tuple #[.agg #[.int .i64 0, .int .i64 0, .int .i64 0, .slice none 0 0], .int .i64 6]) (by simp [results, Tryz.results44, go_sem, cR, lR]) rfl ?_
              exact ⟨by (repeat' (first | (with_reducible exact Below.refl _ _) | (with_reducible assumption) | (with_reducible refine Below.alloc ?_ ?_ _) | (with_reducible refine Below.drew ?_) | (with_reducible refine below_drewN' ?_ _) | (with_reducible refine Below.setCell ?_ ?_ _) | (with_reducible exact Nat.le_refl _) | omega | (simp; done) | (simp; omega))), .inr (.inr (.inl ⟨HE.out, h96, fun h => (by rw [NN.out] at h; have := h k (by omega) hlt; rw [HB.out, HT.out] at this; cases this), rfl⟩))⟩
        · obtain rfl : k = 768 := by omega
          have lR := bR.lt
          have lQ := bQ.lt
          clear cQ
          go_wp2_with fail
          refine bodyPost_ret (v := .tuple #[.agg #[.int .i64 s, .int .i64 j, .int .i64 i, .slice (some ⟨g, 0, none⟩) n n], .int .i64 0]) (by simp [results, Tryz.results44, go_sem, cR, lR]) rfl ?_
          have hnn : noneAfter xs (rgB s j i).toNat 768 := by rw [NN.out]; exact hno
          refine ⟨by (repeat' (first | (with_reducible exact Below.refl _ _) | (with_reducible assumption) | (with_reducible refine Below.alloc ?_ ?_ _) | (with_reducible refine Below.drew ?_) | (with_reducible refine below_drewN' ?_ _) | (with_reducible refine Below.setCell ?_ ?_ _) | (with_reducible exact Nat.le_refl _) | omega | (simp; done) | (simp; omega))), .inr (.inr (.inr ⟨HE.out, h96, hnn, g, by rw [NN.out], by omega, ?_⟩))⟩
          rw [NN.out]
          exact reads_bools (t := 4) (by (repeat' (first | (with_reducible exact bQ) | refine Blk.far ?_ (by simp; omega) _)))
    · have hn : ((xs.length : Int) != 96) = true := by simp; omega
      go_wp2_with fail
      refine bodyPost_ret (v := .tuple #[.agg #[.int .i64 0, .int .i64 0, .int .i64 0, .slice none 0 0], .int .i64 3]) (by simp [results, Tryz.results44, go_sem, cR, lR]) rfl ?_
      exact ⟨by (repeat' (first | (with_reducible exact Below.refl _ _) | (with_reducible assumption) | (with_reducible refine Below.alloc ?_ ?_ _) | (with_reducible refine Below.drew ?_) | (with_reducible refine below_drewN' ?_ _) | (with_reducible refine Below.setCell ?_ ?_ _) | (with_reducible exact Nat.le_refl _) | omega | (simp; done) | (simp; omega))), .inr (.inl ⟨HE.out, h96, rfl⟩)⟩

end Go.Proofs.YtloddiipepiocaaGreatDoor
