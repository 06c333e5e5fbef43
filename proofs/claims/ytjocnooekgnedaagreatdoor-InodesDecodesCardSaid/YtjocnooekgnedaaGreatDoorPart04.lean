/- Parts of the proof, put together by program: D1, Q1, C1, R0. -/
import Derived.Test.YtjocnooekgnedaaGreatDoorPart03
import Derived.RangeFuncNested
import Derived.RangeFuncBound
import Derived.RangeFuncCalls
import Derived.RangeFuncLeaves
import Derived.RangeFuncBox
import Derived.Shelf.Abstract
import Derived.Shelf.RegionOpen
import Derived.OwnWalkIn
import Derived.TacticsInMore
import Derived.LoopNIn
import Derived.LoopIn
set_option linter.unusedVariables false
set_option linter.unusedSimpArgs false
/- Decode. -/
namespace Go.Proofs.YtjocnooekgnedaaGreatDoor
open Go.RowKit

def bitOf (x : Int) (m : Nat) : Bool := bits BinOp.and IntKind.u8 (x / 2 ^ m) 1 == 1
/-- Bit k of a row of bytes. -/
def bitAt (xs : List Int) (k : Nat) : Bool := bitOf (xs.getD (k / 8) 0) (k % 8)
/-- The blocks when k bits have been looked at. -/
def decS (xs : List Int) (n : Nat) : Nat → List Bool
  | 0 => List.replicate n false
  | k + 1 => if k < n then (decS xs n k).set k (bitAt xs k) else decS xs n k
theorem decS_length (xs : List Int) (n k : Nat) : (decS xs n k).length = n := by
  induction k with
  | zero => simp [decS]
  | succ k ih => unfold decS; split <;> simp [ih]
theorem decS_in {xs : List Int} {n k : Nat} (h : k < n) : decS xs n (k + 1) = (decS xs n k).set k (bitAt xs k) := by
  show (if k < n then _ else _) = _
  rw [if_pos h]
theorem decS_out {xs : List Int} {n k : Nat} (h : ¬ k < n) : decS xs n (k + 1) = decS xs n k := by
  show (if k < n then _ else _) = _
  rw [if_neg h]
theorem decS_at (xs : List Int) (n k b : Nat) (hb : b < n) : (decS xs n k)[b]? = some (if b < k then bitAt xs b else false) := by
  induction k with
  | zero => simp [decS, hb]
  | succ k ih =>
    by_cases hk : k < n
    · rw [decS_in hk, List.getElem?_set]
      by_cases h : k = b
      · subst h; simp [decS_length, hk]
      · rw [if_neg h, ih]
        by_cases h2 : b < k
        · rw [if_pos h2, if_pos (by omega)]
        · rw [if_neg h2, if_neg (by omega)]
    · rw [decS_out hk, ih]
      rw [if_pos (by omega), if_pos (by omega)]

def boolsV (l : List Bool) : Array Value := (l.map Value.bool).toArray
theorem boolsV_rep (n : Nat) : boolsV (List.replicate n false) = fill (.bool false) n := by rw [fill_eq]; unfold boolsV; simp
theorem boolsV_set (l : List Bool) (m : Nat) (x : Bool) : (boolsV l).setIfInBounds m (.bool x) = boolsV (l.set m x) := by
  unfold boolsV; simp [List.map_set]
theorem boolsV_get {l : List Bool} {m : Nat} (h : m < l.length) : (boolsV l)[m]? = some (.bool (l.getD m false)) := by
  unfold boolsV; simp [h]

theorem reads_bools {w : World} {g : Nat} {t : TypeId} {l : List Bool} (h : Blk w g t (boolsV l)) : Reads w (some ⟨g, 0, none⟩) (l.map Value.bool) :=
  .inr ⟨g, 0, rfl, h.lt, fun j u hu => by rw [h.cells, Nat.zero_add]; unfold boolsV; simpa using hu⟩

/-- The first bit from n on that is set, if there is one below k. -/
def noneAfter (xs : List Int) (n k : Nat) : Prop := ∀ b, n ≤ b → b < k → bitAt xs b = false

def DecPost (s j i : Int) (xs : List Int) (w : World) (e : Ending) (w' : World) : Prop :=
  Below w.heap.size w w' ∧
    ((rgE s j i ≠ 0 ∧ e = .returned (.tuple #[.agg #[.int .i64 0, .int .i64 0, .int .i64 0, .slice none 0 0], .int .i64 (rgE s j i)])) ∨
    (rgE s j i = 0 ∧ xs.length ≠ 96 ∧ e = .returned (.tuple #[.agg #[.int .i64 0, .int .i64 0, .int .i64 0, .slice none 0 0], .int .i64 3])) ∨
    (rgE s j i = 0 ∧ xs.length = 96 ∧ ¬ noneAfter xs (rgB s j i).toNat 768 ∧ e = .returned (.tuple #[.agg #[.int .i64 0, .int .i64 0, .int .i64 0, .slice none 0 0], .int .i64 6])) ∨
    (rgE s j i = 0 ∧ xs.length = 96 ∧ noneAfter xs (rgB s j i).toNat 768 ∧ ∃ g, e = .returned (.tuple #[.agg #[.int .i64 s, .int .i64 j, .int .i64 i, .slice (some ⟨g, 0, none⟩) (rgB s j i).toNat (rgB s j i).toNat], .int .i64 0]) ∧
      w.heap.size ≤ g ∧ Reads w' (some ⟨g, 0, none⟩) ((decS xs (rgB s j i).toNat 768).map .bool)))

set_option maxRecDepth 100000 in
set_option maxHeartbeats 2000000 in
theorem decode_any (s j i : Int) (A : Option Addr) (c : Nat) (xs : List Int) (hml : xs.length ≤ maxLen) (w : World) (hR : Reads w A (xs.map (.int .u8))) :
    Calls Tryz.prog 76 #[.agg #[.int .i64 s, .int .i64 j, .int .i64 i], .slice A xs.length c] w (DecPost s j i xs w) := by
  go_enter Tryz.func76, Tryz.ntmps76
  go_wp2_with fail
  refine (new_any s j i _).mono ?_
  rintro e w1 ⟨hb1, ⟨hE, rfl⟩ | ⟨hE, g, rfl, hg, hrow⟩⟩
  · have hE' : (rgE s j i != 0) = true := by simpa using hE
    have HE := Lib.hid hE
    clear hE
    have bR : Blk w1 (w.heap.size + 1) 58 #[.int .i64 0, .int .i64 0, .int .i64 0, .slice none 0 0] := Blk.belowAll (by (repeat' (first | (with_reducible assumption) | exact Blk.new' (by simp) | refine Blk.alloc ?_ _))) hb1
    have B1 : Below w.heap.size w w1 := below2 hb1
    clear hb1
    have cR := bR.cells
    have fR := bR.free
    have lR := bR.lt
    go_wp2_with fail
    refine bodyPost_ret (v := .tuple #[.agg #[.int .i64 0, .int .i64 0, .int .i64 0, .slice none 0 0], .int .i64 (rgE s j i)]) (by simp [results, Tryz.results76, go_sem, cR, lR]) rfl ?_
    exact ⟨by (repeat' (first | (with_reducible exact Below.refl _ _) | (with_reducible assumption) | (with_reducible refine Below.alloc ?_ ?_ _) | (with_reducible refine Below.drew ?_) | (with_reducible refine below_drewN' ?_ _) | (with_reducible refine Below.setCell ?_ ?_ _) | (with_reducible exact Nat.le_refl _) | omega | (simp; done) | (simp; omega))), .inl ⟨HE.out, rfl⟩⟩
  · have hE' : (rgE s j i != 0) = false := by simpa using hE
    have HE := Lib.hid hE
    clear hE
    have bR : Blk w1 (w.heap.size + 1) 58 #[.int .i64 0, .int .i64 0, .int .i64 0, .slice none 0 0] := Blk.belowAll (by (repeat' (first | (with_reducible assumption) | exact Blk.new' (by simp) | refine Blk.alloc ?_ _))) hb1
    have B1 : Below w.heap.size w w1 := below2 hb1
    clear hb1
    have cR := bR.cells
    have fR := bR.free
    have lR := bR.lt
    have bQ0 : Blk w1 g 4 (fill (.bool false) (rgB s j i).toNat) := hrow
    by_cases h96 : xs.length = 96
    · have hn : ((xs.length : Int) != 96) = false := by rw [h96]; rfl
      unfold DecPost
      generalize hNN : (rgB s j i).toNat = n at *
      have NN := Lib.hid hNN
      clear hNN
      have bQ : Blk w1 g 4 (boolsV (decS xs n 0)) := by rw [show decS xs n 0 = List.replicate n false from rfl, boolsV_rep]; exact bQ0
      clear hrow bQ0
      go_wp2_with fail
      have bW : Blk (w1.alloc (.cells #[.int .i64 s, .int .i64 j, .int .i64 i, .slice (some ⟨g, 0, none⟩) n n] 58)) w1.heap.size 58 #[.int .i64 s, .int .i64 j, .int .i64 i, .slice (some ⟨g, 0, none⟩) n n] := Blk.new _ _ _
      have bQ1 := bQ.alloc (.cells #[.int .i64 s, .int .i64 j, .int .i64 i, .slice (some ⟨g, 0, none⟩) n n] 58)
      have bR1 := bR.alloc (.cells #[.int .i64 s, .int .i64 j, .int .i64 i, .slice (some ⟨g, 0, none⟩) n n] 58)
      have B2 := B1.alloc B1.size (.cells #[.int .i64 s, .int .i64 j, .int .i64 i, .slice (some ⟨g, 0, none⟩) n n] 58)
      have hg2 : w.heap.size + 2 ≤ g := by simpa using hg
      have hgl : g < w1.heap.size := bQ.lt
      clear cR fR hg
      go_loopw [28] (fun q wr => ∃ k : Nat, k ≤ 768 ∧ q = .int .i64 k ∧ Blk wr g 4 (boolsV (decS xs n k)) ∧ Blk wr (w.heap.size + 1) 58 #[.int .i64 0, .int .i64 0, .int .i64 0, .slice none 0 0] ∧ Blk wr w1.heap.size 58 #[.int .i64 s, .int .i64 j, .int .i64 i, .slice (some ⟨g, 0, none⟩) n n] ∧ noneAfter xs n k ∧ Below w.heap.size w wr) (fun q _ => 768 - (intOf q).toNat)
      case atStart => exact ⟨0, Nat.zero_le _, rfl, bQ1, bR1, bW, fun b _ h => absurd h (by omega), B2⟩
      case round =>
        obtain ⟨k, hk, rfl, bQ, bR, bW, hno, hnx⟩ := hrel
        have cQ := bQ.cells
        have fQ := bQ.free
        have cR := bR.cells
        have fR := bR.free
        have cW := bW.cells
        by_cases hlt : k < 768
        · have hk8 : k / 8 < xs.length := by omega
          obtain ⟨b, off, rfl, hb, hc⟩ := (hR.below hnx).at_ (k := k / 8) (by simpa using hk8)
          rw [List.getElem_map] at hc
          have hq8 : 0 ≤ (k : Int) / 8 ∧ (k : Int) / 8 < 96 := by omega
          have hbit : bitAt xs k = bitOf xs[k / 8] (k % 8) := by unfold bitAt; simp [hk8]
          have HB := Lib.hid hbit
          clear hbit
          generalize xs[k / 8] = x at hc HB
          by_cases hkn : k < n
          · have hd := decide_eq_true hkn
            have hcQ : wr.cell? ⟨g, k, none⟩ = some (.bool ((decS xs n k).getD k false)) := by rw [bQ.cells]; exact boolsV_get (by rw [decS_length]; exact hkn)
            have hs := Lib.hid (decS_in (xs := xs) hkn)
            clear cQ
            go_wp2_with fail
            go_roundw
            case rel => exact ⟨k + 1, by omega, by go_num, by rw [hs.out, HB.out, ← boolsV_set]; exact bQ.set_ _ _, bR.far (by simp; omega) _, bW.far (by simp; omega) _, fun b h1 h2 => hno b h1 (by omega), by (repeat' (first | (with_reducible exact Below.refl _ _) | (with_reducible assumption) | (with_reducible refine Below.alloc ?_ ?_ _) | (with_reducible refine Below.drew ?_) | (with_reducible refine below_drewN' ?_ _) | (with_reducible refine Below.setCell ?_ ?_ _) | (with_reducible exact Nat.le_refl _) | omega | (simp; done) | (simp; omega)))⟩
            case measure => simp [intOf]; omega
          · have hd := decide_eq_false hkn
            have hs := Lib.hid (decS_out (xs := xs) hkn)
            clear cQ
            cases hbt : bitOf x (k % 8)
            · have hbt' : (bits BinOp.and IntKind.u8 (x / 2 ^ (k % 8)) 1 == 1) = false := hbt
              have HT := Lib.hid hbt
              clear hbt
              go_wp2_with fail
              go_roundw
              case rel => exact ⟨k + 1, by omega, by go_num, by rw [hs.out]; exact bQ, bR, bW, fun b h1 h2 => by
                by_cases hbk : b = k
                · subst hbk; rw [HB.out, HT.out]
                · exact hno b h1 (by omega), hnx⟩
              case measure => simp [intOf]; omega
            · have hbt' : (bits BinOp.and IntKind.u8 (x / 2 ^ (k % 8)) 1 == 1) = true := hbt
              have HT := Lib.hid hbt
              clear hbt
              have lR := bR.lt
              go_wp2_with fail
              refine bodyPost_ret (v := .tuple #[.agg #[.int .i64 0, .int .i64 0, .int .i64 0, .slice none 0 0], .int .i64 6]) (by simp [results, Tryz.results76, go_sem, cR, lR]) rfl ?_
              exact ⟨by (repeat' (first | (with_reducible exact Below.refl _ _) | (with_reducible assumption) | (with_reducible refine Below.alloc ?_ ?_ _) | (with_reducible refine Below.drew ?_) | (with_reducible refine below_drewN' ?_ _) | (with_reducible refine Below.setCell ?_ ?_ _) | (with_reducible exact Nat.le_refl _) | omega | (simp; done) | (simp; omega))), .inr (.inr (.inl ⟨HE.out, h96, fun h => (by rw [NN.out] at h; have := h k (by omega) hlt; rw [HB.out, HT.out] at this; cases this), rfl⟩))⟩
        · obtain rfl : k = 768 := by omega
          have lR := bR.lt
          have lQ := bQ.lt
          clear cQ
          go_wp2_with fail
          refine bodyPost_ret (v := .tuple #[.agg #[.int .i64 s, .int .i64 j, .int .i64 i, .slice (some ⟨g, 0, none⟩) n n], .int .i64 0]) (by simp [results, Tryz.results76, go_sem, cR, lR]) rfl ?_
          have hnn : noneAfter xs (rgB s j i).toNat 768 := by rw [NN.out]; exact hno
          refine ⟨by (repeat' (first | (with_reducible exact Below.refl _ _) | (with_reducible assumption) | (with_reducible refine Below.alloc ?_ ?_ _) | (with_reducible refine Below.drew ?_) | (with_reducible refine below_drewN' ?_ _) | (with_reducible refine Below.setCell ?_ ?_ _) | (with_reducible exact Nat.le_refl _) | omega | (simp; done) | (simp; omega))), .inr (.inr (.inr ⟨HE.out, h96, hnn, g, by rw [NN.out], by omega, ?_⟩))⟩
          rw [NN.out]
          exact reads_bools (t := 4) (by (repeat' (first | (with_reducible exact bQ) | refine Blk.far ?_ (by simp; omega) _)))
    · have hn : ((xs.length : Int) != 96) = true := by simp; omega
      go_wp2_with fail
      refine bodyPost_ret (v := .tuple #[.agg #[.int .i64 0, .int .i64 0, .int .i64 0, .slice none 0 0], .int .i64 3]) (by simp [results, Tryz.results76, go_sem, cR, lR]) rfl ?_
      exact ⟨by (repeat' (first | (with_reducible exact Below.refl _ _) | (with_reducible assumption) | (with_reducible refine Below.alloc ?_ ?_ _) | (with_reducible refine Below.drew ?_) | (with_reducible refine below_drewN' ?_ _) | (with_reducible refine Below.setCell ?_ ?_ _) | (with_reducible exact Nat.le_refl _) | omega | (simp; done) | (simp; omega))), .inr (.inl ⟨HE.out, h96, rfl⟩)⟩

end Go.Proofs.YtjocnooekgnedaaGreatDoor
/- Decode of Encode and Encode of Decode, in plain Lean. -/
namespace Go.Proofs.YtjocnooekgnedaaGreatDoor
open Go.RowKit

theorem orv_tab : ∀ x : Fin 256, ∀ m m' : Fin 8, bitOf (orv (x.val : Int) m.val) m'.val = (bitOf (x.val : Int) m'.val || m'.val == m.val) := by decide +kernel
theorem orv_rng : ∀ x : Fin 256, ∀ m : Fin 8, 0 ≤ orv (x.val : Int) m.val ∧ orv (x.val : Int) m.val < 256 := by decide +kernel
def ofBits (f : Nat → Bool) : Int :=
  (if f 0 then 1 else 0) + (if f 1 then 2 else 0) + (if f 2 then 4 else 0) + (if f 3 then 8 else 0) + (if f 4 then 16 else 0) + (if f 5 then 32 else 0) + (if f 6 then 64 else 0) + (if f 7 then 128 else 0)
theorem byte_bits : ∀ x : Fin 256, (x.val : Int) = ofBits (bitOf (x.val : Int)) := by decide +kernel
theorem bit_zero : ∀ m : Fin 8, bitOf 0 m.val = false := by decide +kernel

def Bytes (xs : List Int) : Prop := ∀ x ∈ xs, 0 ≤ x ∧ x < 256

theorem fin_of {x : Int} (h : 0 ≤ x ∧ x < 256) : ∃ y : Fin 256, x = (y.val : Int) := ⟨⟨x.toNat, by omega⟩, by simp; omega⟩
theorem orv_bit {x : Int} (h : 0 ≤ x ∧ x < 256) {m m' : Nat} (hm : m < 8) (hm' : m' < 8) : bitOf (orv x m) m' = (bitOf x m' || m' == m) := by
  obtain ⟨y, rfl⟩ := fin_of h
  exact orv_tab y ⟨m, hm⟩ ⟨m', hm'⟩
theorem orv_byte {x : Int} (h : 0 ≤ x ∧ x < 256) {m : Nat} (hm : m < 8) : 0 ≤ orv x m ∧ orv x m < 256 := by
  obtain ⟨y, rfl⟩ := fin_of h
  exact orv_rng y ⟨m, hm⟩
theorem byte_ext {x y : Int} (hx : 0 ≤ x ∧ x < 256) (hy : 0 ≤ y ∧ y < 256) (h : ∀ m, m < 8 → bitOf x m = bitOf y m) : x = y := by
  obtain ⟨a, rfl⟩ := fin_of hx
  obtain ⟨b, rfl⟩ := fin_of hy
  rw [byte_bits a, byte_bits b]
  unfold ofBits
  rw [h 0 (by omega), h 1 (by omega), h 2 (by omega), h 3 (by omega), h 4 (by omega), h 5 (by omega), h 6 (by omega), h 7 (by omega)]

theorem getD_bytes {xs : List Int} (h : Bytes xs) (k : Nat) : 0 ≤ xs.getD k 0 ∧ xs.getD k 0 < 256 := by
  by_cases hk : k < xs.length
  · rw [List.getD_eq_getElem?_getD, List.getElem?_eq_getElem hk]; exact h _ (List.getElem_mem hk)
  · rw [List.getD_eq_getElem?_getD, List.getElem?_eq_none (by omega)]; simp
theorem encL_bytes (us : List Bool) (k : Nat) : Bytes (encL us k) := by
  induction k with
  | zero => intro x hx; simp [encL] at hx; omega
  | succ k ih =>
    unfold encL
    split
    · intro x hx
      rcases List.mem_or_eq_of_mem_set hx with h | h
      · exact ih x h
      · subst h; exact orv_byte (getD_bytes ih _) (Nat.mod_lt _ (by omega))
    · exact ih
theorem bitAt_set {xs : List Int} {k b : Nat} {v : Int} (hk : k / 8 < xs.length) : bitAt (xs.set (k / 8) v) b = if b / 8 = k / 8 then bitOf v (b % 8) else bitAt xs b := by
  unfold bitAt
  rw [List.getD_eq_getElem?_getD, List.getD_eq_getElem?_getD, List.getElem?_set]
  by_cases h : b / 8 = k / 8
  · rw [if_pos h.symm, if_pos hk, if_pos h]; rfl
  · rw [if_neg (fun h' => h h'.symm), if_neg h]
theorem bitAt_encL {us : List Bool} (hl : us.length ≤ 768) {k : Nat} (hk : k ≤ us.length) (b : Nat) : bitAt (encL us k) b = (decide (b < k) && us.getD b false) := by
  induction k with
  | zero =>
    simp only [Nat.not_lt_zero, decide_false, Bool.false_and]
    unfold bitAt
    have : (encL us 0).getD (b / 8) 0 = 0 := by
      show (List.replicate 96 (0:Int)).getD (b / 8) 0 = 0
      rw [List.getD_eq_getElem?_getD, List.getElem?_replicate]
      split <;> rfl
    rw [this]
    exact bit_zero ⟨b % 8, Nat.mod_lt _ (by omega)⟩
  | succ k ih =>
    have ih := ih (by omega)
    have hku : us[k]? = some us[k] := List.getElem?_eq_getElem (by omega)
    by_cases hx : us[k] = true
    · rw [hx] at hku
      rw [encL_hit hku, bitAt_set (by rw [encL_length]; omega)]
      by_cases h : b / 8 = k / 8
      · rw [if_pos h, orv_bit (getD_bytes (encL_bytes us k) _) (Nat.mod_lt _ (by omega)) (Nat.mod_lt _ (by omega))]
        have hb : bitOf ((encL us k).getD (k / 8) 0) (b % 8) = bitAt (encL us k) b := by unfold bitAt; rw [h]
        rw [hb, ih]
        by_cases hbk : b = k
        · subst hbk; simp [List.getD_eq_getElem?_getD, hku]
        · have h1 : (b % 8 == k % 8) = false := by simp; omega
          have h2 : decide (b < k + 1) = decide (b < k) := by simp; omega
          rw [h1, h2, Bool.or_false]
      · rw [if_neg h, ih]
        have h2 : decide (b < k + 1) = decide (b < k) := by
          have : b ≠ k := fun hh => h (by rw [hh])
          simp; omega
        rw [h2]
    · have hx' : us[k] = false := by simpa using hx
      rw [hx'] at hku
      rw [encL_miss hku, ih]
      by_cases hbk : b = k
      · subst hbk; simp [List.getD_eq_getElem?_getD, hku]
      · have h2 : decide (b < k + 1) = decide (b < k) := by simp; omega
        rw [h2]
theorem bytes_ext {xs ys : List Int} {n : Nat} (hx : xs.length = n) (hy : ys.length = n) (bx : Bytes xs) (by_ : Bytes ys) (h : ∀ b, b < 8 * n → bitAt xs b = bitAt ys b) : xs = ys := by
  apply List.ext_getElem (by omega)
  intro k h1 h2
  refine byte_ext (bx _ (List.getElem_mem h1)) (by_ _ (List.getElem_mem h2)) fun m hm => ?_
  have := h (8 * k + m) (by omega)
  unfold bitAt at this
  rw [show (8 * k + m) / 8 = k by omega, show (8 * k + m) % 8 = m by omega, List.getD_eq_getElem?_getD, List.getD_eq_getElem?_getD, List.getElem?_eq_getElem h1, List.getElem?_eq_getElem h2] at this
  exact this

theorem dec_enc {us : List Bool} (hl : us.length ≤ 768) : decS (encL us us.length) us.length 768 = us ∧ noneAfter (encL us us.length) us.length 768 := by
  constructor
  · apply List.ext_getElem? 
    intro b
    by_cases hb : b < us.length
    · rw [decS_at _ _ _ _ hb, if_pos (by omega), bitAt_encL hl (Nat.le_refl _), List.getElem?_eq_getElem hb]
      simp [List.getD_eq_getElem?_getD, hb]
    · rw [List.getElem?_eq_none (by rw [decS_length]; omega), List.getElem?_eq_none (by omega)]
  · intro b hb _
    rw [bitAt_encL hl (Nat.le_refl _)]
    have : decide (b < us.length) = false := by simp; omega
    rw [this, Bool.false_and]
theorem enc_dec {xs : List Int} {n : Nat} (hn : n ≤ 768) (hx : xs.length = 96) (bx : Bytes xs) (h : noneAfter xs n 768) : encL (decS xs n 768) n = xs := by
  have hl : (decS xs n 768).length = n := decS_length _ _ _
  refine bytes_ext (n := 96) (encL_length _ _) hx (encL_bytes _ _) bx fun b hb => ?_
  rw [bitAt_encL (by omega) (by omega)]
  by_cases hbn : b < n
  · have := decS_at xs n 768 b hbn
    rw [if_pos (by omega)] at this
    simp [List.getD_eq_getElem?_getD, this, hbn]
  · rw [h b (by omega) (by omega)]
    simp [hbn]

end Go.Proofs.YtjocnooekgnedaaGreatDoor
/- Layer 4: the checksum. -/
namespace Go.Proofs.YtjocnooekgnedaaGreatDoor
open Go.RowKit

def halfL : List Int := [0x00000000, 0x1db71064, 0x3b6e20c8, 0x26d930ac, 0x76dc4190, 0x6b6b51f4, 0x4db26158, 0x5005713c, 0xedb88320, 0xf00f9344, 0xd6d6a3e8, 0xcb61b38c, 0x9b64c2b0, 0x86d3d2d4, 0xa00ae278, 0xbdbdf21c]
/-- Four steps. -/
def nib (x : Int) : Int := bits .xor .u32 (halfL.getD (bits .and .u32 x 15).toNat 0) (x / 16)
def crcB (x c : Int) : Int := nib (nib (bits .xor .u32 x c))
def crcL (x : Int) (l : List Int) : Int := l.foldl crcB x
theorem crcL_snoc (x : Int) (l : List Int) (k : Nat) (h : k < l.length) : crcL x (l.take (k + 1)) = crcB (crcL x (l.take k)) l[k] := by
  unfold crcL; rw [List.take_succ_eq_append_getElem h, List.foldl_append]; rfl
def crc (l : List Int) : Int := bits .xor .u32 IntKind.u32.max (crcL 4294967295 l)

/-- The table, as it stands in memory. -/
def HalfAt (w : World) : Prop := 0 < w.heap.size ∧ ∀ j, j < 16 → w.cell? ⟨0, j, none⟩ = some (.int .u32 (halfL.getD j 0))
theorem HalfAt.below {w w' : World} {B : Nat} (h : HalfAt w) (hb : Below B w w') (hB : 0 < B) : HalfAt w' :=
  ⟨Nat.lt_of_lt_of_le h.1 hb.size, fun j hj => (hb.cell (p := ⟨0, j, none⟩) hB).trans (h.2 j hj)⟩

theorem and15 (x : Int) : ∃ n : Nat, bits .and .u32 x 15 = (n : Int) ∧ n < 16 := by
  refine ⟨(bits .and .u32 x 15).toNat, ?_, ?_⟩
  · rw [Int.toNat_of_nonneg (bits_lo_u32 _ _ _)]
  · have h : bits .and .u32 x 15 = IntKind.u32.wrap ((BitVec.ofInt 32 x &&& BitVec.ofInt 32 15).toNat : Int) := rfl
    have h2 : (BitVec.ofInt 32 x &&& BitVec.ofInt 32 15).toNat ≤ 15 := by
      rw [BitVec.toNat_and]
      exact Nat.le_trans Nat.and_le_right (by decide)
    have h3 : IntKind.u32.wrap ((BitVec.ofInt 32 x &&& BitVec.ofInt 32 15).toNat : Int) = ((BitVec.ofInt 32 x &&& BitVec.ofInt 32 15).toNat : Int) := by
      rw [IntKind.wrap_u32]; omega
    rw [h, h3]; omega

set_option maxRecDepth 100000 in
set_option maxHeartbeats 1000000 in
theorem put_any (R : Nat) (A : Option Addr) (c : Nat) (xs : List Int) (hl : xs.length ≤ 100000) (hbx : Bytes xs) (r0 : Int) (w : World) (hH : HalfAt w) (hX : Reads w A (xs.map (.int .u8))) (bR : Blk w R 283 #[.int .u32 r0]) :
    Calls Tryz.prog 191 #[.pointer (some ⟨R, 0, none⟩), .slice A xs.length c] w fun e w' => (∃ v, e = .returned v) ∧ w' = w.setCell ⟨R, 0, none⟩ (.int .u32 (crcL r0 xs)) := by
  have cR := bR.cells
  have fR := bR.free
  have lR := bR.lt
  obtain ⟨h0, hH⟩ := hH
  have HH := Lib.hid hH
  clear hH
  go_enter Tryz.func191, Tryz.ntmps191
  go_wp2_with fail
  go_loopw [4, 6, 12] (fun x _ q wr => ∃ k : Nat, k ≤ xs.length ∧ q = .int .i64 k ∧ x = .int .u32 (crcL r0 (xs.take k)) ∧ wr = w) (fun _ _ q _ => xs.length - (intOf q).toNat)
  case atStart => exact ⟨0, Nat.zero_le _, rfl, rfl, rfl⟩
  case round =>
    obtain ⟨k, hk, rfl, rfl, hw⟩ := hrel
    subst hw
    by_cases hlt : k < xs.length
    · obtain ⟨b, off, rfl, hb, hc⟩ := hX.at_ (k := k) (by simpa using hlt)
      rw [List.getElem_map] at hc
      have hs := Lib.hid (crcL_snoc r0 xs k hlt)
      generalize crcL r0 (xs.take k) = x at hs
      have hyb := hbx _ (List.getElem_mem hlt)
      generalize xs[k] = y at hc hs hyb
      have hym : y % 4294967296 = y := by omega
      obtain ⟨n1, hn1, hl1⟩ := and15 (bits .xor .u32 x y)
      have hc1 := HH.out n1 hl1
      have hx1 : crcB x y = nib (bits .xor .u32 (halfL.getD n1 0) (bits .xor .u32 x y / 16)) := by
        unfold crcB
        congr 1
        unfold nib
        rw [hn1]; rfl
      obtain ⟨n2, hn2, hl2⟩ := and15 (bits .xor .u32 (halfL.getD n1 0) (bits .xor .u32 x y / 16))
      have hc2 := HH.out n2 hl2
      have hx2 : crcB x y = bits .xor .u32 (halfL.getD n2 0) (bits .xor .u32 (halfL.getD n1 0) (bits .xor .u32 x y / 16) / 16) := by
        rw [hx1]
        conv => lhs; unfold nib
        rw [hn2]; rfl
      have HX := Lib.hid hx2
      clear hx1 hx2
      generalize halfL.getD n1 0 = y1 at *
      generalize halfL.getD n2 0 = y2 at *
      go_wp2_with fail
      go_roundw
      case rel => exact ⟨k + 1, by omega, by go_num, by rw [hs.out, HX.out], by first | trivial | rfl⟩
      case measure => simp [intOf]; omega
    · obtain rfl : k = xs.length := by omega
      rw [List.take_length]
      go_wp2_with fail
      go_end0
      exact ⟨⟨_, rfl⟩, rfl⟩

set_option maxHeartbeats 400000 in
theorem on_any (A : Option Addr) (c : Nat) (xs : List Int) (hl : xs.length ≤ 100000) (hbx : Bytes xs) (w : World) (hH : HalfAt w) (hX : Reads w A (xs.map (.int .u8))) :
    Calls Tryz.prog 187 #[.int .u32 0, .slice A xs.length c] w fun e w' => e = .returned (.int .u32 (crc xs)) ∧ Below w.heap.size w w' := by
  have hmf : ∀ (fn : Fn) (first cap : Array Value) (w : World), (Instr.makeFunc fn first cap).run Tryz.prog w = .ok (.func fn first cap) w := fun _ _ _ _ => rfl
  have hmx : bits BinOp.xor IntKind.u32 IntKind.u32.max 0 = 4294967295 := by decide
  go_enter Tryz.func187, Tryz.ntmps187
  go_wp2_with fail
  obtain ⟨W1, hW1⟩ : ∃ W1, W1 = w.alloc (.cells #[.int .u32 4294967295] 283) := ⟨_, rfl⟩
  rw [← hW1]
  have bR : Blk W1 w.heap.size 283 #[.int .u32 4294967295] := by rw [hW1]; exact Blk.new _ _ _
  have hB1 : Below w.heap.size w W1 := by rw [hW1]; exact (Below.refl _ _).alloc (Nat.le_refl _) _
  clear hW1
  refine (put_any w.heap.size A c xs hl hbx _ W1 (hH.below hB1 hH.1) (hX.below hB1) bR).mono ?_
  rintro e w' ⟨⟨v, rfl⟩, rfl⟩
  have bR2 := bR.set_ 0 (.int .u32 (crcL 4294967295 xs))
  have cR := bR2.cells
  have lR := bR.lt
  go_wp2_with fail
  go_ret
  exact ⟨rfl, by (repeat' (first | (with_reducible exact Below.refl _ _) | (with_reducible assumption) | (with_reducible refine Below.alloc ?_ ?_ _) | (with_reducible refine Below.drew ?_) | (with_reducible refine below_drewN' ?_ _) | (with_reducible refine Below.setCell ?_ ?_ _) | (with_reducible exact Nat.le_refl _) | omega | (simp; done) | (simp; omega)))⟩

set_option maxHeartbeats 400000 in
theorem crc_any (A : Option Addr) (c : Nat) (xs : List Int) (hl : xs.length ≤ 100000) (hbx : Bytes xs) (w : World) (hH : HalfAt w) (hX : Reads w A (xs.map (.int .u8))) :
    Calls Tryz.prog 168 #[.slice A xs.length c] w fun e w' => e = .returned (.int .u32 (crc xs)) ∧ Below w.heap.size w w' := by
  go_enter Tryz.func168, Tryz.ntmps168
  go_wp2_with fail
  refine (on_any A c xs hl hbx _ hH hX).mono ?_
  rintro e w' ⟨rfl, hb⟩
  go_wp2_with fail
  go_ret
  exact ⟨rfl, hb⟩

end Go.Proofs.YtjocnooekgnedaaGreatDoor
/- Worlds that are kept but for some blocks: for loops over iterators whose body writes boxes of the caller's. -/
namespace Go.Proofs.YtjocnooekgnedaaGreatDoor
open Go.RowKit Go.Shelf

/-- Below block B, but for the blocks bs, w' is as w was. -/
structure KeepEx (B : Nat) (bs : List Nat) (w w' : World) : Prop where
  os : w'.os = w.os
  tape : w'.tape = w.tape
  output : w'.output = w.output
  size : w.heap.size ≤ w'.heap.size
  block : ∀ k, k < B → k ∉ bs → w'.heap[k]? = w.heap[k]?

section
variable {B : Nat} {bs : List Nat} {w w' : World}
theorem KeepEx.refl (B : Nat) (bs : List Nat) (w : World) : KeepEx B bs w w := ⟨rfl, rfl, rfl, Nat.le_refl _, fun _ _ _ => rfl⟩
theorem KeepEx.trans {a b c : World} (h : KeepEx B bs a b) (k : KeepEx B bs b c) : KeepEx B bs a c :=
  ⟨k.os.trans h.os, k.tape.trans h.tape, k.output.trans h.output, Nat.le_trans h.size k.size, fun i hi hn => (k.block i hi hn).trans (h.block i hi hn)⟩
theorem KeepEx.of_below (h : Below B w w') : KeepEx B bs w w' := ⟨h.os, h.tape, h.output, h.size, fun k hk _ => h.block k hk⟩
theorem KeepEx.toBelow (h : KeepEx B bs w w') {B' : Nat} (hB : B' ≤ B) (hbs : ∀ k ∈ bs, B' ≤ k) : Below B' w w' :=
  ⟨h.os, h.tape, h.output, h.size, fun k hk => h.block k (by omega) (fun hm => by have := hbs k hm; omega)⟩
theorem KeepEx.setCell (W : World) {p : Addr} (hp : p.block ∈ bs ∨ B ≤ p.block) (u : Value) : KeepEx B bs W (W.setCell p u) :=
  ⟨rfl, rfl, rfl, by simp, fun k hk hn => Below.heap_setCell _ _ _ _ (fun e => by subst e; rcases hp with hp | hp; exact hn hp; omega)⟩
theorem KeepEx.grown {row : Option Nat} {W W' : World} (hg : W.grownBy W' row) (hB : B ≤ W.heap.size) (hr : ∀ k, row = some k → k ∈ bs ∨ B ≤ k) : KeepEx B bs W W' :=
  ⟨hg.os, hg.tape, hg.output, hg.size, fun k hk hn => hg.block k (by omega) (fun e => by rcases hr k e.symm with h | h; exact hn h; omega)⟩
theorem KeepEx.alloc (W : World) (hB : B ≤ W.heap.size) (o : Obj) : KeepEx B bs W (W.alloc o) := .of_below ((Below.refl _ _).alloc hB o)
theorem KeepEx.blk {g : Nat} {t : TypeId} {cs : Array Value} (h : KeepEx B bs w w') (hb : Blk w g t cs) (hg : g < B) (hn : g ∉ bs) : Blk w' g t cs := (h.block g hg hn).trans hb
theorem KeepEx.cell (h : KeepEx B bs w w') {p : Addr} (hp : p.block < B) (hn : p.block ∉ bs) : w'.cell? p = w.cell? p := World.cell?_of_block (w := w) (h.block p.block hp hn)
theorem keepEx_t {X Y Z : World} (h : KeepEx B bs X Y) (k : KeepEx B bs Y Z) : KeepEx B bs X Z := h.trans k
theorem keepEx_b {w : World} (hn : B ≤ w.heap.size) (W : World) (l : Nat) (o o' : Obj) (hl : w.heap.size ≤ l) (h : W.heap[l]? = some o) (_ : o.isCells = false) (_ : o.isWalk = false) : KeepEx B bs W (W.putObj l o') :=
  KeepEx.grown (grownBy_putObj' W l o') (by have := (Array.getElem?_eq_some_iff.1 h).1; omega) (fun k e => by cases e; right; omega)
theorem ownFrom_keepEx {β : Type} {C : Nat} {w₀ : World} (hn : B ≤ w₀.heap.size) (hB : B ≤ C) : OwnFrom C (fun (_ : β) W => KeepEx B bs w₀ W) :=
  fun _ _ _ _ hs hg hr => hs.trans (KeepEx.grown hg (Nat.le_trans hn hs.size) (fun k e => .inr (Nat.le_trans hB (hr k e).1)))
theorem ownFrom_pure' {β : Type} {C : Nat} {p : β → Prop} : OwnFrom C (fun (s : β) (_ : World) => p s) := fun _ _ _ _ hs _ _ => hs
end

/-- 'out = append(out, ..)' in a loop's body: all that the walk owes. -/
theorem box_appended {W w2 : World} {B base : Nat} {t e : TypeId} {size : Nat} {v v' : Value} {k m : Nat} {xs ys : List Value} {tmp : Obj}
    (hv : Boxed W B t v) (hrow : W.ownsRow base e size v k xs) (hB : B < base) (hsz : base ≤ W.heap.size) (hown' : w2.ownsRow base e size v' m ys) (hgrow : (W.alloc tmp).grownBy w2 v.ownBlock) :
    Boxed w2 B t v ∧ Boxed (w2.setCell ⟨B, 0, none⟩ v') B t v' ∧ (w2.setCell ⟨B, 0, none⟩ v').ownsRow base e size v' m ys ∧ KeepsOthers W (w2.setCell ⟨B, 0, none⟩ v') ∧ KeepEx base [B] W (w2.setCell ⟨B, 0, none⟩ v') := by
  have hrow' : ∀ k, v.ownBlock = some k → base ≤ k := fun k hk => (hrow.lt k hk).1
  have hv1 : Boxed w2 B t v := (hv.alloc tmp).kept hgrow (fun e' => by have := hrow' B e'.symm; omega)
  refine ⟨hv1, hv1.set v', ownsRow_setCell_below hown' hB v', ?_, ?_⟩
  · refine ((KeepsOthers.alloc W tmp).trans (KeepsOthers.of_grownBy hgrow fun j o ej hj => ?_)).trans (KeepsOthers.setCell _ _ _)
    rcases (hrow.alloc tmp).2 with ⟨rfl, _⟩ | ⟨g, cap, cur, rfl, _, hgb, _⟩
    · simp [Value.ownBlock] at ej
    · obtain rfl : g = j := by simpa [Value.ownBlock] using ej
      rw [hgb] at hj; cases hj; rfl
  · exact ((KeepEx.alloc W hsz tmp).trans (KeepEx.grown hgrow (by simp; omega) (fun k hk => .inr (hrow' k hk)))).trans (KeepEx.setCell _ (.inl (by simp)) _)

/-- Where a loop that may be left by 'break' and its end meet. -/
theorem range_meet {n : Nat} {P : Program} {c : Code} {K : Act → World → Prop} {Q' : Exit → Act → World → Prop} {a : Act} {w : World} (Post : Nat → World → Prop)
    (h : c.wpIn Fence.wide n P (fun e a' w' => (e = .normal ∨ e = .exit 0) ∧ ∃ D, a' = { a with defers := { target := .collected D, args := #[] } :: a.defers } ∧ Post D w') a w)
    (hk : ∀ D w', Post D w' → K { a with defers := { target := .collected D, args := #[] } :: a.defers } w') : c.wp P (Exit.inBlock 0 (Exit.then K Q')) a w :=
  wp_mono (wpIn_wide.1 h) (by
    rintro e a' w' ⟨he, D, rfl, hp⟩
    rcases he with rfl | rfl
    · exact hk D w' hp
    · exact hk D w' hp)
/-- A function whose body holds a range over a function: walked outside of the loop by the plain walk. -/
theorem calls_of_marks {P : Program} {f : FuncId} {fn : Func} {c : Code} {args : Array Value} {w : World} {R : Ending → World → Prop}
    (hf : P.funcs[f]? = some fn) (hb : fn.body = some c)
    (h : c.wp P (bodyPostM Fence.wide 9 P fn R) { tmps := args ++ Array.replicate (fn.ntmps - args.size) undef, defers := [] } w) : Calls P f args w R :=
  (callsIn_wide (n := 9)).1 (callsIn_of_wp_marks hf hb trivial (wpIn_wide.2 h) rfl)
theorem gen_world {C : World → Prop} {W : World} (F : World → Prop) (hF : F W) (h : ∀ W, F W → C W) : C W := h W hF
/-- At the return of a function whose body held a range over a function. -/
theorem marks_ret {n : Nat} {P : Program} {fn : Func} {R : Ending → World → Prop} {tmps : Array Value} {D : Nat} {W : World} (v : Value) (hKd : W.heap[D]? = some (.deferred (some [])))
    (hr : (results fn tmps).run P (W.putObj D (.deferred none)) = .ok v (W.putObj D (.deferred none))) (hR : R (.returned v) (W.putObj D (.deferred none))) :
    bodyPostM Fence.wide n P fn R .ret { tmps, defers := [{ target := .collected D, args := #[] }] } W :=
  ⟨by simp, .inl ⟨_, _, rfl, run_takeDeferred hKd, ⟨v, hr, hR⟩⟩⟩
theorem blk_put {W : World} {g : Nat} {t : TypeId} {cs : Array Value} {D : Nat} {o : Obj} (h : Blk W g t cs) (hD : g ≠ D) : Blk (W.putObj D o) g t cs := h.grown (grownBy_putObj' W D o) (by simpa using hD)
theorem below_put {w W : World} {D : Nat} {o : Obj} (h : Below w.heap.size w W) (hD : w.heap.size ≤ D) : Below w.heap.size w (W.putObj D o) := h.grown (grownBy_putObj' W D o) h.size (by intro k hk; cases hk; exact hD)
end Go.Proofs.YtjocnooekgnedaaGreatDoor
