/- Decode. -/
import Derived.Test.YtenfheheepkfbaaE1
namespace Go.Proofs.Ytenfheheepkfbaa
open Go.RowKit

def bitOf (x : Int) (m : Nat) : Bool := bits BinOp.and IntKind.u8 (x / 2 ^ m) 1 == 1
/-- Bit k of a row of bytes. -/
def bitAt (xs : List Int) (k : Nat) : Bool := bitOf (xs.getD (k / 8) 0) (k % 8)
/-- The blocks when k bits have been looked at. -/
def decS (xs : List Int) (n : Nat) : Nat → List Bool
  | 0 => List.replicate n false
  | k + 1 => if k < n then (decS xs n k).set k (bitAt xs k) else decS xs n k
theorem decS_length (xs : List Int) (n k : Nat) : (decS xs n k).length = n := by
  induction k with
  | zero => simp [decS]
  | succ k ih => unfold decS; split <;> simp [ih]
theorem decS_in {xs : List Int} {n k : Nat} (h : k < n) : decS xs n (k + 1) = (decS xs n k).set k (bitAt xs k) := by
  show (if k < n then _ else _) = _
  rw [if_pos h]
theorem decS_out {xs : List Int} {n k : Nat} (h : ¬ k < n) : decS xs n (k + 1) = decS xs n k := by
  show (if k < n then _ else _) = _
  rw [if_neg h]
theorem decS_at (xs : List Int) (n k b : Nat) (hb : b < n) : (decS xs n k)[b]? = some (if b < k then bitAt xs b else false) := by
  induction k with
  | zero => simp [decS, hb]
  | succ k ih =>
    by_cases hk : k < n
    · rw [decS_in hk, List.getElem?_set]
      by_cases h : k = b
      · subst h; simp [decS_length, hk]
      · rw [if_neg h, ih]
        by_cases h2 : b < k
        · rw [if_pos h2, if_pos (by omega)]
        · rw [if_neg h2, if_neg (by omega)]
    · rw [decS_out hk, ih]
      rw [if_pos (by omega), if_pos (by omega)]

def boolsV (l : List Bool) : Array Value := (l.map Value.bool).toArray
theorem boolsV_rep (n : Nat) : boolsV (List.replicate n false) = fill (.bool false) n := by rw [fill_eq]; unfold boolsV; simp
theorem boolsV_set (l : List Bool) (m : Nat) (x : Bool) : (boolsV l).setIfInBounds m (.bool x) = boolsV (l.set m x) := by
  unfold boolsV; simp [List.map_set]
theorem boolsV_get {l : List Bool} {m : Nat} (h : m < l.length) : (boolsV l)[m]? = some (.bool (l.getD m false)) := by
  unfold boolsV; simp [h]

theorem reads_bools {w : World} {g : Nat} {t : TypeId} {l : List Bool} (h : Blk w g t (boolsV l)) : Reads w (some ⟨g, 0, none⟩) (l.map Value.bool) :=
  .inr ⟨g, 0, rfl, h.lt, fun j u hu => by rw [h.cells, Nat.zero_add]; unfold boolsV; simpa using hu⟩

/-- The first bit from n on that is set, if there is one below k. -/
def noneAfter (xs : List Int) (n k : Nat) : Prop := ∀ b, n ≤ b → b < k → bitAt xs b = false

def DecPost (s j i : Int) (xs : List Int) (w : World) (e : Ending) (w' : World) : Prop :=
  Below w.heap.size w w' ∧
    ((rgE s j i ≠ 0 ∧ e = .returned (.tuple #[.agg #[.int .i64 0, .int .i64 0, .int .i64 0, .slice none 0 0], .int .i64 (rgE s j i)])) ∨
    (rgE s j i = 0 ∧ xs.length ≠ 96 ∧ e = .returned (.tuple #[.agg #[.int .i64 0, .int .i64 0, .int .i64 0, .slice none 0 0], .int .i64 3])) ∨
    (rgE s j i = 0 ∧ xs.length = 96 ∧ ¬ noneAfter xs (rgB s j i).toNat 768 ∧ e = .returned (.tuple #[.agg #[.int .i64 0, .int .i64 0, .int .i64 0, .slice none 0 0], .int .i64 6])) ∨
    (rgE s j i = 0 ∧ xs.length = 96 ∧ noneAfter xs (rgB s j i).toNat 768 ∧ ∃ g, e = .returned (.tuple #[.agg #[.int .i64 s, .int .i64 j, .int .i64 i, .slice (some ⟨g, 0, none⟩) (rgB s j i).toNat (rgB s j i).toNat], .int .i64 0]) ∧
      w.heap.size ≤ g ∧ Reads w' (some ⟨g, 0, none⟩) ((decS xs (rgB s j i).toNat 768).map .bool)))

set_option maxRecDepth 100000 in
set_option maxHeartbeats 2000000 in
theorem decode_any (s j i : Int) (A : Option Addr) (c : Nat) (xs : List Int) (hml : xs.length ≤ maxLen) (w : World) (hR : Reads w A (xs.map (.int .u8))) :
    Calls Try.prog 27 #[.agg #[.int .i64 s, .int .i64 j, .int .i64 i], .slice A xs.length c] w (DecPost s j i xs w) := by
  go_enter Try.func27, Try.ntmps27
  go_wp2_with fail
  refine (new_any s j i _).mono ?_
  rintro e w1 ⟨hb1, ⟨hE, rfl⟩ | ⟨hE, g, rfl, hg, hrow⟩⟩
  · have hE' : (rgE s j i != 0) = true := by simpa using hE
    have HE := Lib.hid hE
    clear hE
    have bR : Blk w1 (w.heap.size + 1) 26 #[.int .i64 0, .int .i64 0, .int .i64 0, .slice none 0 0] := Blk.belowAll (by (repeat' (first | (with_reducible assumption) | exact Blk.new' (by simp) | refine Blk.alloc ?_ _))) hb1
    have B1 : Below w.heap.size w w1 := below2 hb1
    clear hb1
    have cR := bR.cells
    have fR := bR.free
    have lR := bR.lt
    go_wp2_with fail
    refine bodyPost_ret (v := .tuple #[.agg #[.int .i64 0, .int .i64 0, .int .i64 0, .slice none 0 0], .int .i64 (rgE s j i)]) (by simp [results, Try.results27, go_sem, cR, lR]) rfl ?_
    exact ⟨by (repeat' (first | (with_reducible exact Below.refl _ _) | (with_reducible assumption) | (with_reducible refine Below.alloc ?_ ?_ _) | (with_reducible refine Below.drew ?_) | (with_reducible refine below_drewN' ?_ _) | (with_reducible refine Below.setCell ?_ ?_ _) | (with_reducible exact Nat.le_refl _) | omega | (simp; done) | (simp; omega))), .inl ⟨HE.out, rfl⟩⟩
  · have hE' : (rgE s j i != 0) = false := by simpa using hE
    have HE := Lib.hid hE
    clear hE
    have bR : Blk w1 (w.heap.size + 1) 26 #[.int .i64 0, .int .i64 0, .int .i64 0, .slice none 0 0] := Blk.belowAll (by (repeat' (first | (with_reducible assumption) | exact Blk.new' (by simp) | refine Blk.alloc ?_ _))) hb1
    have B1 : Below w.heap.size w w1 := below2 hb1
    clear hb1
    have cR := bR.cells
    have fR := bR.free
    have lR := bR.lt
    have bQ0 : Blk w1 g 4 (fill (.bool false) (rgB s j i).toNat) := hrow
    by_cases h96 : xs.length = 96
    · have hn : ((xs.length : Int) != 96) = false := by rw [h96]; rfl
      unfold DecPost
      generalize hNN : (rgB s j i).toNat = n at *
      have NN := Lib.hid hNN
      clear hNN
      have bQ : Blk w1 g 4 (boolsV (decS xs n 0)) := by rw [show decS xs n 0 = List.replicate n false from rfl, boolsV_rep]; exact bQ0
      clear hrow bQ0
      go_wp2_with fail
      have bW : Blk (w1.alloc (.cells #[.int .i64 s, .int .i64 j, .int .i64 i, .slice (some ⟨g, 0, none⟩) n n] 26)) w1.heap.size 26 #[.int .i64 s, .int .i64 j, .int .i64 i, .slice (some ⟨g, 0, none⟩) n n] := Blk.new _ _ _
      have bQ1 := bQ.alloc (.cells #[.int .i64 s, .int .i64 j, .int .i64 i, .slice (some ⟨g, 0, none⟩) n n] 26)
      have bR1 := bR.alloc (.cells #[.int .i64 s, .int .i64 j, .int .i64 i, .slice (some ⟨g, 0, none⟩) n n] 26)
      have B2 := B1.alloc B1.size (.cells #[.int .i64 s, .int .i64 j, .int .i64 i, .slice (some ⟨g, 0, none⟩) n n] 26)
      have hg2 : w.heap.size + 2 ≤ g := by simpa using hg
      have hgl : g < w1.heap.size := bQ.lt
      clear cR fR hg
      go_loopw [28] (fun q wr => ∃ k : Nat, k ≤ 768 ∧ q = .int .i64 k ∧ Blk wr g 4 (boolsV (decS xs n k)) ∧ Blk wr (w.heap.size + 1) 26 #[.int .i64 0, .int .i64 0, .int .i64 0, .slice none 0 0] ∧ Blk wr w1.heap.size 26 #[.int .i64 s, .int .i64 j, .int .i64 i, .slice (some ⟨g, 0, none⟩) n n] ∧ noneAfter xs n k ∧ Below w.heap.size w wr) (fun q _ => 768 - (intOf q).toNat)
      case atStart => exact ⟨0, Nat.zero_le _, rfl, bQ1, bR1, bW, fun b _ h => absurd h (by omega), B2⟩
      case round =>
        obtain ⟨k, hk, rfl, bQ, bR, bW, hno, hnx⟩ := hrel
        have cQ := bQ.cells
        have fQ := bQ.free
        have cR := bR.cells
        have fR := bR.free
        have cW := bW.cells
        by_cases hlt : k < 768
        · have hk8 : k / 8 < xs.length := by omega
          obtain ⟨b, off, rfl, hb, hc⟩ := (hR.below hnx).at_ (k := k / 8) (by simpa using hk8)
          rw [List.getElem_map] at hc
          have hq8 : 0 ≤ (k : Int) / 8 ∧ (k : Int) / 8 < 96 := by omega
          have hbit : bitAt xs k = bitOf xs[k / 8] (k % 8) := by unfold bitAt; simp [hk8]
          have HB := Lib.hid hbit
          clear hbit
          generalize xs[k / 8] = x at hc HB
          by_cases hkn : k < n
          · have hd := decide_eq_true hkn
            have hcQ : wr.cell? ⟨g, k, none⟩ = some (.bool ((decS xs n k).getD k false)) := by rw [bQ.cells]; exact boolsV_get (by rw [decS_length]; exact hkn)
            have hs := Lib.hid (decS_in (xs := xs) hkn)
            clear cQ
            go_wp2_with fail
            go_roundw
            case rel => exact ⟨k + 1, by omega, by go_num, by rw [hs.out, HB.out, ← boolsV_set]; exact bQ.set_ _ _, bR.far (by simp; omega) _, bW.far (by simp; omega) _, fun b h1 h2 => hno b h1 (by omega), by (repeat' (first | (with_reducible exact Below.refl _ _) | (with_reducible assumption) | (with_reducible refine Below.alloc ?_ ?_ _) | (with_reducible refine Below.drew ?_) | (with_reducible refine below_drewN' ?_ _) | (with_reducible refine Below.setCell ?_ ?_ _) | (with_reducible exact Nat.le_refl _) | omega | (simp; done) | (simp; omega)))⟩
            case measure => simp [intOf]; omega
          · have hd := decide_eq_false hkn
            have hs := Lib.hid (decS_out (xs := xs) hkn)
            clear cQ
            cases hbt : bitOf x (k % 8)
            · have hbt' : (bits BinOp.and IntKind.u8 (x / 2 ^ (k % 8)) 1 == 1) = false := hbt
              have HT := Lib.hid hbt
              clear hbt
              go_wp2_with fail
              go_roundw
              case rel => exact ⟨k + 1, by omega, by go_num, by rw [hs.out]; exact bQ, bR, bW, fun b h1 h2 => by
                by_cases hbk : b = k
                · subst hbk; rw [HB.out, HT.out]
                · exact hno b h1 (by omega), hnx⟩
              case measure => simp [intOf]; omega
            · have hbt' : (bits BinOp.and IntKind.u8 (x / 2 ^ (k % 8)) 1 == 1) = true := hbt
              have HT := Lib.hid hbt
              clear hbt
              have lR := bR.lt
              go_wp2_with fail
              refine bodyPost_ret (v := .tuple #[.agg #[.int .i64 0, .int .i64 0, .int .i64 0, .slice none 0 0], .int .i64 6]) (by simp [results, Try.results27, go_sem, cR, lR]) rfl ?_
              exact ⟨by (repeat' (first | (with_reducible exact Below.refl _ _) | (with_reducible assumption) | (with_reducible refine Below.alloc ?_ ?_ _) | (with_reducible refine Below.drew ?_) | (with_reducible refine below_drewN' ?_ _) | (with_reducible refine Below.setCell ?_ ?_ _) | (with_reducible exact Nat.le_refl _) | omega | (simp; done) | (simp; omega))), .inr (.inr (.inl ⟨HE.out, h96, fun h => (by rw [NN.out] at h; have := h k (by omega) hlt; rw [HB.out, HT.out] at this; cases this), rfl⟩))⟩
        · obtain rfl : k = 768 := by omega
          have lR := bR.lt
          have lQ := bQ.lt
          clear cQ
          go_wp2_with fail
          refine bodyPost_ret (v := .tuple #[.agg #[.int .i64 s, .int .i64 j, .int .i64 i, .slice (some ⟨g, 0, none⟩) n n], .int .i64 0]) (by simp [results, Try.results27, go_sem, cR, lR]) rfl ?_
          have hnn : noneAfter xs (rgB s j i).toNat 768 := by rw [NN.out]; exact hno
          refine ⟨by (repeat' (first | (with_reducible exact Below.refl _ _) | (with_reducible assumption) | (with_reducible refine Below.alloc ?_ ?_ _) | (with_reducible refine Below.drew ?_) | (with_reducible refine below_drewN' ?_ _) | (with_reducible refine Below.setCell ?_ ?_ _) | (with_reducible exact Nat.le_refl _) | omega | (simp; done) | (simp; omega))), .inr (.inr (.inr ⟨HE.out, h96, hnn, g, by rw [NN.out], by omega, ?_⟩))⟩
          rw [NN.out]
          exact reads_bools (t := 4) (by (repeat' (first | (with_reducible exact bQ) | refine Blk.far ?_ (by simp; omega) _)))
    · have hn : ((xs.length : Int) != 96) = true := by simp; omega
      go_wp2_with fail
      refine bodyPost_ret (v := .tuple #[.agg #[.int .i64 0, .int .i64 0, .int .i64 0, .slice none 0 0], .int .i64 3]) (by simp [results, Try.results27, go_sem, cR, lR]) rfl ?_
      exact ⟨by (repeat' (first | (with_reducible exact Below.refl _ _) | (with_reducible assumption) | (with_reducible refine Below.alloc ?_ ?_ _) | (with_reducible refine Below.drew ?_) | (with_reducible refine below_drewN' ?_ _) | (with_reducible refine Below.setCell ?_ ?_ _) | (with_reducible exact Nat.le_refl _) | omega | (simp; done) | (simp; omega))), .inr (.inl ⟨HE.out, h96, rfl⟩)⟩

end Go.Proofs.Ytenfheheepkfbaa
