/- Encode. -/
import Derived.Test.YtenfheheepkfbaaA4
import Derived.Test.YtenfheheepkfbaaL2
namespace Go.Proofs.Ytenfheheepkfbaa
open Go.RowKit

theorem zero96 (w : World) : (zeroValue 69).run Try.prog w = .ok (.agg (fill (.int .u8 0) 96)) w := by kernel_rfl

theorem ckE_len {s j i : Int} {n : Nat} (h : CkE s j i n = 0) : rgE s j i = 0 ∧ (n : Int) = rgB s j i ∧ 8 ≤ n ∧ n ≤ 256 := by
  unfold CkE at h
  split at h
  · rename_i hg
    split at h
    · rename_i hl
      have := rg_bds hg
      have := (rg_ok hg).2.2.2.2
      exact ⟨hg, hl, by omega, by omega⟩
    · omega
  · exact absurd h (by assumption)

def orv (x : Int) (m : Nat) : Int := bits BinOp.or IntKind.u8 x (2 ^ m % 256)
/-- The bitmap's bytes when k blocks have been looked at. -/
def encL (us : List Bool) : Nat → List Int
  | 0 => List.replicate 96 0
  | k + 1 => if us[k]? = some true then (encL us k).set (k / 8) (orv ((encL us k).getD (k / 8) 0) (k % 8)) else encL us k
theorem encL_length (us : List Bool) (k : Nat) : (encL us k).length = 96 := by
  induction k with
  | zero => simp [encL]
  | succ k ih => unfold encL; split <;> simp [ih]
theorem encL_hit {us : List Bool} {k : Nat} (h : us[k]? = some true) : encL us (k + 1) = (encL us k).set (k / 8) (orv ((encL us k).getD (k / 8) 0) (k % 8)) := by
  show (if us[k]? = some true then _ else _) = _
  rw [if_pos h]
theorem encL_miss {us : List Bool} {k : Nat} (h : us[k]? = some false) : encL us (k + 1) = encL us k := by
  show (if us[k]? = some true then _ else _) = _
  rw [if_neg (by rw [h]; simp)]

def bytesV (l : List Int) : Array Value := (l.map (Value.int .u8)).toArray
theorem bytesV_rep (n : Nat) : bytesV (List.replicate n 0) = fill (.int .u8 0) n := by rw [fill_eq]; unfold bytesV; simp
theorem bytesV_set (l : List Int) (m : Nat) (x : Int) : (bytesV l).setIfInBounds m (.int .u8 x) = bytesV (l.set m x) := by
  unfold bytesV; simp [List.map_set]
theorem bytesV_get {l : List Int} {m : Nat} (h : m < l.length) : (bytesV l)[m]? = some (.int .u8 (l.getD m 0)) := by
  unfold bytesV; simp [h]
theorem reads_bytes {w : World} {g : Nat} {t : TypeId} {l : List Int} (h : Blk w g t (bytesV l)) : Reads w (some ⟨g, 0, none⟩) (l.map (Value.int .u8)) :=
  .inr ⟨g, 0, rfl, h.lt, fun j u hu => by rw [h.cells, Nat.zero_add]; unfold bytesV; simpa using hu⟩

def EncPost (s j i : Int) (us : List Bool) (w : World) (e : Ending) (w' : World) : Prop :=
  Below w.heap.size w w' ∧ ((CkE s j i us.length ≠ 0 ∧ e = .returned (.tuple #[.slice none 0 0, .int .i64 (CkE s j i us.length)])) ∨
    (CkE s j i us.length = 0 ∧ ∃ g, e = .returned (.tuple #[.slice (some ⟨g, 0, none⟩) 96 96, .int .i64 0]) ∧ w.heap.size ≤ g ∧ Reads w' (some ⟨g, 0, none⟩) ((encL us us.length).map (Value.int .u8))))

set_option maxRecDepth 100000 in
set_option maxHeartbeats 1000000 in
theorem encode_ok (s j i : Int) (A : Option Addr) (c : Nat) (us : List Bool) (hus : us.length ≤ 1000) (w : World) (hR : Reads w A (us.map .bool)) (hE : CkE s j i us.length = 0) :
    Calls Try.prog 26 #[.agg #[.int .i64 s, .int .i64 j, .int .i64 i, .slice A us.length c]] w (EncPost s j i us w) := by
  have hus' := (ckE_len hE).2.2
  have hE' : (CkE s j i us.length != 0) = false := by simpa using hE
  have HE := Lib.hid hE
  clear hE
  have hz96 := zero96
  go_enter Try.func26, Try.ntmps26
  go_wp2_with fail
  refine (check_any s j i A us.length c _ (by unfold maxLen; omega)).mono ?_
  rintro e w1 ⟨rfl, hb1⟩
  have bS : Blk w1 w.heap.size 26 #[.int .i64 s, .int .i64 j, .int .i64 i, .slice A us.length c] := Blk.belowAll (by (repeat' (first | (with_reducible assumption) | exact Blk.new' (by simp) | refine Blk.alloc ?_ _))) hb1
  replace hb1 : Below w.heap.size w w1 := below1 hb1
  have cS := bS.cells
  have hbS := bS.lt
  go_wp2_with fail
  obtain ⟨W1, hW1⟩ : ∃ W1, W1 = w1.alloc (.cells (fill (.int .u8 0) 96) 69) := ⟨_, rfl⟩
  rw [← hW1]
  have bO : Blk W1 w1.heap.size 69 (fill (.int .u8 0) 96) := by rw [hW1]; exact Blk.new _ _ _
  have hB1 : Below w.heap.size w W1 := by rw [hW1]; exact hb1.alloc hb1.size _
  have hs1 : W1.heap.size = w1.heap.size + 1 := by rw [hW1]; simp
  clear hW1 bS cS hb1 hz96
  go_loopw [16] (fun q wr => ∃ k : Nat, k ≤ us.length ∧ q = .int .i64 k ∧ Blk wr w1.heap.size 69 (bytesV (encL us k)) ∧ Below w1.heap.size W1 wr) (fun q _ => us.length - (intOf q).toNat)
  case atStart => exact ⟨0, Nat.zero_le _, rfl, by rw [show encL us 0 = List.replicate 96 0 from rfl, bytesV_rep]; exact bO, Below.refl _ _⟩
  case round =>
    obtain ⟨k, hk, rfl, bO, hnx⟩ := hrel
    have fO := bO.free
    by_cases hlt : k < us.length
    · obtain ⟨b, off, rfl, hb, hc⟩ := (hR.below (hB1.trans (hnx.mono (by omega)))).at_ (k := k) (by simpa using hlt)
      rw [List.getElem_map] at hc
      have hd8 : k / 8 < 96 := by omega
      have hcO : wr.cell? ⟨w1.heap.size, k / 8, none⟩ = some (.int .u8 ((encL us k).getD (k / 8) 0)) := by rw [bO.cells]; exact bytesV_get (by rw [encL_length]; exact hd8)
      cases hu : us[k] <;> rw [hu] at hc
      · have hs := Lib.hid (encL_miss (us := us) (k := k) (by rw [List.getElem?_eq_getElem hlt, hu]))
        clear hu hcO
        go_wp2
        go_roundw
        case rel => exact ⟨k + 1, by omega, by go_num, by rw [hs.out]; exact bO, hnx⟩
        case measure => simp [intOf]; omega
      · have hs := Lib.hid (encL_hit (us := us) (k := k) (by rw [List.getElem?_eq_getElem hlt, hu]))
        clear hu
        generalize hx : (encL us k).getD (k / 8) 0 = x at hcO hs
        clear hx
        go_wp2
        go_region
        all_goals go_wp2
        go_roundw
        case rel => exact ⟨k + 1, by omega, by go_num, by rw [hs.out, ← bytesV_set]; exact (bO.set_ _ _).drew, (hnx.setCell (p := ⟨w1.heap.size, k / 8, none⟩) (Nat.le_refl _) _).drew⟩
        case measure => simp [intOf]; omega
    · obtain rfl : k = us.length := by omega
      have hB2 : Below w.heap.size w wr := hB1.trans (hnx.mono (by omega))
      go_wp2
      go_ret2
      exact ⟨by (repeat' (first | (with_reducible exact Below.refl _ _) | (with_reducible assumption) | (with_reducible refine Below.alloc ?_ ?_ _) | (with_reducible refine Below.drew ?_) | (with_reducible refine below_drewN' ?_ _) | (with_reducible refine Below.setCell ?_ ?_ _) | (with_reducible exact Nat.le_refl _) | omega | (simp; done) | (simp; omega))), .inr ⟨HE.out, w1.heap.size, rfl, by omega, reads_bytes bO⟩⟩

set_option maxHeartbeats 400000 in
theorem encode_any (s j i : Int) (A : Option Addr) (c : Nat) (us : List Bool) (hus : us.length ≤ 1000) (w : World) (hR : Reads w A (us.map .bool)) :
    Calls Try.prog 26 #[.agg #[.int .i64 s, .int .i64 j, .int .i64 i, .slice A us.length c]] w (EncPost s j i us w) := by
  by_cases hE : CkE s j i us.length = 0
  · exact encode_ok s j i A c us hus w hR hE
  · have hE' : (CkE s j i us.length != 0) = true := by simpa using hE
    have HE := Lib.hid hE
    clear hE
    go_enter Try.func26, Try.ntmps26
    go_wp2_with fail
    refine (check_any s j i A us.length c _ (by unfold maxLen; omega)).mono ?_
    rintro e w1 ⟨rfl, hb1⟩
    replace hb1 : Below w.heap.size w w1 := below1 hb1
    go_wp2_with fail
    go_ret2
    exact ⟨hb1, .inl ⟨HE.out, rfl⟩⟩

end Go.Proofs.Ytenfheheepkfbaa
