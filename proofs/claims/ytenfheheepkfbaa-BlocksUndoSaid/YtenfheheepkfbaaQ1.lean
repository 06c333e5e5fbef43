/- Decode of Encode and Encode of Decode, in plain Lean. -/
import Derived.Test.YtenfheheepkfbaaD1
namespace Go.Proofs.Ytenfheheepkfbaa
open Go.RowKit

theorem orv_tab : ∀ x : Fin 256, ∀ m m' : Fin 8, bitOf (orv (x.val : Int) m.val) m'.val = (bitOf (x.val : Int) m'.val || m'.val == m.val) := by decide +kernel
theorem orv_rng : ∀ x : Fin 256, ∀ m : Fin 8, 0 ≤ orv (x.val : Int) m.val ∧ orv (x.val : Int) m.val < 256 := by decide +kernel
def ofBits (f : Nat → Bool) : Int :=
  (if f 0 then 1 else 0) + (if f 1 then 2 else 0) + (if f 2 then 4 else 0) + (if f 3 then 8 else 0) + (if f 4 then 16 else 0) + (if f 5 then 32 else 0) + (if f 6 then 64 else 0) + (if f 7 then 128 else 0)
theorem byte_bits : ∀ x : Fin 256, (x.val : Int) = ofBits (bitOf (x.val : Int)) := by decide +kernel
theorem bit_zero : ∀ m : Fin 8, bitOf 0 m.val = false := by decide +kernel

def Bytes (xs : List Int) : Prop := ∀ x ∈ xs, 0 ≤ x ∧ x < 256

theorem fin_of {x : Int} (h : 0 ≤ x ∧ x < 256) : ∃ y : Fin 256, x = (y.val : Int) := ⟨⟨x.toNat, by omega⟩, by simp; omega⟩
theorem orv_bit {x : Int} (h : 0 ≤ x ∧ x < 256) {m m' : Nat} (hm : m < 8) (hm' : m' < 8) : bitOf (orv x m) m' = (bitOf x m' || m' == m) := by
  obtain ⟨y, rfl⟩ := fin_of h
  exact orv_tab y ⟨m, hm⟩ ⟨m', hm'⟩
theorem orv_byte {x : Int} (h : 0 ≤ x ∧ x < 256) {m : Nat} (hm : m < 8) : 0 ≤ orv x m ∧ orv x m < 256 := by
  obtain ⟨y, rfl⟩ := fin_of h
  exact orv_rng y ⟨m, hm⟩
theorem byte_ext {x y : Int} (hx : 0 ≤ x ∧ x < 256) (hy : 0 ≤ y ∧ y < 256) (h : ∀ m, m < 8 → bitOf x m = bitOf y m) : x = y := by
  obtain ⟨a, rfl⟩ := fin_of hx
  obtain ⟨b, rfl⟩ := fin_of hy
  rw [byte_bits a, byte_bits b]
  unfold ofBits
  rw [h 0 (by omega), h 1 (by omega), h 2 (by omega), h 3 (by omega), h 4 (by omega), h 5 (by omega), h 6 (by omega), h 7 (by omega)]

theorem getD_bytes {xs : List Int} (h : Bytes xs) (k : Nat) : 0 ≤ xs.getD k 0 ∧ xs.getD k 0 < 256 := by
  by_cases hk : k < xs.length
  · rw [List.getD_eq_getElem?_getD, List.getElem?_eq_getElem hk]; exact h _ (List.getElem_mem hk)
  · rw [List.getD_eq_getElem?_getD, List.getElem?_eq_none (by omega)]; simp
theorem encL_bytes (us : List Bool) (k : Nat) : Bytes (encL us k) := by
  induction k with
  | zero => intro x hx; simp [encL] at hx; omega
  | succ k ih =>
    unfold encL
    split
    · intro x hx
      rcases List.mem_or_eq_of_mem_set hx with h | h
      · exact ih x h
      · subst h; exact orv_byte (getD_bytes ih _) (Nat.mod_lt _ (by omega))
    · exact ih
theorem bitAt_set {xs : List Int} {k b : Nat} {v : Int} (hk : k / 8 < xs.length) : bitAt (xs.set (k / 8) v) b = if b / 8 = k / 8 then bitOf v (b % 8) else bitAt xs b := by
  unfold bitAt
  rw [List.getD_eq_getElem?_getD, List.getD_eq_getElem?_getD, List.getElem?_set]
  by_cases h : b / 8 = k / 8
  · rw [if_pos h.symm, if_pos hk, if_pos h]; rfl
  · rw [if_neg (fun h' => h h'.symm), if_neg h]
theorem bitAt_encL {us : List Bool} (hl : us.length ≤ 768) {k : Nat} (hk : k ≤ us.length) (b : Nat) : bitAt (encL us k) b = (decide (b < k) && us.getD b false) := by
  induction k with
  | zero =>
    simp only [Nat.not_lt_zero, decide_false, Bool.false_and]
    unfold bitAt
    have : (encL us 0).getD (b / 8) 0 = 0 := by
      show (List.replicate 96 (0:Int)).getD (b / 8) 0 = 0
      rw [List.getD_eq_getElem?_getD, List.getElem?_replicate]
      split <;> rfl
    rw [this]
    exact bit_zero ⟨b % 8, Nat.mod_lt _ (by omega)⟩
  | succ k ih =>
    have ih := ih (by omega)
    have hku : us[k]? = some us[k] := List.getElem?_eq_getElem (by omega)
    by_cases hx : us[k] = true
    · rw [hx] at hku
      rw [encL_hit hku, bitAt_set (by rw [encL_length]; omega)]
      by_cases h : b / 8 = k / 8
      · rw [if_pos h, orv_bit (getD_bytes (encL_bytes us k) _) (Nat.mod_lt _ (by omega)) (Nat.mod_lt _ (by omega))]
        have hb : bitOf ((encL us k).getD (k / 8) 0) (b % 8) = bitAt (encL us k) b := by unfold bitAt; rw [h]
        rw [hb, ih]
        by_cases hbk : b = k
        · subst hbk; simp [List.getD_eq_getElem?_getD, hku]
        · have h1 : (b % 8 == k % 8) = false := by simp; omega
          have h2 : decide (b < k + 1) = decide (b < k) := by simp; omega
          rw [h1, h2, Bool.or_false]
      · rw [if_neg h, ih]
        have h2 : decide (b < k + 1) = decide (b < k) := by
          have : b ≠ k := fun hh => h (by rw [hh])
          simp; omega
        rw [h2]
    · have hx' : us[k] = false := by simpa using hx
      rw [hx'] at hku
      rw [encL_miss hku, ih]
      by_cases hbk : b = k
      · subst hbk; simp [List.getD_eq_getElem?_getD, hku]
      · have h2 : decide (b < k + 1) = decide (b < k) := by simp; omega
        rw [h2]
theorem bytes_ext {xs ys : List Int} {n : Nat} (hx : xs.length = n) (hy : ys.length = n) (bx : Bytes xs) (by_ : Bytes ys) (h : ∀ b, b < 8 * n → bitAt xs b = bitAt ys b) : xs = ys := by
  apply List.ext_getElem (by omega)
  intro k h1 h2
  refine byte_ext (bx _ (List.getElem_mem h1)) (by_ _ (List.getElem_mem h2)) fun m hm => ?_
  have := h (8 * k + m) (by omega)
  unfold bitAt at this
  rw [show (8 * k + m) / 8 = k by omega, show (8 * k + m) % 8 = m by omega, List.getD_eq_getElem?_getD, List.getD_eq_getElem?_getD, List.getElem?_eq_getElem h1, List.getElem?_eq_getElem h2] at this
  exact this

theorem dec_enc {us : List Bool} (hl : us.length ≤ 768) : decS (encL us us.length) us.length 768 = us ∧ noneAfter (encL us us.length) us.length 768 := by
  constructor
  · apply List.ext_getElem? 
    intro b
    by_cases hb : b < us.length
    · rw [decS_at _ _ _ _ hb, if_pos (by omega), bitAt_encL hl (Nat.le_refl _), List.getElem?_eq_getElem hb]
      simp [List.getD_eq_getElem?_getD, hb]
    · rw [List.getElem?_eq_none (by rw [decS_length]; omega), List.getElem?_eq_none (by omega)]
  · intro b hb _
    rw [bitAt_encL hl (Nat.le_refl _)]
    have : decide (b < us.length) = false := by simp; omega
    rw [this, Bool.false_and]
theorem enc_dec {xs : List Int} {n : Nat} (hn : n ≤ 768) (hx : xs.length = 96) (bx : Bytes xs) (h : noneAfter xs n 768) : encL (decS xs n 768) n = xs := by
  have hl : (decS xs n 768).length = n := decS_length _ _ _
  refine bytes_ext (n := 96) (encL_length _ _) hx (encL_bytes _ _) bx fun b hb => ?_
  rw [bitAt_encL (by omega) (by omega)]
  by_cases hbn : b < n
  · have := decS_at xs n 768 b hbn
    rw [if_pos (by omega)] at this
    simp [List.getD_eq_getElem?_getD, this, hbn]
  · rw [h b (by omega) (by omega)]
    simp [hbn]

end Go.Proofs.Ytenfheheepkfbaa
