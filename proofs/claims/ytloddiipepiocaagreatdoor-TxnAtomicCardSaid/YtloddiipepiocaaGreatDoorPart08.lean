/- Parts of the proof, put together by program: Y0, C8, C9, V1, V2. -/
import Derived.Test.YtloddiipepiocaaGreatDoorPart07
import Derived.Laws.BitsAllLaws
import Derived.Shelf.Spec.RuneCount
import Derived.Test.YtloddiipepiocaaGreatDoorPart04
import Derived.Test.YtloddiipepiocaaGreatDoorPart05
import Derived.Maps.OwnSet
set_option linter.unusedVariables false
set_option linter.unusedSimpArgs false
/- Plain laws of layer 7: Open of Seal. No program in sight. -/
namespace Go.Proofs.YtloddiipepiocaaGreatDoor
open Go.RowKit

theorem getD_set_ne' {xs : List Int} {i j : Nat} {v : Int} (h : i ≠ j) : (xs.set i v).getD j 0 = xs.getD j 0 := by
  rw [List.getD_eq_getElem?_getD, List.getD_eq_getElem?_getD, List.getElem?_set, if_neg h]
theorem getD_set_eq' {xs : List Int} {i : Nat} {v : Int} (h : i < xs.length) : (xs.set i v).getD i 0 = v := by
  rw [List.getD_eq_getElem?_getD, List.getElem?_set, if_pos rfl, if_pos h]; rfl
theorem putK_out {xs : List Int} {a j : Nat} {n : Int} : ∀ {k : Nat}, j < a ∨ a + k ≤ j → (putK xs a n k).getD j 0 = xs.getD j 0
  | 0, _ => rfl
  | k + 1, h => by
    show ((putK xs a n k).set (a + k) (nb n k)).getD j 0 = _
    rw [getD_set_ne' (by omega), putK_out (by omega)]
theorem putK_in {xs : List Int} {a : Nat} {n : Int} : ∀ {k j : Nat}, j < k → a + k ≤ xs.length → (putK xs a n k).getD (a + j) 0 = nb n j
  | 0, j, h, _ => absurd h (by omega)
  | k + 1, j, h, hl => by
    show ((putK xs a n k).set (a + k) (nb n k)).getD (a + j) 0 = _
    by_cases e : j = k
    · subst e; exact getD_set_eq' (by rw [putK_length]; omega)
    · rw [getD_set_ne' (by omega), putK_in (by omega) (by omega)]

theorem or32 (x y : Nat) (hx : x < 4294967296) (hy : y < 4294967296) : bits .or .u32 (x : Int) (y : Int) = ((x ||| y : Nat) : Int) := by
  have h : bits .or .u32 (x : Int) (y : Int) = IntKind.u32.wrap ((BitVec.ofInt 32 (x : Int) ||| BitVec.ofInt 32 (y : Int)).toNat : Int) := rfl
  have hlt : x ||| y < 2 ^ 32 := Nat.or_lt_two_pow (by omega) (by omega)
  rw [h, BitVec.toNat_or, BitVec.ofInt_natCast, BitVec.ofInt_natCast, BitVec.toNat_ofNat, BitVec.toNat_ofNat, Nat.mod_eq_of_lt (by omega), Nat.mod_eq_of_lt (by omega), IntKind.wrap_u32']
  omega
theorem readK_of (xs : List Int) (a : Nat) (n : Nat) : ∀ k, k ≤ 4 → (∀ j, j < k → xs.getD (a + j) 0 = nb (n : Int) j) → readK xs a k = ((n % 2 ^ (8 * k) : Nat) : Int)
  | 0, _, _ => by simp [readK, Nat.mod_one]
  | k + 1, hk, h => by
    have ih := readK_of xs a n k (by omega) (fun j hj => h j (by omega))
    unfold readK
    rw [ih, h k (by omega)]
    have hb : nb (n : Int) k = ((n / 2 ^ (8 * k) % 256 : Nat) : Int) := by unfold nb; simp
    rw [hb]
    have hc : ((n / 2 ^ (8 * k) % 256 : Nat) : Int) * 2 ^ (8 * k) % 4294967296 = ((2 ^ (8 * k) * (n / 2 ^ (8 * k) % 256) : Nat) : Int) := by
      have hlt : 2 ^ (8 * k) * (n / 2 ^ (8 * k) % 256) < 4294967296 := by
        have h1 : n / 2 ^ (8 * k) % 256 < 256 := Nat.mod_lt _ (by omega)
        have h2 : 2 ^ (8 * k) * (n / 2 ^ (8 * k) % 256) < 2 ^ (8 * k) * 256 := Nat.mul_lt_mul_of_pos_left h1 (Nat.two_pow_pos _)
        have h3 : 2 ^ (8 * k) * 256 ≤ 2 ^ 32 := by
          have : 2 ^ (8 * k) * 256 = 2 ^ (8 * k + 8) := by rw [Nat.pow_add]
          rw [this]
          exact Nat.pow_le_pow_right (by omega) (by omega)
        omega
      have hm : ((n / 2 ^ (8 * k) % 256 : Nat) : Int) * 2 ^ (8 * k) = ((2 ^ (8 * k) * (n / 2 ^ (8 * k) % 256) : Nat) : Int) := by
        generalize n / 2 ^ (8 * k) % 256 = y
        rw [Int.natCast_mul, Int.mul_comm]
        congr 1
      rw [hm]
      omega
    have h1 : n % 2 ^ (8 * k) < 2 ^ (8 * k) := Nat.mod_lt _ (Nat.two_pow_pos _)
    have h256 : n / 2 ^ (8 * k) % 256 < 256 := Nat.mod_lt _ (by omega)
    have hpow : 2 ^ (8 * k) * 256 = 2 ^ (8 * (k + 1)) := by rw [show 8 * (k + 1) = 8 * k + 8 by omega, Nat.pow_add]
    have hle : 2 ^ (8 * (k + 1)) ≤ 2 ^ 32 := Nat.pow_le_pow_right (by omega) (by omega)
    have hlt2 : 2 ^ (8 * k) * (n / 2 ^ (8 * k) % 256) < 2 ^ (8 * k) * 256 := Nat.mul_lt_mul_of_pos_left h256 (Nat.two_pow_pos _)
    rw [hc, or32 _ _ (by omega) (by omega), Nat.or_comm, ← Nat.two_pow_add_eq_or_of_lt h1]
    congr 1
    rw [← hpow]
    rw [Nat.mod_mul]
    omega
theorem readN_put {xs : List Int} {a : Nat} {n : Int} (hn : 0 ≤ n ∧ n < 4294967296) (hl : a + 4 ≤ xs.length) : readN (putN xs a n) a = n := by
  obtain ⟨m, rfl⟩ := Int.eq_ofNat_of_zero_le hn.1
  show readK (putN xs a (m : Int)) a 4 = _
  rw [readK_of (putN xs a (m : Int)) a m 4 (by omega) (fun j hj => putK_in (k := 4) hj hl)]
  omega
theorem readK_congr {xs ys : List Int} {a : Nat} : ∀ k, (∀ j, j < k → xs.getD (a + j) 0 = ys.getD (a + j) 0) → readK xs a k = readK ys a k
  | 0, _ => rfl
  | k + 1, h => by
    unfold readK
    rw [readK_congr k (fun j hj => h j (by omega)), h k (by omega)]
theorem readN_other {xs : List Int} {a b : Nat} {n : Int} (h : a + 4 ≤ b ∨ b + 4 ≤ a) : readN (putN xs a n) b = readN xs b :=
  readK_congr 4 fun _ hj => putK_out (by omega)
theorem take_put {xs : List Int} {a : Nat} {n : Int} : ∀ k, (putK xs a n k).take a = xs.take a
  | 0 => rfl
  | k + 1 => by
    show ((putK xs a n k).set (a + k) (nb n k)).take a = _
    rw [List.take_set_of_le (by omega), take_put k]

theorem strOfNums_strL (s : ByteArray) : strOfNums (strL s) = s := strOfNums_bytes s

/-! A sealed sector's parts. -/
section
variable {a kind seq : Int} {s : ByteArray} (hs : s.size ≤ 112)
include hs
theorem sealL_getD {j : Nat} (h : j < 4 ∨ 8 ≤ j ∧ j < 120) : (sealL a kind seq s).getD j 0 = (seal1 kind s).getD j 0 := by
  have _ := hs
  unfold sealL seal2 putN
  rw [putK_out (by omega), putK_out (by omega), putK_out (by omega)]
theorem seal1_lo {j : Nat} (h : j < 8) : (seal1 kind s).getD j 0 = (seal0 kind s.size).getD j 0 := by
  have _ := hs
  have h0 := seal0_length kind s.size
  unfold seal1
  rw [List.getD_eq_getElem?_getD, List.append_assoc, List.getElem?_append_left (by rw [List.length_take]; omega), List.getElem?_take, if_pos h, List.getD_eq_getElem?_getD]
theorem seal1_mid {j : Nat} (h : j < s.size) : (seal1 kind s).getD (8 + j) 0 = (strL s).getD j 0 := by
  have _ := hs
  have h0 := seal0_length kind s.size
  have hL := strL_length s
  unfold seal1
  rw [List.getD_eq_getElem?_getD, List.append_assoc, List.getElem?_append_right (by rw [List.length_take]; omega), List.length_take, show 8 + j - min 8 (seal0 kind s.size).length = j by omega, List.getElem?_append_left (by omega), List.getD_eq_getElem?_getD]
theorem seal1_hi {j : Nat} (h : 8 + s.size ≤ j) : (seal1 kind s).getD j 0 = (seal0 kind s.size).getD j 0 := by
  have _ := hs
  have h0 := seal0_length kind s.size
  have hL := strL_length s
  unfold seal1
  rw [List.getD_eq_getElem?_getD, List.getElem?_append_right (by rw [List.length_append, List.length_take]; omega), List.length_append, List.length_take, List.getElem?_drop, show 8 + s.size + (j - (min 8 (seal0 kind s.size).length + (strL s).length)) = j by omega, List.getD_eq_getElem?_getD]
theorem seal0_zero {j : Nat} (h : 3 ≤ j) : (seal0 kind s.size).getD j 0 = 0 := by
  have _ := hs
  unfold seal0
  rw [getD_set_ne' (by omega), getD_set_ne' (by omega), getD_set_ne' (by omega)]
  unfold zsec
  rw [List.getD_eq_getElem?_getD, List.getElem?_replicate]
  split <;> rfl
theorem sealL_0 : (sealL a kind seq s).getD 0 0 = 76 := by
  rw [sealL_getD hs (by omega), seal1_lo hs (by omega)]
  unfold seal0
  rw [getD_set_ne' (by omega), getD_set_ne' (by omega), getD_set_eq' (by rw [zsec_length]; omega)]
theorem sealL_1 : (sealL a kind seq s).getD 1 0 = kind := by
  rw [sealL_getD hs (by omega), seal1_lo hs (by omega)]
  unfold seal0
  rw [getD_set_ne' (by omega), getD_set_eq' (by rw [List.length_set, zsec_length]; omega)]
theorem sealL_2 : (sealL a kind seq s).getD 2 0 = (s.size : Int) := by
  rw [sealL_getD hs (by omega), seal1_lo hs (by omega)]
  unfold seal0
  rw [getD_set_eq' (by rw [List.length_set, List.length_set, zsec_length]; omega)]
theorem sealL_3 : (sealL a kind seq s).getD 3 0 = 0 := by
  rw [sealL_getD hs (by omega), seal1_lo hs (by omega), seal0_zero hs (by omega)]
theorem seal2_length : (seal2 a kind seq s).length = 128 := by
  unfold seal2; rw [putN_length, putN_length]; exact seal1_length kind s hs
theorem sealL_seq (hq : 0 ≤ seq ∧ seq < 4294967296) : readN (sealL a kind seq s) 4 = seq := by
  unfold sealL
  rw [readN_other (by omega)]
  unfold seal2
  rw [readN_other (by omega), readN_put hq (by rw [seal1_length kind s hs]; omega)]
theorem sealL_place (ha : 0 ≤ a ∧ a < 4294967296) : readN (sealL a kind seq s) 120 = a := by
  unfold sealL
  rw [readN_other (by omega)]
  unfold seal2
  rw [readN_put ha (by rw [putN_length, seal1_length kind s hs]; omega)]
theorem sealL_sum : readN (sealL a kind seq s) 124 = crc ((sealL a kind seq s).take 124) := by
  have h : (sealL a kind seq s).take 124 = (seal2 a kind seq s).take 124 := by unfold sealL; exact take_put 4
  rw [h]
  unfold sealL
  exact readN_put (crc_bounds _) (by rw [seal2_length hs]; omega)
theorem sealL_str : openStr (sealL a kind seq s) = s := by
  have hL := sealL_length a kind seq s hs
  have hl := strL_length s
  unfold openStr
  rw [sealL_2 hs, Int.toNat_natCast]
  have : ((sealL a kind seq s).take (8 + s.size)).drop 8 = strL s := by
    apply List.ext_getElem (by rw [List.length_drop, List.length_take]; omega)
    intro i h1 h2
    have e1 := seal1_mid (kind := kind) hs (j := i) (by omega)
    rw [← sealL_getD (a := a) (seq := seq) hs (by omega)] at e1
    rw [List.getD_eq_getElem?_getD, List.getElem?_eq_getElem (by omega), List.getD_eq_getElem?_getD, List.getElem?_eq_getElem h2] at e1
    rw [List.getElem_drop, List.getElem_take]
    exact e1
  rw [this, strOfNums_strL]
theorem sealL_pad : padOk (sealL a kind seq s) = true := by
  refine (padOk_of (sealL_2 hs) (sealL_length a kind seq s hs) hs).2 fun p hp => ?_
  rw [sealL_getD hs (by omega), seal1_hi hs (by omega), seal0_zero hs (by omega)]
end

theorem sealE_zero {a kind : Int} {n : Nat} (hE : sealE a kind n = 0) : 0 ≤ a ∧ a < 256 ∧ 1 ≤ kind ∧ kind ≤ 255 ∧ n ≤ 112 := by
  unfold sealE at hE
  split at hE
  · omega
  · split at hE <;> omega
/-- Open of Seal is the frame. -/
theorem open_seal {a kind seq : Int} {s : ByteArray} (hE : sealE a kind s.size = 0) (hq : 0 ≤ seq ∧ seq < 4294967296) : openE a (sealL a kind seq s) = 0 := by
  obtain ⟨h1, h2, h3, h4, hs⟩ := sealE_zero hE
  unfold openE
  rw [if_neg (by omega), if_neg (fun h => by
    have h0 := sealL_0 (a := a) (kind := kind) (seq := seq) hs
    rw [h] at h0
    revert h0; decide), if_neg (by rw [sealL_sum hs]; simp), if_neg (by rw [sealL_0 hs, sealL_1 hs, sealL_2 hs, sealL_3 hs, sealL_place hs (by omega)]; omega), if_neg (by rw [sealL_pad hs]; simp), if_neg (by rw [sealL_place hs (by omega)]; simp)]

end Go.Proofs.YtloddiipepiocaaGreatDoor
/- Layer 4 in plain words: the reference's step of the checksum is the program's. No program in sight. -/
namespace Go.Proofs.YtloddiipepiocaaGreatDoor
open Go.RowKit

/-- One bit's step. -/
def crcF (r : Nat) : Nat := if r % 2 = 1 then (r / 2) ^^^ 3988292384 else r / 2
def crcFn (r : Nat) : Nat → Nat
  | 0 => r
  | k + 1 => crcF (crcFn r k)
theorem crcF_xor (a b : Nat) : crcF (a ^^^ b) = crcF a ^^^ crcF b := by
  have hd : (a ^^^ b) / 2 = a / 2 ^^^ b / 2 := Nat.xor_div_two
  have hm : (a ^^^ b) % 2 = 1 ↔ ¬ (a % 2 = 1 ↔ b % 2 = 1) := Nat.xor_mod_two_eq_one
  unfold crcF
  rw [hd]
  by_cases ha : a % 2 = 1
  · by_cases hb : b % 2 = 1
    · rw [if_neg (by rw [hm]; simp [ha, hb]), if_pos ha, if_pos hb, Nat.xor_assoc, Nat.xor_comm (b / 2) 3988292384, ← Nat.xor_assoc 3988292384, Nat.xor_self, Nat.zero_xor]
    · rw [if_pos (by rw [hm]; simp [ha, hb]), if_pos ha, if_neg hb, Nat.xor_assoc, Nat.xor_comm (b / 2), ← Nat.xor_assoc]
  · by_cases hb : b % 2 = 1
    · rw [if_pos (by rw [hm]; simp [ha, hb]), if_neg ha, if_pos hb, Nat.xor_assoc]
    · rw [if_neg (by rw [hm]; simp [ha, hb]), if_neg ha, if_neg hb]
theorem crcF_even (a : Nat) : crcF (2 * a) = a := by
  unfold crcF
  rw [if_neg (by omega)]
  omega
theorem xor_split (q n : Nat) (hn : n < 16) : (16 * q) ^^^ n = 16 * q + n := by
  have st : ∀ m k, (2 * m) ^^^ k = 2 * (m ^^^ k / 2) + k % 2 := fun m k => by
    have hd : ((2 * m) ^^^ k) / 2 = (2 * m) / 2 ^^^ k / 2 := Nat.xor_div_two
    have hm : ((2 * m) ^^^ k) % 2 = 1 ↔ ¬ ((2 * m) % 2 = 1 ↔ k % 2 = 1) := Nat.xor_mod_two_eq_one
    rw [show (2 * m) / 2 = m by omega] at hd
    have h2 : ((2 * m) ^^^ k) % 2 = k % 2 := by
      by_cases hk : k % 2 = 1
      · rw [hm.2 (fun h => by have := h.2 hk; omega), hk]
      · have : ¬ ((2 * m) ^^^ k) % 2 = 1 := fun h => (hm.1 h) ⟨fun h => by omega, fun h => absurd h hk⟩
        omega
    omega
  have h1 := st (8 * q) n
  have h2 := st (4 * q) (n / 2)
  have h3 := st (2 * q) (n / 2 / 2)
  have h4 := st q (n / 2 / 2 / 2)
  rw [show n / 2 / 2 / 2 / 2 = 0 by omega, Nat.xor_zero] at h4
  rw [show 16 * q = 2 * (8 * q) by omega, h1, show 8 * q = 2 * (4 * q) by omega, h2, show 4 * q = 2 * (2 * q) by omega, h3, h4]
  omega
def halfN : List Nat := [0x00000000, 0x1db71064, 0x3b6e20c8, 0x26d930ac, 0x76dc4190, 0x6b6b51f4, 0x4db26158, 0x5005713c, 0xedb88320, 0xf00f9344, 0xd6d6a3e8, 0xcb61b38c, 0x9b64c2b0, 0x86d3d2d4, 0xa00ae278, 0xbdbdf21c]
/-- Four bits' steps are the table's. -/
theorem crcF4 (r : Nat) : crcF (crcF (crcF (crcF r))) = halfN.getD (r % 16) 0 ^^^ (r / 16) := by
  obtain ⟨q, n, hn, rfl⟩ : ∃ q n, n < 16 ∧ r = 16 * q + n := ⟨r / 16, r % 16, by omega, by omega⟩
  rw [show (16 * q + n) % 16 = n by omega, show (16 * q + n) / 16 = q by omega, ← xor_split q n hn]
  rw [crcF_xor, crcF_xor, crcF_xor, crcF_xor, show 16 * q = 2 * (8 * q) by omega, crcF_even, show 8 * q = 2 * (4 * q) by omega, crcF_even, show 4 * q = 2 * (2 * q) by omega, crcF_even, crcF_even, Nat.xor_comm]
  congr 1
  have h : n = 0 ∨ n = 1 ∨ n = 2 ∨ n = 3 ∨ n = 4 ∨ n = 5 ∨ n = 6 ∨ n = 7 ∨ n = 8 ∨ n = 9 ∨ n = 10 ∨ n = 11 ∨ n = 12 ∨ n = 13 ∨ n = 14 ∨ n = 15 := by omega
  rcases h with rfl | rfl | rfl | rfl | rfl | rfl | rfl | rfl | rfl | rfl | rfl | rfl | rfl | rfl | rfl | rfl
  all_goals decide
theorem xor32 (x y : Nat) (hx : x < 4294967296) (hy : y < 4294967296) : bits .xor .u32 (x : Int) (y : Int) = ((x ^^^ y : Nat) : Int) := by
  have h : bits .xor .u32 (x : Int) (y : Int) = IntKind.u32.wrap ((BitVec.ofInt 32 (x : Int) ^^^ BitVec.ofInt 32 (y : Int)).toNat : Int) := rfl
  have hlt : x ^^^ y < 2 ^ 32 := Nat.xor_lt_two_pow (by omega) (by omega)
  rw [h, BitVec.toNat_xor, BitVec.ofInt_natCast, BitVec.ofInt_natCast, BitVec.toNat_ofNat, BitVec.toNat_ofNat, Nat.mod_eq_of_lt (by omega), Nat.mod_eq_of_lt (by omega), IntKind.wrap_u32']
  omega
theorem and32 (x : Nat) (hx : x < 4294967296) : bits .and .u32 (x : Int) 15 = ((x % 16 : Nat) : Int) := by
  have h : bits .and .u32 (x : Int) 15 = IntKind.u32.wrap ((BitVec.ofInt 32 (x : Int) &&& BitVec.ofInt 32 ((15 : Nat) : Int)).toNat : Int) := rfl
  rw [h, BitVec.toNat_and, BitVec.ofInt_natCast, BitVec.ofInt_natCast, BitVec.toNat_ofNat, BitVec.toNat_ofNat, Nat.mod_eq_of_lt (by omega), Nat.mod_eq_of_lt (by omega), show (15 : Nat) = 2 ^ 4 - 1 from rfl, Nat.and_two_pow_sub_one_eq_mod, IntKind.wrap_u32']
  omega
theorem halfN_lt (n : Nat) (hn : n < 16) : halfN.getD n 0 < 4294967296 ∧ halfL.getD n 0 = (halfN.getD n 0 : Nat) := by
  have h : n = 0 ∨ n = 1 ∨ n = 2 ∨ n = 3 ∨ n = 4 ∨ n = 5 ∨ n = 6 ∨ n = 7 ∨ n = 8 ∨ n = 9 ∨ n = 10 ∨ n = 11 ∨ n = 12 ∨ n = 13 ∨ n = 14 ∨ n = 15 := by omega
  rcases h with rfl | rfl | rfl | rfl | rfl | rfl | rfl | rfl | rfl | rfl | rfl | rfl | rfl | rfl | rfl | rfl
  all_goals decide
theorem crcF_lt {r : Nat} (h : r < 4294967296) : crcF r < 4294967296 := by
  unfold crcF
  split
  · exact Nat.xor_lt_two_pow (n := 32) (by show _ < 4294967296; omega) (by decide)
  · omega
theorem nib_eq (x : Nat) (hx : x < 4294967296) : nib (x : Int) = ((crcF (crcF (crcF (crcF x))) : Nat) : Int) := by
  have h1 := halfN_lt (x % 16) (by omega)
  unfold nib
  rw [and32 x hx, Int.toNat_natCast, h1.2, show ((x : Int) / 16) = ((x / 16 : Nat) : Int) by omega, xor32 _ _ h1.1 (by omega), crcF4]
/-- A byte's step. -/
theorem crcB_eq (x c : Nat) (hx : x < 4294967296) (hc : c < 256) : crcB (x : Int) (c : Int) = ((crcFn (x ^^^ c) 8 : Nat) : Int) := by
  have h0 : x ^^^ c < 4294967296 := Nat.xor_lt_two_pow (n := 32) (by show _ < 4294967296; omega) (by show _ < 4294967296; omega)
  have h4 := crcF_lt (crcF_lt (crcF_lt (crcF_lt h0)))
  unfold crcB
  rw [xor32 x c hx (by omega), nib_eq _ h0, nib_eq _ h4]
  rfl
theorem crcFn_lt {r : Nat} (h : r < 4294967296) (k : Nat) : crcFn r k < 4294967296 := by
  induction k with
  | zero => exact h
  | succ k ih => exact crcF_lt ih
end Go.Proofs.YtloddiipepiocaaGreatDoor
/- Layer 4, the reference: step, On, Crc walked. -/
namespace Go.Proofs.YtloddiipepiocaaGreatDoor
open Go.RowKit

set_option maxRecDepth 100000 in
set_option maxHeartbeats 1000000 in
theorem rstep_any (x c : Int) (hx : 0 ≤ x ∧ x < 4294967296) (hc : 0 ≤ c ∧ c < 256) (w : World) :
    Calls Tryz.prog 151 #[.int .u32 x, .int .u8 c] w fun e w' => e = .returned (.int .u32 (crcB x c)) ∧ w' = w := by
  obtain ⟨x, rfl⟩ : ∃ n : Nat, x = n := ⟨x.toNat, by omega⟩
  obtain ⟨c, rfl⟩ : ∃ n : Nat, c = n := ⟨c.toNat, by omega⟩
  rw [crcB_eq x c (by omega) (by omega)]
  have hxr := xor32 x c (by omega) (by omega)
  have h0 : x ^^^ c < 4294967296 := Nat.xor_lt_two_pow (n := 32) (by show _ < 4294967296; omega) (by show _ < 4294967296; omega)
  have hcm : (c : Int) % 4294967296 = c := by omega
  have hst : ∀ k, ((crcFn (x ^^^ c) (k + 1) : Nat) : Int) = if crcFn (x ^^^ c) k % 2 = 1 then bits .xor .u32 ((crcFn (x ^^^ c) k : Nat) / 2 : Int) 3988292384 else ((crcFn (x ^^^ c) k : Nat) / 2 : Int) := fun k => by
    have hk := crcFn_lt h0 k
    show ((crcF (crcFn (x ^^^ c) k) : Nat) : Int) = _
    unfold crcF
    split
    · rename_i h
      rw [← xor32 _ 3988292384 (by omega) (by decide)]
      rfl
    · omega
  have hlt : ∀ k, crcFn (x ^^^ c) k < 4294967296 := crcFn_lt h0
  generalize hfn : crcFn (x ^^^ c) = f at *
  have hf0 : ((f 0 : Nat) : Int) = ((x ^^^ c : Nat) : Int) := by rw [← hfn]; rfl
  clear hfn h0
  have HST := Lib.hid hst
  have HLT := Lib.hid hlt
  clear hst hlt
  go_enter Tryz.func151, Tryz.ntmps151
  go_wp2_with fail
  go_loopw [0, 5] (fun r q wr => ∃ k : Nat, k ≤ 8 ∧ q = .int .i64 k ∧ r = .int .u32 ((f k : Nat) : Int) ∧ wr = w) (fun _ q _ => 8 - (intOf q).toNat)
  case atStart => exact ⟨0, by omega, rfl, by rw [hf0, ← hxr]; try rw [hcm], rfl⟩
  case round =>
    obtain ⟨k, hk, rfl, rfl, hw⟩ := hrel
    subst hw
    by_cases hlt : k < 8
    · have hn := HST.out k
      have hb := HLT.out k
      generalize f k = r at hn hb
      by_cases hodd : r % 2 = 1
      · rw [if_pos hodd] at hn
        have hod : (r : Int) % 2 = 1 := by omega
        go_wp2_with fail
        go_roundw
        case rel => exact ⟨k + 1, by omega, by go_num, by rw [hn], by first | trivial | rfl⟩
        case measure => simp [intOf]; omega
      · rw [if_neg hodd] at hn
        have hod : ¬ (r : Int) % 2 = 1 := by omega
        go_wp2_with fail
        go_roundw
        case rel => exact ⟨k + 1, by omega, by go_num, by rw [hn], by first | trivial | rfl⟩
        case measure => simp [intOf]; omega
    · obtain rfl : k = 8 := by omega
      go_wp2_with fail
      go_ret
      exact ⟨rfl, rfl⟩

set_option maxRecDepth 100000 in
set_option maxHeartbeats 1000000 in
theorem ron_any (A : Option Addr) (c : Nat) (xs : List Int) (hl : xs.length ≤ 100000) (hbx : Bytes xs) (w : World) (hX : Reads w A (xs.map (.int .u8))) :
    Calls Tryz.prog 88 #[.int .u32 0, .slice A xs.length c] w fun e w' => e = .returned (.int .u32 (crc xs)) ∧ w' = w := by
  have hcl : ∀ k, k ≤ xs.length → 0 ≤ crcL 4294967295 (xs.take k) ∧ crcL 4294967295 (xs.take k) < 4294967296 := fun k => by
    induction k with
    | zero => intro _; exact (by decide : (0 : Int) ≤ 4294967295 ∧ (4294967295 : Int) < 4294967296)
    | succ k ih =>
      intro hk
      rw [crcL_snoc _ _ k hk]
      have h := ih (by omega)
      have hy := hbx _ (List.getElem_mem hk)
      generalize crcL 4294967295 (xs.take k) = q at h
      generalize xs[k] = y at hy
      obtain ⟨q, rfl⟩ : ∃ n : Nat, q = n := ⟨q.toNat, by omega⟩
      obtain ⟨y, rfl⟩ : ∃ n : Nat, y = n := ⟨y.toNat, by omega⟩
      have hq : q ^^^ y < 4294967296 := Nat.xor_lt_two_pow (n := 32) (by show _ < 4294967296; omega) (by show _ < 4294967296; omega)
      rw [crcB_eq q y (by omega) (by omega)]
      have := crcFn_lt hq 8
      omega
  have hmx : bits BinOp.xor IntKind.u32 0 4294967295 = 4294967295 := by decide
  have hend : ∀ x : Int, 0 ≤ x ∧ x < 4294967296 → bits BinOp.xor IntKind.u32 x 4294967295 = bits .xor .u32 IntKind.u32.max x := fun x hx => by
    obtain ⟨x, rfl⟩ : ∃ n : Nat, x = n := ⟨x.toNat, by omega⟩
    have hm : IntKind.u32.max = ((4294967295 : Nat) : Int) := by decide
    rw [hm, xor32 _ _ (by decide) (by omega), Nat.xor_comm, ← xor32 _ _ (by omega) (by decide)]
    rfl
  have HCL := Lib.hid hcl
  clear hcl
  go_enter Tryz.func88, Tryz.ntmps88
  go_wp2_with fail
  go_loopw [5, 6] (fun x q wr => ∃ k : Nat, k ≤ xs.length ∧ q = .int .i64 k ∧ x = .int .u32 (crcL 4294967295 (xs.take k)) ∧ wr = w) (fun _ q _ => xs.length - (intOf q).toNat)
  case atStart => exact ⟨0, Nat.zero_le _, rfl, rfl, rfl⟩
  case round =>
    obtain ⟨k, hk, rfl, rfl, hw⟩ := hrel
    subst hw
    by_cases hlt : k < xs.length
    · obtain ⟨b, off, rfl, hb, hc⟩ := hX.at_ (k := k) (by simpa using hlt)
      rw [List.getElem_map] at hc
      have hs := Lib.hid (crcL_snoc 4294967295 xs k hlt)
      have hxb := HCL.out k hk
      generalize crcL 4294967295 (xs.take k) = x at hs hxb
      have hyb := hbx _ (List.getElem_mem hlt)
      generalize xs[k] = y at hc hs hyb
      go_wp2_with fail
      refine (rstep_any x y hxb hyb _).mono ?_
      rintro e w' ⟨rfl, rfl⟩
      go_wp2_with fail
      go_roundw
      case rel => exact ⟨k + 1, by omega, by go_num, by rw [hs.out], by first | trivial | rfl⟩
      case measure => simp [intOf]; omega
    · obtain rfl : k = xs.length := by omega
      have hxb := HCL.out _ hk
      rw [List.take_length] at hxb
      rw [List.take_length]
      have he := hend _ hxb
      go_wp2_with fail
      go_ret
      exact ⟨by unfold crc; rfl, rfl⟩

set_option maxHeartbeats 400000 in
theorem rcrc_any (A : Option Addr) (c : Nat) (xs : List Int) (hl : xs.length ≤ 100000) (hbx : Bytes xs) (w : World) (hX : Reads w A (xs.map (.int .u8))) :
    Calls Tryz.prog 39 #[.slice A xs.length c] w fun e w' => e = .returned (.int .u32 (crc xs)) ∧ w' = w := by
  go_enter Tryz.func39, Tryz.ntmps39
  go_wp2_with fail
  refine (ron_any A c xs hl hbx _ hX).mono ?_
  rintro e w' ⟨rfl, rfl⟩
  go_wp2_with fail
  go_ret
  exact ⟨rfl, rfl⟩

end Go.Proofs.YtloddiipepiocaaGreatDoor
/- Layer 6: a device: ok, ready, at, Sectors. -/
namespace Go.Proofs.YtloddiipepiocaaGreatDoor
open Go.RowKit

/-- A device's own cells: the stable sectors' slice, the cache's, Taken, Power, Off, the map. -/
def devC (S n c : Nat) (cv : Value) (tk pw : Int) (off : Bool) (M : Nat) : Array Value := #[.slice (some ⟨S, 0, none⟩) n c, cv, .int .i64 tk, .int .i64 pw, .bool off, .map (some M)]

set_option maxRecDepth 100000 in
set_option maxHeartbeats 400000 in
theorem devOk_any (D S n c : Nat) (cv : Value) (tk pw : Int) (off : Bool) (M : Nat) (w : World) (bD : Blk w D 115 (devC S n c cv tk pw off M)) :
    Calls Tryz.prog 48 #[.pointer (some ⟨D, 0, none⟩)] w fun e w' => e = .returned (.bool true) ∧ w' = w := by
  unfold devC at bD
  have cD := bD.cells
  have hmn := run_neq_map_nil (P := Tryz.prog) w 113 3 3 (some M) Tryz.underlying113
  go_enter Tryz.func48, Tryz.ntmps48
  go_wp2_with fail
  go_ret
  exact ⟨rfl, rfl⟩
set_option maxHeartbeats 400000 in
theorem devOk_nil (w : World) :
    Calls Tryz.prog 48 #[.pointer none] w fun e w' => e = .returned (.bool false) ∧ w' = w := by
  go_enter Tryz.func48, Tryz.ntmps48
  go_wp2_with fail
  go_ret
  exact ⟨rfl, rfl⟩

def readyE (off : Bool) : Int := if off then 13 else 0
set_option maxRecDepth 100000 in
set_option maxHeartbeats 400000 in
theorem ready_any (D S n c : Nat) (cv : Value) (tk pw : Int) (off : Bool) (M : Nat) (w : World) (bD : Blk w D 115 (devC S n c cv tk pw off M)) :
    Calls Tryz.prog 161 #[.pointer (some ⟨D, 0, none⟩)] w fun e w' => e = .returned (.int .i64 (readyE off)) ∧ w' = w := by
  have hok := devOk_any D S n c cv tk pw off M w bD
  unfold devC at bD
  have cD := bD.cells
  cases off
  all_goals
    go_enter Tryz.func161, Tryz.ntmps161
    go_wp2_with fail
    refine hok.mono ?_
    rintro e w1 ⟨rfl, rfl⟩
    go_wp2_with fail
    go_ret
    exact ⟨rfl, rfl⟩

def atE (off : Bool) (n : Nat) (a : Int) : Int := if off then 13 else if a < 0 ∨ (n : Int) ≤ a then 7 else 0
set_option maxRecDepth 100000 in
set_option maxHeartbeats 400000 in
theorem at_any (D S n c : Nat) (cv : Value) (tk pw : Int) (off : Bool) (M : Nat) (a : Int) (w : World) (bD : Blk w D 115 (devC S n c cv tk pw off M)) :
    Calls Tryz.prog 153 #[.pointer (some ⟨D, 0, none⟩), .int .i64 a] w fun e w' => e = .returned (.int .i64 (atE off n a)) ∧ w' = w := by
  have hr := ready_any D S n c cv tk pw off M w bD
  unfold devC at bD
  have cD := bD.cells
  unfold readyE at hr
  cases off
  · by_cases a1 : a < 0
    rotate_left
    by_cases a2 : (n : Int) ≤ a
    all_goals
      have HA : Hid (atE false n a = if a < 0 ∨ (n : Int) ≤ a then 7 else 0) := Lib.hid rfl
      first
        | (have HE : Hid (atE false n a = 0) := Lib.hid (by rw [HA.out, if_neg (by omega)]))
        | (have HE : Hid (atE false n a = 7) := Lib.hid (by rw [HA.out, if_pos (by omega)]))
      go_enter Tryz.func153, Tryz.ntmps153
      go_wp2_with fail
      refine hr.mono ?_
      rintro e w1 ⟨rfl, rfl⟩
      go_wp2_with fail
      go_ret
      exact ⟨by rw [HE.out]; rfl, rfl⟩
  · go_enter Tryz.func153, Tryz.ntmps153
    go_wp2_with fail
    refine hr.mono ?_
    rintro e w1 ⟨rfl, rfl⟩
    go_wp2_with fail
    go_ret
    exact ⟨rfl, rfl⟩

end Go.Proofs.YtloddiipepiocaaGreatDoor
/- Layer 6: where a sector is read. -/
namespace Go.Proofs.YtloddiipepiocaaGreatDoor
open Go.RowKit Go.Maps

/-- The map from sectors to their newest writes, when k writes have been looked at; and what it says. -/
def newestD (ats : List Int) : Nat → DataW Unit
  | 0 => .map []
  | k + 1 => (newestD ats k).put (.int .i64 (ats.getD k 0)) (.lit (.int .i64 k))
def newIdx (ats : List Int) (a : Int) : Nat → Option Nat
  | 0 => none
  | k + 1 => if ats.getD k 0 = a then some k else newIdx ats a k
theorem newestD_isMap (ats : List Int) (k : Nat) : IsMap (newestD ats k) := by
  cases k with
  | zero => exact isMap_empty
  | succ k =>
    induction k with
    | zero => exact isMap_empty.put _ _
    | succ k ih => exact ih.put _ _
theorem newestD_has (ats : List Int) (a : Int) (k : Nat) : has (newestD ats k) (.int .i64 a) = (newIdx ats a k).isSome := by
  induction k with
  | zero => rfl
  | succ k ih =>
    unfold newestD newIdx
    by_cases h : ats.getD k 0 = a
    · rw [h, if_pos rfl]
      exact has_put_same (newestD_isMap ats k) (show WideAt.IsKeyLit (.int .i64 a) from trivial) _
    · rw [if_neg h, has_put_other (by intro e; cases e; exact h rfl), ih]
theorem newestD_at (ats : List Int) (a : Int) (k : Nat) (z : DataW Unit) : (newestD ats k).atKey (.int .i64 a) z = match newIdx ats a k with | some i => .lit (.int .i64 i) | none => z := by
  induction k with
  | zero => rfl
  | succ k ih =>
    unfold newestD newIdx
    by_cases h : ats.getD k 0 = a
    · rw [h, if_pos rfl]
      exact atKey_put_same (newestD_isMap ats k) (show WideAt.IsKeyLit (.int .i64 a) from trivial) _ _
    · rw [if_neg h, atKey_put_other (by intro e; cases e; exact h rfl), ih]
theorem newIdx_lt {ats : List Int} {a : Int} {k i : Nat} (h : newIdx ats a k = some i) : i < k ∧ ats.getD i 0 = a := by
  induction k with
  | zero => cases h
  | succ k ih =>
    unfold newIdx at h
    split at h
    · cases h; exact ⟨by omega, by assumption⟩
    · have := ih h; exact ⟨by omega, this.2⟩

/-- Where a sector's bytes lie. -/
def readsP (S : Nat) (ats : List Int) (g : Nat) (a : Nat) : Addr := match newIdx ats (a : Int) ats.length with | some i => ⟨g, i * 129 + 1, none⟩ | none => ⟨S, a * 128, none⟩

set_option maxRecDepth 100000 in
set_option maxHeartbeats 1000000 in
theorem reads_any (D S n c g L cc : Nat) (A : Option Addr) (tk pw : Int) (off : Bool) (M q : Nat) (ats : List Int) (a : Nat) (hL : ats.length = L) (hA : 0 < L → A = some ⟨g, 0, none⟩) (ha : a < n) (hn : n ≤ 1000) (hL2 : L ≤ 1000) (w : World)
    (bD : Blk w D 115 (devC S n c (.slice A L cc) tk pw off M)) (hM : w.ownsMap Tryz.prog 3 (plainElem Tryz.prog 3) M q (newestD ats L)) :
    Calls Tryz.prog 154 #[.pointer (some ⟨D, 0, none⟩), .int .i64 a] w fun e w' => e = .returned (.pointer (some (readsP S ats g a))) ∧ w' = w := by
  have wa : (Lit.int .i64 (a : Int)).wf = true := by simp [Lit.wf, IntKind.min, IntKind.max, IntKind.signed, IntKind.bits]; omega
  have hz : (zeroValue 3).run Tryz.prog w = .ok (.int .i64 0) w := by kernel_rfl
  obtain ⟨v, ps, hrun, hv⟩ := hM.look_ok (int_keyed Tryz.underlying3) Tryz.underlying113 hz (plainElem_int Tryz.underlying3 (by decide)) (keyOf_int_mk Tryz.underlying3 wa)
  obtain ⟨i, rfl, hi, _⟩ := plainElem_int_inv Tryz.underlying3 hv
  have hi := congrArg Prod.fst hi
  simp only at hi
  rw [newestD_at] at hi
  rw [newestD_has] at hrun
  unfold devC at bD
  have cD := bD.cells
  unfold readsP
  rw [hL]
  cases hx : newIdx ats (a : Int) L with
  | none =>
    rw [hx] at hi hrun
    have HI := Lib.hid hi
    clear hi hv hM hx
    simp only [Option.isSome_none] at hrun
    go_enter Tryz.func154, Tryz.ntmps154
    go_wp2_with fail
    go_ret
    exact ⟨rfl, rfl⟩
  | some p =>
    obtain ⟨hp, _⟩ := newIdx_lt hx
    have hA' := hA (by omega)
    subst hA'
    rw [hx] at hi hrun
    have hpi : (p : Int) = i := by simpa using hi
    subst hpi
    clear hi hv hM hx
    simp only [Option.isSome_some] at hrun
    go_enter Tryz.func154, Tryz.ntmps154
    go_wp2_with fail
    go_ret
    exact ⟨rfl, rfl⟩

end Go.Proofs.YtloddiipepiocaaGreatDoor
