/- Parts of the proof, put together by program: Y0, Y1, Y2, J0, X2. -/
import Derived.Test.YtjocnooekgnedaaGreatDoorPart08
import Derived.Laws.BitsAllLaws
import Derived.Shelf.Spec.RuneCount
import Derived.Test.YtjocnooekgnedaaGreatDoorPart11
set_option linter.unusedVariables false
set_option linter.unusedSimpArgs false
/- Plain laws of layer 7: Open of Seal. No program in sight. -/
namespace Go.Proofs.YtjocnooekgnedaaGreatDoor
open Go.RowKit

theorem getD_set_ne' {xs : List Int} {i j : Nat} {v : Int} (h : i ≠ j) : (xs.set i v).getD j 0 = xs.getD j 0 := by
  rw [List.getD_eq_getElem?_getD, List.getD_eq_getElem?_getD, List.getElem?_set, if_neg h]
theorem getD_set_eq' {xs : List Int} {i : Nat} {v : Int} (h : i < xs.length) : (xs.set i v).getD i 0 = v := by
  rw [List.getD_eq_getElem?_getD, List.getElem?_set, if_pos rfl, if_pos h]; rfl
theorem putK_out {xs : List Int} {a j : Nat} {n : Int} : ∀ {k : Nat}, j < a ∨ a + k ≤ j → (putK xs a n k).getD j 0 = xs.getD j 0
  | 0, _ => rfl
  | k + 1, h => by
    show ((putK xs a n k).set (a + k) (nb n k)).getD j 0 = _
    rw [getD_set_ne' (by omega), putK_out (by omega)]
theorem putK_in {xs : List Int} {a : Nat} {n : Int} : ∀ {k j : Nat}, j < k → a + k ≤ xs.length → (putK xs a n k).getD (a + j) 0 = nb n j
  | 0, j, h, _ => absurd h (by omega)
  | k + 1, j, h, hl => by
    show ((putK xs a n k).set (a + k) (nb n k)).getD (a + j) 0 = _
    by_cases e : j = k
    · subst e; exact getD_set_eq' (by rw [putK_length]; omega)
    · rw [getD_set_ne' (by omega), putK_in (by omega) (by omega)]

theorem or32 (x y : Nat) (hx : x < 4294967296) (hy : y < 4294967296) : bits .or .u32 (x : Int) (y : Int) = ((x ||| y : Nat) : Int) := by
  have h : bits .or .u32 (x : Int) (y : Int) = IntKind.u32.wrap ((BitVec.ofInt 32 (x : Int) ||| BitVec.ofInt 32 (y : Int)).toNat : Int) := rfl
  have hlt : x ||| y < 2 ^ 32 := Nat.or_lt_two_pow (by omega) (by omega)
  rw [h, BitVec.toNat_or, BitVec.ofInt_natCast, BitVec.ofInt_natCast, BitVec.toNat_ofNat, BitVec.toNat_ofNat, Nat.mod_eq_of_lt (by omega), Nat.mod_eq_of_lt (by omega), IntKind.wrap_u32']
  omega
theorem readK_of (xs : List Int) (a : Nat) (n : Nat) : ∀ k, k ≤ 4 → (∀ j, j < k → xs.getD (a + j) 0 = nb (n : Int) j) → readK xs a k = ((n % 2 ^ (8 * k) : Nat) : Int)
  | 0, _, _ => by simp [readK, Nat.mod_one]
  | k + 1, hk, h => by
    have ih := readK_of xs a n k (by omega) (fun j hj => h j (by omega))
    unfold readK
    rw [ih, h k (by omega)]
    have hb : nb (n : Int) k = ((n / 2 ^ (8 * k) % 256 : Nat) : Int) := by unfold nb; simp
    rw [hb]
    have hc : ((n / 2 ^ (8 * k) % 256 : Nat) : Int) * 2 ^ (8 * k) % 4294967296 = ((2 ^ (8 * k) * (n / 2 ^ (8 * k) % 256) : Nat) : Int) := by
      have hlt : 2 ^ (8 * k) * (n / 2 ^ (8 * k) % 256) < 4294967296 := by
        have h1 : n / 2 ^ (8 * k) % 256 < 256 := Nat.mod_lt _ (by omega)
        have h2 : 2 ^ (8 * k) * (n / 2 ^ (8 * k) % 256) < 2 ^ (8 * k) * 256 := Nat.mul_lt_mul_of_pos_left h1 (Nat.two_pow_pos _)
        have h3 : 2 ^ (8 * k) * 256 ≤ 2 ^ 32 := by
          have : 2 ^ (8 * k) * 256 = 2 ^ (8 * k + 8) := by rw [Nat.pow_add]
          rw [this]
          exact Nat.pow_le_pow_right (by omega) (by omega)
        omega
      have hm : ((n / 2 ^ (8 * k) % 256 : Nat) : Int) * 2 ^ (8 * k) = ((2 ^ (8 * k) * (n / 2 ^ (8 * k) % 256) : Nat) : Int) := by
        generalize n / 2 ^ (8 * k) % 256 = y
        rw [Int.natCast_mul, Int.mul_comm]
        congr 1
      rw [hm]
      omega
    have h1 : n % 2 ^ (8 * k) < 2 ^ (8 * k) := Nat.mod_lt _ (Nat.two_pow_pos _)
    have h256 : n / 2 ^ (8 * k) % 256 < 256 := Nat.mod_lt _ (by omega)
    have hpow : 2 ^ (8 * k) * 256 = 2 ^ (8 * (k + 1)) := by rw [show 8 * (k + 1) = 8 * k + 8 by omega, Nat.pow_add]
    have hle : 2 ^ (8 * (k + 1)) ≤ 2 ^ 32 := Nat.pow_le_pow_right (by omega) (by omega)
    have hlt2 : 2 ^ (8 * k) * (n / 2 ^ (8 * k) % 256) < 2 ^ (8 * k) * 256 := Nat.mul_lt_mul_of_pos_left h256 (Nat.two_pow_pos _)
    rw [hc, or32 _ _ (by omega) (by omega), Nat.or_comm, ← Nat.two_pow_add_eq_or_of_lt h1]
    congr 1
    rw [← hpow]
    rw [Nat.mod_mul]
    omega
theorem readN_put {xs : List Int} {a : Nat} {n : Int} (hn : 0 ≤ n ∧ n < 4294967296) (hl : a + 4 ≤ xs.length) : readN (putN xs a n) a = n := by
  obtain ⟨m, rfl⟩ := Int.eq_ofNat_of_zero_le hn.1
  show readK (putN xs a (m : Int)) a 4 = _
  rw [readK_of (putN xs a (m : Int)) a m 4 (by omega) (fun j hj => putK_in (k := 4) hj hl)]
  omega
theorem readK_congr {xs ys : List Int} {a : Nat} : ∀ k, (∀ j, j < k → xs.getD (a + j) 0 = ys.getD (a + j) 0) → readK xs a k = readK ys a k
  | 0, _ => rfl
  | k + 1, h => by
    unfold readK
    rw [readK_congr k (fun j hj => h j (by omega)), h k (by omega)]
theorem readN_other {xs : List Int} {a b : Nat} {n : Int} (h : a + 4 ≤ b ∨ b + 4 ≤ a) : readN (putN xs a n) b = readN xs b :=
  readK_congr 4 fun _ hj => putK_out (by omega)
theorem take_put {xs : List Int} {a : Nat} {n : Int} : ∀ k, (putK xs a n k).take a = xs.take a
  | 0 => rfl
  | k + 1 => by
    show ((putK xs a n k).set (a + k) (nb n k)).take a = _
    rw [List.take_set_of_le (by omega), take_put k]

theorem strOfNums_strL (s : ByteArray) : strOfNums (strL s) = s := strOfNums_bytes s

/-! A sealed sector's parts. -/
section
variable {a kind seq : Int} {s : ByteArray} (hs : s.size ≤ 112)
include hs
theorem sealL_getD {j : Nat} (h : j < 4 ∨ 8 ≤ j ∧ j < 120) : (sealL a kind seq s).getD j 0 = (seal1 kind s).getD j 0 := by
  have _ := hs
  unfold sealL seal2 putN
  rw [putK_out (by omega), putK_out (by omega), putK_out (by omega)]
theorem seal1_lo {j : Nat} (h : j < 8) : (seal1 kind s).getD j 0 = (seal0 kind s.size).getD j 0 := by
  have _ := hs
  have h0 := seal0_length kind s.size
  unfold seal1
  rw [List.getD_eq_getElem?_getD, List.append_assoc, List.getElem?_append_left (by rw [List.length_take]; omega), List.getElem?_take, if_pos h, List.getD_eq_getElem?_getD]
theorem seal1_mid {j : Nat} (h : j < s.size) : (seal1 kind s).getD (8 + j) 0 = (strL s).getD j 0 := by
  have _ := hs
  have h0 := seal0_length kind s.size
  have hL := strL_length s
  unfold seal1
  rw [List.getD_eq_getElem?_getD, List.append_assoc, List.getElem?_append_right (by rw [List.length_take]; omega), List.length_take, show 8 + j - min 8 (seal0 kind s.size).length = j by omega, List.getElem?_append_left (by omega), List.getD_eq_getElem?_getD]
theorem seal1_hi {j : Nat} (h : 8 + s.size ≤ j) : (seal1 kind s).getD j 0 = (seal0 kind s.size).getD j 0 := by
  have _ := hs
  have h0 := seal0_length kind s.size
  have hL := strL_length s
  unfold seal1
  rw [List.getD_eq_getElem?_getD, List.getElem?_append_right (by rw [List.length_append, List.length_take]; omega), List.length_append, List.length_take, List.getElem?_drop, show 8 + s.size + (j - (min 8 (seal0 kind s.size).length + (strL s).length)) = j by omega, List.getD_eq_getElem?_getD]
theorem seal0_zero {j : Nat} (h : 3 ≤ j) : (seal0 kind s.size).getD j 0 = 0 := by
  have _ := hs
  unfold seal0
  rw [getD_set_ne' (by omega), getD_set_ne' (by omega), getD_set_ne' (by omega)]
  unfold zsec
  rw [List.getD_eq_getElem?_getD, List.getElem?_replicate]
  split <;> rfl
theorem sealL_0 : (sealL a kind seq s).getD 0 0 = 76 := by
  rw [sealL_getD hs (by omega), seal1_lo hs (by omega)]
  unfold seal0
  rw [getD_set_ne' (by omega), getD_set_ne' (by omega), getD_set_eq' (by rw [zsec_length]; omega)]
theorem sealL_1 : (sealL a kind seq s).getD 1 0 = kind := by
  rw [sealL_getD hs (by omega), seal1_lo hs (by omega)]
  unfold seal0
  rw [getD_set_ne' (by omega), getD_set_eq' (by rw [List.length_set, zsec_length]; omega)]
theorem sealL_2 : (sealL a kind seq s).getD 2 0 = (s.size : Int) := by
  rw [sealL_getD hs (by omega), seal1_lo hs (by omega)]
  unfold seal0
  rw [getD_set_eq' (by rw [List.length_set, List.length_set, zsec_length]; omega)]
theorem sealL_3 : (sealL a kind seq s).getD 3 0 = 0 := by
  rw [sealL_getD hs (by omega), seal1_lo hs (by omega), seal0_zero hs (by omega)]
theorem seal2_length : (seal2 a kind seq s).length = 128 := by
  unfold seal2; rw [putN_length, putN_length]; exact seal1_length kind s hs
theorem sealL_seq (hq : 0 ≤ seq ∧ seq < 4294967296) : readN (sealL a kind seq s) 4 = seq := by
  unfold sealL
  rw [readN_other (by omega)]
  unfold seal2
  rw [readN_other (by omega), readN_put hq (by rw [seal1_length kind s hs]; omega)]
theorem sealL_place (ha : 0 ≤ a ∧ a < 4294967296) : readN (sealL a kind seq s) 120 = a := by
  unfold sealL
  rw [readN_other (by omega)]
  unfold seal2
  rw [readN_put ha (by rw [putN_length, seal1_length kind s hs]; omega)]
theorem sealL_sum : readN (sealL a kind seq s) 124 = crc ((sealL a kind seq s).take 124) := by
  have h : (sealL a kind seq s).take 124 = (seal2 a kind seq s).take 124 := by unfold sealL; exact take_put 4
  rw [h]
  unfold sealL
  exact readN_put (crc_bounds _) (by rw [seal2_length hs]; omega)
theorem sealL_str : openStr (sealL a kind seq s) = s := by
  have hL := sealL_length a kind seq s hs
  have hl := strL_length s
  unfold openStr
  rw [sealL_2 hs, Int.toNat_natCast]
  have : ((sealL a kind seq s).take (8 + s.size)).drop 8 = strL s := by
    apply List.ext_getElem (by rw [List.length_drop, List.length_take]; omega)
    intro i h1 h2
    have e1 := seal1_mid (kind := kind) hs (j := i) (by omega)
    rw [← sealL_getD (a := a) (seq := seq) hs (by omega)] at e1
    rw [List.getD_eq_getElem?_getD, List.getElem?_eq_getElem (by omega), List.getD_eq_getElem?_getD, List.getElem?_eq_getElem h2] at e1
    rw [List.getElem_drop, List.getElem_take]
    exact e1
  rw [this, strOfNums_strL]
theorem sealL_pad : padOk (sealL a kind seq s) = true := by
  refine (padOk_of (sealL_2 hs) (sealL_length a kind seq s hs) hs).2 fun p hp => ?_
  rw [sealL_getD hs (by omega), seal1_hi hs (by omega), seal0_zero hs (by omega)]
end

theorem sealE_zero {a kind : Int} {n : Nat} (hE : sealE a kind n = 0) : 0 ≤ a ∧ a < 256 ∧ 1 ≤ kind ∧ kind ≤ 255 ∧ n ≤ 112 := by
  unfold sealE at hE
  split at hE
  · omega
  · split at hE <;> omega
/-- Open of Seal is the frame. -/
theorem open_seal {a kind seq : Int} {s : ByteArray} (hE : sealE a kind s.size = 0) (hq : 0 ≤ seq ∧ seq < 4294967296) : openE a (sealL a kind seq s) = 0 := by
  obtain ⟨h1, h2, h3, h4, hs⟩ := sealE_zero hE
  unfold openE
  rw [if_neg (by omega), if_neg (fun h => by
    have h0 := sealL_0 (a := a) (kind := kind) (seq := seq) hs
    rw [h] at h0
    revert h0; decide), if_neg (by rw [sealL_sum hs]; simp), if_neg (by rw [sealL_0 hs, sealL_1 hs, sealL_2 hs, sealL_3 hs, sealL_place hs (by omega)]; omega), if_neg (by rw [sealL_pad hs]; simp), if_neg (by rw [sealL_place hs (by omega)]; simp)]

end Go.Proofs.YtjocnooekgnedaaGreatDoor
/- Plain laws of layer 6 and 7: what a device reads as behind Write, Flush, Put. No program in sight. -/
namespace Go.Proofs.YtjocnooekgnedaaGreatDoor
open Go.RowKit

theorem newIdx_app (c r : List Int) (a : Int) (k : Nat) (hk : k ≤ c.length) : newIdx (c ++ r) a k = newIdx c a k := by
  induction k with
  | zero => rfl
  | succ k ih =>
    unfold newIdx
    rw [ih (by omega), List.getD_eq_getElem?_getD, List.getElem?_append_left (by omega), List.getD_eq_getElem?_getD]
theorem newIdx_snoc (c : List Int) (a b : Int) : newIdx (c ++ [a]) b (c.length + 1) = if a = b then some c.length else newIdx c b c.length := by
  show (if (c ++ [a]).getD c.length 0 = b then some c.length else newIdx (c ++ [a]) b c.length) = _
  rw [newIdx_app c [a] b c.length (Nat.le_refl _)]
  have : (c ++ [a]).getD c.length 0 = a := by
    rw [List.getD_eq_getElem?_getD, List.getElem?_append_right (Nat.le_refl _)]; simp
  rw [this]
theorem added_reads (x : DevS) (a : Int) (s : List Int) (b : Int) : (x.added a s).reads b = if b = a then s else x.reads b := by
  have hi : (x.added a s).idx b = if a = b then some x.cache.length else x.idx b := by
    show newIdx (atsOf (x.cache ++ [(a, s)])) b (x.cache ++ [(a, s)]).length = _
    have e : atsOf (x.cache ++ [(a, s)]) = atsOf x.cache ++ [a] := by unfold atsOf; simp
    have h := newIdx_snoc (atsOf x.cache) a b
    rw [atsOf_length] at h
    rw [e, List.length_append]
    exact h
  have hu : (x.added a s).reads b = match (x.added a s).idx b with | some i => ((x.cache ++ [(a, s)]).getD i (0, [])).2 | none => x.stable.getD b.toNat [] := rfl
  have hv : x.reads b = match x.idx b with | some i => (x.cache.getD i (0, [])).2 | none => x.stable.getD b.toNat [] := rfl
  rw [hu, hi, hv]
  by_cases h : a = b
  · subst h
    simp
  · rw [if_neg h, if_neg (fun e => h e.symm)]
    cases hx : x.idx b with
    | none => rfl
    | some i =>
      have hl := (newIdx_lt hx).1
      simp [List.getD_eq_getElem?_getD, List.getElem?_append_left hl]
theorem stApply_get (st : List (List Int)) (c : List (Int × List Int)) (b : Nat) (hb : b < st.length) (hc : ∀ p ∈ c, 0 ≤ p.1) : ∀ k, k ≤ c.length → (stApply st (c.take k)).getD b [] = match newIdx (atsOf c) (b : Int) k with | some i => (c.getD i (0, [])).2 | none => st.getD b []
  | 0, _ => rfl
  | k + 1, hk => by
    have hlt : k < c.length := by omega
    have ih := stApply_get st c b hb hc k (by omega)
    rw [stApply_step hlt]
    have h0 := hc _ (List.getElem_mem hlt)
    have ha : (atsOf c).getD k 0 = c[k].1 := by unfold atsOf; simp [hlt]
    show _ = (match (if (atsOf c).getD k 0 = (b : Int) then some k else newIdx (atsOf c) (b : Int) k) with | some i => (c.getD i (0, [])).2 | none => st.getD b [])
    rw [ha]
    by_cases e : c[k].1 = (b : Int)
    · rw [if_pos e, e, Int.toNat_natCast]
      simp [List.getElem?_set, hlt, stApply_length, hb]
    · rw [if_neg e, ← ih, List.getD_eq_getElem?_getD, List.getElem?_set, if_neg (by omega), List.getD_eq_getElem?_getD]
theorem flushed_reads {x : DevS} (ok : x.Ok) {b : Int} (hb : 0 ≤ b ∧ b < x.stable.length) : x.flushed.reads b = x.reads b := by
  have h := stApply_get x.stable x.cache b.toNat (by omega) (fun p hp => (ok.cac p hp).1) x.cache.length (Nat.le_refl _)
  rw [List.take_length, show ((b.toNat : Nat) : Int) = b by omega] at h
  exact h
theorem room_reads {x : DevS} (ok : x.Ok) {b : Int} (hb : 0 ≤ b ∧ b < x.stable.length) : x.room.reads b = x.reads b := by
  unfold DevS.room
  split
  · exact flushed_reads ok hb
  · rfl

/-- A device that has power for ever, and has not taken many writes. -/
structure DevS.Runs (x : DevS) (n : Nat) : Prop where
  ok : x.Ok
  on : x.off = false
  pw : x.power = -1
  tk : x.taken + n ≤ 1000000000000
theorem DevS.Runs.mono {x : DevS} {n m : Nat} (h : x.Runs n) (hm : m ≤ n) : x.Runs m := ⟨h.ok, h.on, h.pw, by have := h.tk; omega⟩
/-- Both read alike. -/
structure DevS.Like (x y : DevS) : Prop where
  size : y.stable.length = x.stable.length
  reads : ∀ b : Int, 0 ≤ b → b < x.stable.length → y.reads b = x.reads b

theorem atE_in {x : DevS} (h : x.off = false) {a : Int} (ha : 0 ≤ a ∧ a < x.stable.length) : x.atE a = 0 := by
  show Go.Proofs.YtjocnooekgnedaaGreatDoor.atE x.off x.stable.length a = 0
  unfold Go.Proofs.YtjocnooekgnedaaGreatDoor.atE
  rw [h, if_neg (by simp), if_neg (by omega)]
theorem write_runs {x : DevS} {n : Nat} (h : x.Runs (n + 1)) {a : Int} (ha : 0 ≤ a ∧ a < x.stable.length) {s : List Int} (hs : s.length = 128 ∧ Bytes s) :
    (x.write a s).1 = 0 ∧ (x.write a s).2.Runs n ∧ (x.write a s).2.stable.length = x.stable.length ∧ ∀ b : Int, 0 ≤ b → b < x.stable.length → (x.write a s).2.reads b = if b = a then s else x.reads b := by
  have hok := h.ok.write a hs
  have htk := h.tk
  have h0 := h.ok.tk
  obtain ⟨h1, h2, h3, h4, h5, h6⟩ := h.ok.room
  unfold DevS.write at hok ⊢
  rw [if_neg (by rw [atE_in h.on ha]; simp), if_neg (by rw [h.pw]; omega)] at hok ⊢
  refine ⟨rfl, ⟨hok, h6.trans h.on, ?_, ?_⟩, h3, ?_⟩
  · show (if 0 < x.room.power then _ else x.room.power) = -1
    rw [h5, h.pw]; rfl
  · show x.room.taken + 1 + _ ≤ _
    rw [h4]; omega
  · intro b hb1 hb2
    show (x.room.added a s).reads b = _
    rw [added_reads, room_reads h.ok ⟨hb1, hb2⟩]
theorem flush_runs {x : DevS} {n : Nat} (h : x.Runs n) : x.flushed.Runs n ∧ x.Like x.flushed :=
  ⟨⟨h.ok.flushed, h.on, h.pw, h.tk⟩, ⟨stApply_length _ _, fun _ h1 h2 => flushed_reads h.ok ⟨h1, h2⟩⟩⟩

end Go.Proofs.YtjocnooekgnedaaGreatDoor
/- Plain laws of layer 7: Put and Get on a device. No program in sight. -/
namespace Go.Proofs.YtjocnooekgnedaaGreatDoor
open Go.RowKit

structure Fr where
  kind : Int
  seq : Int
  data : ByteArray
deriving DecidableEq, Inhabited
def noFr : Fr := ⟨0, 0, ⟨#[]⟩⟩
def DevS.ge (x : DevS) (a : Int) : Int := (x.get a).1
def DevS.fr (x : DevS) (a : Int) : Fr := if x.ge a = 0 then ⟨(x.reads a).getD 1 0, readN (x.reads a) 4, openStr (x.reads a)⟩ else noFr
def frV (f : Fr) : Array Value := #[.int .i64 f.kind, .int .u32 f.seq, .string f.data]
theorem get_fr (x : DevS) (a : Int) : x.get a = (x.ge a, frV (x.fr a)) := by
  unfold DevS.fr DevS.ge DevS.get getE getV openV
  by_cases h1 : Go.Proofs.YtjocnooekgnedaaGreatDoor.atE x.off x.stable.length a = 0
  · rw [if_pos h1, if_pos h1]
    by_cases h2 : openE a (x.reads a) = 0
    · rw [h2, if_pos rfl]; rfl
    · rw [if_neg h2]; simp only [if_neg h2]; rfl
  · rw [if_neg h1, if_neg h1]; simp only [if_neg h1]; rfl
/-- Both have the same frames. -/
def sameFr (x y : DevS) (b : Int) : Prop := y.ge b = x.ge b ∧ y.fr b = x.fr b
theorem same_fr {x y : DevS} {b : Int} (ho : y.off = x.off) (hl : y.stable.length = x.stable.length) (hr : y.reads b = x.reads b) : sameFr x y b := by
  have h : y.get b = x.get b := by unfold DevS.get; rw [ho, hl, hr]
  have h1 : y.ge b = x.ge b := by unfold DevS.ge; rw [h]
  exact ⟨h1, by unfold DevS.fr; rw [h1, hr]⟩
def DevS.put (x : DevS) (a kind seq : Int) (s : ByteArray) : Int × DevS := if sealE a kind s.size = 0 then x.write a (sealL a kind seq s) else (sealE a kind s.size, x)

theorem get_sealed {x : DevS} {a kind seq : Int} {s : ByteArray} (ho : x.off = false) (ha : 0 ≤ a ∧ a < x.stable.length) (hE : sealE a kind s.size = 0) (hq : 0 ≤ seq ∧ seq < 4294967296) (hr : x.reads a = sealL a kind seq s) :
    x.ge a = 0 ∧ x.fr a = ⟨kind, seq, s⟩ := by
  have hat : Go.Proofs.YtjocnooekgnedaaGreatDoor.atE x.off x.stable.length a = 0 := atE_in ho ha
  obtain ⟨-, -, -, -, hs⟩ := sealE_zero hE
  have h1 : x.ge a = 0 := by
    show getE x.off x.stable.length a (x.reads a) = 0
    unfold getE
    rw [if_pos hat, hr]
    exact open_seal hE hq
  refine ⟨h1, ?_⟩
  unfold DevS.fr
  rw [if_pos h1, hr, sealL_1 hs, sealL_seq hs hq, sealL_str hs]
theorem sealE_ok {a kind : Int} {n : Nat} (ha : 0 ≤ a ∧ a < 256) (hk : 1 ≤ kind ∧ kind ≤ 255) (hn : n ≤ 112) : sealE a kind n = 0 := by
  unfold sealE; rw [if_neg (by omega), if_neg (by omega)]
/-- One frame is another one, all else is as it was. -/
structure DevS.Puts (x y : DevS) (n : Nat) (a : Int) (e : Int) (f : Fr) : Prop where
  runs : y.Runs n
  size : y.stable.length = x.stable.length
  new : y.ge a = e ∧ y.fr a = f
  old : ∀ b : Int, 0 ≤ b → b < x.stable.length → b ≠ a → sameFr x y b
theorem put_runs {x : DevS} {n : Nat} (h : x.Runs (n + 1)) {a kind seq : Int} {s : ByteArray} (ha : 0 ≤ a ∧ a < x.stable.length) (hk : 1 ≤ kind ∧ kind ≤ 255) (hn : s.size ≤ 112) (hq : 0 ≤ seq ∧ seq < 4294967296) :
    (x.put a kind seq s).1 = 0 ∧ x.Puts (x.put a kind seq s).2 n a 0 ⟨kind, seq, s⟩ := by
  have hE : sealE a kind s.size = 0 := sealE_ok (by have := h.ok.hi; omega) hk hn
  unfold DevS.put
  rw [if_pos hE]
  obtain ⟨h1, h2, h3, h4⟩ := write_runs h ha ⟨sealL_length a kind seq s hn, sealL_bytes seq hE⟩
  refine ⟨h1, h2, h3, get_sealed h2.on (by rw [h3]; exact ha) hE hq (by rw [h4 a ha.1 ha.2, if_pos rfl]), fun b hb1 hb2 hne => ?_⟩
  exact same_fr (h2.on.trans h.on.symm) h3 (by rw [h4 b hb1 hb2, if_neg hne])
/-- A sector of zeros is written. -/
theorem blank_runs {x : DevS} {n : Nat} (h : x.Runs (n + 1)) {a : Int} (ha : 0 ≤ a ∧ a < x.stable.length) :
    (x.write a zsec).1 = 0 ∧ x.Puts (x.write a zsec).2 n a 70 noFr := by
  obtain ⟨h1, h2, h3, h4⟩ := write_runs h ha ⟨zsec_length, zsec_bytes⟩
  have hr := h4 a ha.1 ha.2
  rw [if_pos rfl] at hr
  have hge : (x.write a zsec).2.ge a = 70 := by
    show getE _ _ a _ = 70
    unfold getE
    have hhi := h.ok.hi
    rw [if_pos (show Go.Proofs.YtjocnooekgnedaaGreatDoor.atE _ _ a = 0 from atE_in h2.on (by rw [h3]; exact ha)), hr]
    unfold openE
    rw [if_neg (by omega), if_pos rfl]
  refine ⟨h1, h2, h3, ⟨hge, by unfold DevS.fr; rw [hge, if_neg (by decide)]⟩, fun b hb1 hb2 hne => ?_⟩
  exact same_fr (h2.on.trans h.on.symm) h3 (by rw [h4 b hb1 hb2, if_neg hne])
theorem flush_same {x : DevS} {n : Nat} (h : x.Runs n) : x.flushed.Runs n ∧ x.flushed.stable.length = x.stable.length ∧ ∀ b : Int, 0 ≤ b → b < x.stable.length → sameFr x x.flushed b := by
  obtain ⟨h1, h2⟩ := flush_runs h
  exact ⟨h1, h2.size, fun b hb1 hb2 => same_fr (h1.on.trans h.on.symm) h2.size (h2.reads b hb1 hb2)⟩

end Go.Proofs.YtjocnooekgnedaaGreatDoor
/- Layer 9 in plain words: what the functions of the journal return, and the device behind them. No program in sight. -/
namespace Go.Proofs.YtjocnooekgnedaaGreatDoor
open Go.RowKit

/-- A record of a transaction. -/
structure Rec where
  at_ : Int
  kind : Int
  data : ByteArray
deriving DecidableEq, Inhabited
def recV (r : Rec) : List Value := [.int .i64 r.at_, .int .i64 r.kind, .string r.data]
theorem recV_length (r : Rec) : (recV r).length = 3 := rfl
def noRec : Rec := ⟨0, 0, ⟨#[]⟩⟩
def bstr (l : List Int) : ByteArray := strOfNums l

def checkE (F Z : Int) : Int := if Z < 8 ∨ 96 < Z ∨ F < 0 ∨ 256 - Z < F then 7 else 0
def insideB (F Z a : Int) : Bool := decide (F ≤ a ∧ a < F + Z)
def mostN (Z : Int) : Int := min (Z - 2) 80
def shortS (n : Int) : ByteArray := bstr [n % 256, n / 256 % 256]
def DevS.flush (x : DevS) : Int × DevS := (readyE x.off, if x.off then x else x.flushed)
def DevS.blanks (x : DevS) (a : Int) : Nat → Int × DevS
  | 0 => (0, x)
  | k + 1 => if (x.blanks a k).1 ≠ 0 then x.blanks a k else (x.blanks a k).2.write (a + k) zsec
def DevS.jfmt (x : DevS) (F Z : Int) : Int × DevS :=
  if checkE F Z ≠ 0 then (checkE F Z, x) else
  if (x.put F 1 0 ⟨#[]⟩).1 ≠ 0 then x.put F 1 0 ⟨#[]⟩ else
  if ((x.put F 1 0 ⟨#[]⟩).2.blanks (F + 1) (Z - 1).toNat).1 ≠ 0 then (x.put F 1 0 ⟨#[]⟩).2.blanks (F + 1) (Z - 1).toNat else
  ((x.put F 1 0 ⟨#[]⟩).2.blanks (F + 1) (Z - 1).toNat).2.flush
def DevS.head (x : DevS) (F Z : Int) : Int × Int :=
  if checkE F Z ≠ 0 then (checkE F Z, 0) else if x.ge F ≠ 0 then (x.ge F, 0) else if (x.fr F).kind ≠ 1 ∨ (x.fr F).data ≠ ⟨#[]⟩ then (6, 0) else (0, (x.fr F).seq)

/-- What is written for a transaction. -/
def recE (n F Z : Int) (l : List Rec) (r : Rec) : Int :=
  if F ≤ r.at_ ∧ r.at_ < F + Z then 2 else if r.at_ < 0 ∨ n ≤ r.at_ ∨ r.kind < 1 ∨ 255 < r.kind then 7 else if 96 < r.data.size then 3 else if r.at_ ∈ l.map (·.at_) then 8 else 0
def validTo (n F Z : Int) (l : List Rec) : Nat → Int
  | 0 => 0
  | k + 1 => if validTo n F Z l k ≠ 0 then validTo n F Z l k else recE n F Z (l.take k) (l.getD k default)
def validE (n F Z : Int) (l : List Rec) : Int := if mostN Z < l.length then 12 else validTo n F Z l l.length
def DevS.puts (x : DevS) (l : List (Int × Fr)) : Nat → Int × DevS
  | 0 => (0, x)
  | k + 1 => if (x.puts l k).1 ≠ 0 then x.puts l k else (x.puts l k).2.put (l.getD k default).1 (l.getD k default).2.kind (l.getD k default).2.seq (l.getD k default).2.data
def logS (r : Rec) : ByteArray := ⟨(shortS r.at_).data ++ (bstr [r.kind % 256]).data ++ r.data.data⟩
def logL (F q : Int) (l : List Rec) : List (Int × Fr) := l.zipIdx.map fun p => (F + 1 + p.2, ⟨2, q, logS p.1⟩)
def appL (q : Int) (l : List Rec) : List (Int × Fr) := l.map fun r => (r.at_, ⟨r.kind, q, r.data⟩)
def next (q : Int) : Int := (q + 1) % 4294967296
def DevS.done (p : Int × DevS) : Int × DevS := if p.1 ≠ 0 then p else p.2.flush
def DevS.log (x : DevS) (F Z : Int) (l : List Rec) : Int × DevS :=
  if (x.head F Z).1 ≠ 0 then ((x.head F Z).1, x) else
  if validE x.stable.length F Z l ≠ 0 then (validE x.stable.length F Z l, x) else
  if (x.puts (logL F (next (x.head F Z).2) l) l.length).1 ≠ 0 then x.puts (logL F (next (x.head F Z).2) l) l.length else
  DevS.done ((x.puts (logL F (next (x.head F Z).2) l) l.length).2.put (F + 1 + l.length) 3 (next (x.head F Z).2) (shortS l.length))

/-- What a frame of the journal says. -/
def recOf (f : Fr) : Rec := if f.kind ≠ 2 ∨ f.data.size < 3 ∨ 99 < f.data.size then noRec else ⟨bits .or .i64 ((strL f.data).getD 0 0) ((strL f.data).getD 1 0 * 256), (strL f.data).getD 2 0, f.data.extract 3 f.data.size⟩
def recIs (n F Z : Int) (f : Fr) : Bool := if f.kind ≠ 2 ∨ f.data.size < 3 ∨ 99 < f.data.size then false else decide ((recOf f).at_ < n) && !insideB F Z (recOf f).at_ && decide (0 < (recOf f).kind)
def brokenB (e : Int) : Bool := e == 1 || e == 13 || e == 7
structure Look where
  stop : Bool
  e : Int
  run : List Rec
  whole : Bool
deriving Inhabited
def DevS.lookTo (x : DevS) (F Z q : Int) : Nat → Look
  | 0 => ⟨false, 0, [], false⟩
  | k + 1 => if (x.lookTo F Z q k).stop then x.lookTo F Z q k else
    if brokenB (x.ge (F + 1 + k)) then ⟨true, x.ge (F + 1 + k), [], false⟩ else
    if !(x.ge (F + 1 + k) == 0 && (x.fr (F + 1 + k)).seq == next q) || !recIs x.stable.length F Z (x.fr (F + 1 + k)) || decide ((recOf (x.fr (F + 1 + k))).at_ ∈ (x.lookTo F Z q k).run.map (·.at_)) || decide (((x.lookTo F Z q k).run.length : Int) = mostN Z) then
      ⟨true, 0, (x.lookTo F Z q k).run, (x.ge (F + 1 + k) == 0 && (x.fr (F + 1 + k)).seq == next q) && (x.fr (F + 1 + k)).kind == 3 && decide ((x.fr (F + 1 + k)).data = shortS (x.lookTo F Z q k).run.length)⟩ else
    ⟨false, 0, (x.lookTo F Z q k).run ++ [recOf (x.fr (F + 1 + k))], false⟩
/-- The error, the number, the run, and whether it is whole. -/
def DevS.look (x : DevS) (F Z : Int) : Int × Int × List Rec × Bool :=
  if (x.head F Z).1 ≠ 0 then ((x.head F Z).1, 0, [], false) else
  if (x.lookTo F Z (x.head F Z).2 (Z - 1).toNat).e ≠ 0 then ((x.lookTo F Z (x.head F Z).2 (Z - 1).toNat).e, 0, [], false) else
  (0, (x.head F Z).2, (x.lookTo F Z (x.head F Z).2 (Z - 1).toNat).run, (x.lookTo F Z (x.head F Z).2 (Z - 1).toNat).whole)
def DevS.applies (x : DevS) (q : Int) (l : List Rec) : Int × DevS := DevS.done (x.puts (appL (next q) l) l.length)
def DevS.apply (x : DevS) (F Z : Int) : Int × Int × DevS :=
  if (x.look F Z).1 ≠ 0 then (0, (x.look F Z).1, x) else if (x.look F Z).2.2.2 = false then (0, 9, x) else
  if (x.applies (x.look F Z).2.1 (x.look F Z).2.2.1).1 ≠ 0 then (0, x.applies (x.look F Z).2.1 (x.look F Z).2.2.1) else ((x.look F Z).2.2.1.length, x.applies (x.look F Z).2.1 (x.look F Z).2.2.1)
def DevS.clear (x : DevS) (F Z : Int) : Int × DevS := if (x.head F Z).1 ≠ 0 then ((x.head F Z).1, x) else DevS.done (x.put F 1 (next (x.head F Z).2) ⟨#[]⟩)
def DevS.commit (x : DevS) (F Z : Int) (l : List Rec) : Int × DevS :=
  if (x.log F Z l).1 ≠ 0 then x.log F Z l else
  if ((x.log F Z l).2.apply F Z).2.1 ≠ 0 then ((x.log F Z l).2.apply F Z).2 else
  ((x.log F Z l).2.apply F Z).2.2.clear F Z

end Go.Proofs.YtjocnooekgnedaaGreatDoor
/- Layer 7: Put. -/
namespace Go.Proofs.YtjocnooekgnedaaGreatDoor
open Go.RowKit Go.Maps

set_option maxRecDepth 100000 in
set_option maxHeartbeats 1000000 in
theorem put_dev (D : Nat) (F : List Nat) (x : DevS) (a kind seq : Int) (s : ByteArray) (hs : s.size ≤ maxLen) (hq : 0 ≤ seq ∧ seq < 4294967296) (w : World) (h : DevAt w D F x) :
    Calls Tryz.prog 112 #[.pointer (some ⟨D, 0, none⟩), .int .i64 a, .int .i64 kind, .int .u32 seq, .string s] w fun e w' => e = .returned (.int .i64 (x.put a kind seq s).1) ∧ ∃ F', DevAt w' D F' (x.put a kind seq s).2 ∧ Grow w F w' F' := by
  have hz := zeroSector
  have hse := seal_any a kind seq s hs hq w h.half
  unfold SealPost at hse
  unfold DevS.put
  by_cases hE : sealE a kind s.size = 0
  · have hl := sealL_length a kind seq s (sealE_zero hE).2.2.2.2
    have hbx := sealL_bytes seq hE
    rw [if_pos hE]
    rw [if_pos hE, hE] at hse
    generalize sealL a kind seq s = xs at *
    clear hE
    go_enter Tryz.func112, Tryz.ntmps112
    go_wp2_with fail
    refine hse.mono ?_
    rintro e w1 ⟨hb1, rfl⟩
    have h1 := h.below hb1
    have z1 := hb1.size
    have bZ : Blk (w1.alloc (.cells (bytesV zsec) 204)) w1.heap.size 204 (bytesV zsec) := Blk.new _ _ _
    have bX : Blk ((w1.alloc (.cells (bytesV zsec) 204)).setRow w1.heap.size (bytesV xs)) w1.heap.size 204 (bytesV xs) := bZ.setRow
    have h2 : DevAt ((w1.alloc (.cells (bytesV zsec) 204)).setRow w1.heap.size (bytesV xs)) D F x := (h1.alloc _).row (h1.far (Nat.le_refl _)) (by have := h1.half.1; omega) _
    have B2 : Below w.heap.size w ((w1.alloc (.cells (bytesV zsec) 204)).setRow w1.heap.size (bytesV xs)) := Below.setRow (hb1.alloc z1 _) z1 _
    have hwr := write_dev D F x a xs ⟨hl, hbx⟩ _ h2
    clear hse hb1 h1
    go_wp2_with (first
      | (refine wpList_storeSec rfl _ _ rfl w1.heap.size xs rfl rfl bZ zsec_length hl ?_)
      | (refine wpList_loadSec rfl _ rfl w1.heap.size rfl bX hl ?_))
    refine hwr.mono ?_
    rintro e w3 ⟨rfl, F', h3, g3⟩
    go_wp2_with fail
    go_ret
    exact ⟨rfl, F', h3, (Grow.of_below B2 F).trans g3⟩
  · rw [if_neg hE]
    rw [if_neg hE] at hse
    obtain ⟨E, hEq⟩ : ∃ E, sealE a kind s.size = E := ⟨_, rfl⟩
    rw [hEq] at hse hE ⊢
    have hE' : (E != 0) = true := by simpa using hE
    clear hEq
    go_enter Tryz.func112, Tryz.ntmps112
    go_wp2_with fail
    refine hse.mono ?_
    rintro e w1 ⟨hb1, rfl⟩
    have h1 := h.below hb1
    have z1 := hb1.size
    have bZ : Blk (w1.alloc (.cells (bytesV zsec) 204)) w1.heap.size 204 (bytesV zsec) := Blk.new _ _ _
    have h2 : DevAt ((w1.alloc (.cells (bytesV zsec) 204)).setRow w1.heap.size (bytesV zsec)) D F x := (h1.alloc _).row (h1.far (Nat.le_refl _)) (by have := h1.half.1; omega) _
    have B2 : Below w.heap.size w ((w1.alloc (.cells (bytesV zsec) 204)).setRow w1.heap.size (bytesV zsec)) := Below.setRow (hb1.alloc z1 _) z1 _
    clear hse hb1 h1 hE
    go_wp2_with (refine wpList_storeSec rfl _ _ rfl w1.heap.size zsec rfl rfl bZ zsec_length zsec_length ?_)
    go_ret
    exact ⟨rfl, F, h2, Grow.of_below B2 F⟩

end Go.Proofs.YtjocnooekgnedaaGreatDoor
