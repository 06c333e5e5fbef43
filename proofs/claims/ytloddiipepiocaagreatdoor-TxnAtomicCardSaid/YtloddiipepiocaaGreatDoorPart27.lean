/- Parts of the proof, put together by program: Y4, CA, CB. -/
import Derived.Test.YtloddiipepiocaaGreatDoorPart26
import Derived.Test.YtloddiipepiocaaGreatDoorPart08
import Derived.Test.YtloddiipepiocaaGreatDoorPart15
set_option linter.unusedVariables false
set_option linter.unusedSimpArgs false
/- Plain laws of layer 7: a number read as a sum. No program in sight. -/
namespace Go.Proofs.YtloddiipepiocaaGreatDoor
open Go.RowKit

/-- What the reference has read when it has read k bytes. -/
def sumK (xs : List Int) (a : Nat) : Nat → Int
  | 0 => 0
  | k + 1 => sumK xs a k + xs.getD (a + k) 0 * 2 ^ (8 * k)
theorem sumK_bds {xs : List Int} (hb : Bytes xs) (a : Nat) : ∀ k, k ≤ 4 → 0 ≤ sumK xs a k ∧ sumK xs a k < 2 ^ (8 * k)
  | 0, _ => ⟨Int.le_refl _, by show (0 : Int) < 1; decide⟩
  | k + 1, hk => by
    have ih := sumK_bds hb a k (by omega)
    have h := byteD hb (a + k)
    have h4 : k = 0 ∨ k = 1 ∨ k = 2 ∨ k = 3 := by omega
    unfold sumK
    generalize sumK xs a k = q at ih
    generalize xs.getD (a + k) 0 = z at h
    rcases h4 with rfl | rfl | rfl | rfl
    · have h1 : 0 ≤ q ∧ q < 1 := ih
      show 0 ≤ q + z * 1 ∧ q + z * 1 < 256
      omega
    · have h1 : 0 ≤ q ∧ q < 256 := ih
      show 0 ≤ q + z * 256 ∧ q + z * 256 < 65536
      omega
    · have h1 : 0 ≤ q ∧ q < 65536 := ih
      show 0 ≤ q + z * 65536 ∧ q + z * 65536 < 16777216
      omega
    · have h1 : 0 ≤ q ∧ q < 16777216 := ih
      show 0 ≤ q + z * 16777216 ∧ q + z * 16777216 < 4294967296
      omega
theorem readN_sum {xs : List Int} (hb : Bytes xs) (a : Nat) : readN xs a = sumK xs a 4 := by
  have h0 := nb_read hb a (j := 0) (by omega)
  have h1 := nb_read hb a (j := 1) (by omega)
  have h2 := nb_read hb a (j := 2) (by omega)
  have h3 := nb_read hb a (j := 3) (by omega)
  have hr := readN_bds xs a
  show readN xs a = 0 + xs.getD (a + 0) 0 * 1 + xs.getD (a + 1) 0 * 256 + xs.getD (a + 2) 0 * 65536 + xs.getD (a + 3) 0 * 16777216
  rw [← h0, ← h1, ← h2, ← h3]
  generalize readN xs a = n at *
  show n = 0 + n / 1 % 256 * 1 + n / 256 % 256 * 256 + n / 65536 % 256 * 65536 + n / 16777216 % 256 * 16777216
  omega
end Go.Proofs.YtloddiipepiocaaGreatDoor
/- Layer 7, the reference: number, numbered walked. -/
namespace Go.Proofs.YtloddiipepiocaaGreatDoor
open Go.RowKit

set_option maxRecDepth 100000 in
set_option maxHeartbeats 1000000 in
theorem rnumber_any (S a : Nat) (ha : a ≤ 124) (n : Int) (_hn : 0 ≤ n ∧ n < 4294967296) (xs : List Int) (hl : xs.length = 128) (w : World) (bS : Blk w S 42 (bytesV xs)) :
    Calls Tryz.prog 38 #[.pointer (some ⟨S, 0, none⟩), .int .i64 a, .int .u32 n] w fun e w' => (∃ v, e = .returned v) ∧ Blk w' S 42 (bytesV (putN xs a n)) ∧ KeepEx w.heap.size [S] w w' := by
  have lS := bS.lt
  go_enter Tryz.func38, Tryz.ntmps38
  go_wp2_with fail
  go_loopw [6] (fun q wr => ∃ k : Nat, k ≤ 4 ∧ q = .int .i64 k ∧ Blk wr S 42 (bytesV (putK xs a n k)) ∧ KeepEx w.heap.size [S] w wr) (fun q _ => 4 - (intOf q).toNat)
  case atStart => exact ⟨0, by omega, rfl, bS, KeepEx.refl _ _ _⟩
  case round =>
    obtain ⟨k, hk, rfl, bK, hx⟩ := hrel
    have fK := bK.free
    by_cases hlt : k < 4
    · have hcK : wr.cell? ⟨S, a + k, none⟩ = some (.int .u8 ((putK xs a n k).getD (a + k) 0)) := by rw [bK.cells]; exact bytesV_get (by rw [putK_length]; omega)
      have hw8 : IntKind.i64.wrap (8 * (k : Int)) = 8 * (k : Int) := by rw [IntKind.wrap_i64]; omega
      go_wp2_with fail
      go_roundw
      case rel => exact ⟨k + 1, by omega, by go_num, by show Blk _ _ _ (bytesV ((putK xs a n k).set (a + k) (nb n k))); rw [← bytesV_set]; exact (bK.set_ _ _), hx.trans (KeepEx.setCell _ (.inl (by simp)) _)⟩
      case measure => simp [intOf]; omega
    · obtain rfl : k = 4 := by omega
      go_wp2_with fail
      go_end0
      exact ⟨⟨_, rfl⟩, bK, hx⟩

set_option maxRecDepth 100000 in
set_option maxHeartbeats 1000000 in
theorem rnumbered_any (a : Nat) (ha : a ≤ 124) (xs : List Int) (hl : xs.length = 128) (hbx : Bytes xs) (w : World) :
    Calls Tryz.prog 158 #[.agg (bytesV xs), .int .i64 a] w fun e w' => e = .returned (.int .u32 (readN xs a)) ∧ Below w.heap.size w w' := by
  rw [readN_sum hbx a]
  go_enter Tryz.func158, Tryz.ntmps158
  go_wp2_with fail
  go_loopw [5, 6] (fun x q wr => ∃ k : Nat, k ≤ 4 ∧ q = .int .i64 k ∧ x = .int .u32 (sumK xs a k) ∧ Blk wr w.heap.size 42 (bytesV xs) ∧ Below w.heap.size w wr) (fun _ q _ => 4 - (intOf q).toNat)
  case atStart => exact ⟨0, by omega, rfl, rfl, Blk.new _ _ _, by (repeat' (first | (with_reducible exact Below.refl _ _) | (with_reducible assumption) | (with_reducible refine Below.alloc ?_ ?_ _) | (with_reducible refine Below.drew ?_) | (with_reducible refine below_drewN' ?_ _) | (with_reducible refine Below.setCell ?_ ?_ _) | (with_reducible exact Nat.le_refl _) | omega | (simp; done) | (simp; omega)))⟩
  case round =>
    obtain ⟨k, hk, rfl, rfl, bS, hB⟩ := hrel
    have lS := bS.lt
    by_cases hlt : k < 4
    · have hcK : wr.cell? ⟨w.heap.size, a + k, none⟩ = some (.int .u8 (xs.getD (a + k) 0)) := by rw [bS.cells]; exact bytesV_get (by omega)
      have hyb := byteD hbx (a + k)
      have h0 := sumK_bds hbx a k (by omega)
      have h1 := sumK_bds hbx a (k + 1) (by omega)
      have hs : Hid (sumK xs a (k + 1) = sumK xs a k + xs.getD (a + k) 0 * 2 ^ (8 * k)) := Lib.hid rfl
      have hp : (xs.getD (a + k) 0 * 2 ^ (8 * k)) % 4294967296 = xs.getD (a + k) 0 * 2 ^ (8 * k) ∧ 0 ≤ xs.getD (a + k) 0 * 2 ^ (8 * k) ∧ xs.getD (a + k) 0 * 2 ^ (8 * k) < 4294967296 ∧ 0 ≤ sumK xs a (k + 1) ∧ sumK xs a (k + 1) < 4294967296 := by
        have h4 : k = 0 ∨ k = 1 ∨ k = 2 ∨ k = 3 := by omega
        generalize xs.getD (a + k) 0 = z at hyb
        generalize sumK xs a (k + 1) = q at h1
        rcases h4 with rfl | rfl | rfl | rfl
        · have h2 : 0 ≤ q ∧ q < 256 := h1
          show z * 1 % 4294967296 = z * 1 ∧ 0 ≤ z * 1 ∧ z * 1 < 4294967296 ∧ _
          omega
        · have h2 : 0 ≤ q ∧ q < 65536 := h1
          show z * 256 % 4294967296 = z * 256 ∧ 0 ≤ z * 256 ∧ z * 256 < 4294967296 ∧ _
          omega
        · have h2 : 0 ≤ q ∧ q < 16777216 := h1
          show z * 65536 % 4294967296 = z * 65536 ∧ 0 ≤ z * 65536 ∧ z * 65536 < 4294967296 ∧ _
          omega
        · have h2 : 0 ≤ q ∧ q < 4294967296 := h1
          show z * 16777216 % 4294967296 = z * 16777216 ∧ 0 ≤ z * 16777216 ∧ z * 16777216 < 4294967296 ∧ _
          omega
      obtain ⟨hp1, -, -, hp4⟩ := hp
      rw [hs.out] at hp4
      clear h0 h1
      generalize xs.getD (a + k) 0 = y at *
      generalize sumK xs a k = x at *
      have hym : y % 4294967296 = y := by omega
      have hw8 : IntKind.i64.wrap (8 * (k : Int)) = 8 * (k : Int) := by rw [IntKind.wrap_i64]; omega
      generalize hg : y * 2 ^ (8 * k) = g at *
      have hxg : (x + g) % 4294967296 = x + g := by omega
      go_wp2_with fail
      go_roundw
      case rel => exact ⟨k + 1, by omega, by go_num, by rw [hs.out], bS, hB⟩
      case measure => simp [intOf]; omega
    · obtain rfl : k = 4 := by omega
      go_wp2_with fail
      go_ret
      exact ⟨rfl, hB⟩

end Go.Proofs.YtloddiipepiocaaGreatDoor
/- Layer 7, the reference: Seal walked. -/
namespace Go.Proofs.YtloddiipepiocaaGreatDoor
open Go.RowKit

/-- A sector when k bytes of a string have been laid behind its head. -/
def setsK (xs : List Int) (s : ByteArray) : Nat → List Int
  | 0 => xs
  | k + 1 => (setsK xs s k).set (8 + k) ((strL s).getD k 0)
theorem setsK_length (xs : List Int) (s : ByteArray) (k : Nat) : (setsK xs s k).length = xs.length := by
  induction k with
  | zero => rfl
  | succ k ih => unfold setsK; rw [List.length_set, ih]
theorem setsK_putN (xs : List Int) (n : Int) (s : ByteArray) (k : Nat) : setsK (putN xs 4 n) s k = putN (setsK xs s k) 4 n := by
  induction k with
  | zero => rfl
  | succ k ih =>
    show (setsK (putN xs 4 n) s k).set (8 + k) _ = putN ((setsK xs s k).set (8 + k) _) 4 n
    rw [ih]
    exact putK_set (by omega) 4 (by omega)
theorem setsK_eq {xs : List Int} {s : ByteArray} (hl : xs.length = 128) (hs : s.size ≤ 112) : ∀ k, k ≤ s.size → setsK xs s k = xs.take 8 ++ (strL s).take k ++ xs.drop (8 + k)
  | 0, _ => by
    show xs = _
    simp
  | k + 1, hk => by
    have ih := setsK_eq hl hs k (by omega)
    have hL := strL_length s
    show (setsK xs s k).set (8 + k) _ = _
    have hA : (xs.take 8 ++ (strL s).take k).length = 8 + k := by rw [List.length_append, List.length_take, List.length_take]; omega
    rw [ih, List.set_append_right _ _ (by omega), hA, Nat.sub_self, List.drop_eq_getElem_cons (show 8 + k < xs.length by omega), List.set_cons_zero, List.getD_eq_getElem?_getD, List.getElem?_eq_getElem (by omega)]
    simp only [Option.getD_some]
    rw [List.take_succ_eq_append_getElem (l := strL s) (by omega), show 8 + (k + 1) = 8 + k + 1 by omega]
    simp only [List.append_assoc, List.singleton_append]
theorem setsK_seal (kind seq : Int) (s : ByteArray) (hs : s.size ≤ 112) : setsK (putN (seal0 kind s.size) 4 seq) s s.size = putN (seal1 kind s) 4 seq := by
  rw [setsK_putN, setsK_eq (seal0_length _ _) hs s.size (Nat.le_refl _)]
  unfold seal1
  rw [show (strL s).take s.size = strL s by rw [← strL_length s, List.take_length]]
theorem rcrc_at (A : Option Addr) (n c : Nat) (xs : List Int) (hn : xs.length = n) (hl : n ≤ 100000) (hbx : Bytes xs) (w : World) (hX : Reads w A (xs.map (.int .u8))) :
    Calls Tryz.prog 39 #[.slice A n c] w fun e w' => e = .returned (.int .u32 (crc xs)) ∧ w' = w := by
  subst hn
  exact rcrc_any A c xs hl hbx w hX
theorem rnumber_at (S n : Nat) (x : Int) (hx : x = (n : Int)) (ha : n ≤ 124) (m : Int) (hm : 0 ≤ m ∧ m < 4294967296) (xs : List Int) (hl : xs.length = 128) (w : World) (bS : Blk w S 42 (bytesV xs)) :
    Calls Tryz.prog 38 #[.pointer (some ⟨S, 0, none⟩), .int .i64 x, .int .u32 m] w fun e w' => (∃ v, e = .returned v) ∧ Blk w' S 42 (bytesV (putN xs n m)) ∧ KeepEx w.heap.size [S] w w' := by
  subst hx
  exact rnumber_any S n ha m hm xs hl w bS

set_option maxRecDepth 100000 in
set_option maxHeartbeats 1000000 in
theorem rseal_bad (a kind seq : Int) (s : ByteArray) (hs : s.size ≤ maxLen) (w : World) (hE : sealE a kind s.size ≠ 0) :
    Calls Tryz.prog 8 #[.int .i64 a, .int .i64 kind, .int .u32 seq, .string s] w (SealPost a kind seq s w) := by
  have hz := zeroSector
  have hv : ∃ E, sealE a kind s.size = E := ⟨_, rfl⟩
  obtain ⟨E, hv⟩ := hv
  unfold SealPost
  rw [if_neg hE, hv]
  have HV := Lib.hid hv
  have hE2 := hE
  clear hE
  unfold sealE at hv
  by_cases a1 : a < 0
  rotate_left
  by_cases a2 : 256 ≤ a
  rotate_left
  by_cases a3 : kind < 1
  rotate_left
  by_cases a4 : 255 < kind
  rotate_left
  by_cases a5 : 112 < s.size
  rotate_left
  · exact absurd (by unfold sealE; rw [if_neg (by omega), if_neg (by omega)]) hE2
  all_goals
    clear hE2
    first
      | (rw [if_pos (by omega)] at hv)
      | (rw [if_neg (by omega), if_pos (by omega)] at hv)
    subst hv
    have bR : Blk ((w.alloc (.cells (bytesV zsec) 42)).alloc (.cells (bytesV zsec) 42)) w.heap.size 42 (bytesV zsec) := (Blk.new _ _ _).alloc _
    have bS : Blk ((w.alloc (.cells (bytesV zsec) 42)).alloc (.cells (bytesV zsec) 42)) (w.heap.size + 1) 42 (bytesV zsec) := Blk.new' (by simp)
    go_enter Tryz.func8, Tryz.ntmps8
    go_wp2_with (first
      | (refine wpList_loadSec rfl _ rfl (w.heap.size + 1) rfl bS zsec_length ?_)
      | (refine wpList_storeSec rfl _ _ rfl w.heap.size zsec rfl rfl bR zsec_length zsec_length ?_))
    refine bodyPost_ret (results_sector rfl rfl rfl (bR.setRow (cs' := bytesV zsec)) zsec_length) rfl ?_
    exact ⟨Below.setRow (by (repeat' (first | (with_reducible exact Below.refl _ _) | (with_reducible assumption) | (with_reducible refine Below.alloc ?_ ?_ _) | (with_reducible refine Below.drew ?_) | (with_reducible refine below_drewN' ?_ _) | (with_reducible refine Below.setCell ?_ ?_ _) | (with_reducible exact Nat.le_refl _) | omega | (simp; done) | (simp; omega)))) (Nat.le_refl _) _, rfl⟩

set_option maxRecDepth 100000 in
set_option maxHeartbeats 2000000 in
theorem rseal_good (a kind seq : Int) (s : ByteArray) (hq : 0 ≤ seq ∧ seq < 4294967296) (w : World) (hE : sealE a kind s.size = 0) :
    Calls Tryz.prog 8 #[.int .i64 a, .int .i64 kind, .int .u32 seq, .string s] w (SealPost a kind seq s w) := by
  have hz := zeroSector
  unfold SealPost
  rw [if_pos hE, hE]
  have hb : ¬ (a < 0 ∨ 256 ≤ a ∨ kind < 1 ∨ 255 < kind) ∧ ¬ 112 < s.size := by
    unfold sealE at hE
    split at hE
    · omega
    · split at hE
      · omega
      · exact ⟨by assumption, by assumption⟩
  clear hE
  obtain ⟨hb1, hb2⟩ := hb
  have a1 : ¬ a < 0 := by omega
  have a2 : ¬ 256 ≤ a := by omega
  have a3 : ¬ kind < 1 := by omega
  have a4 : ¬ 255 < kind := by omega
  have hs112 : s.size ≤ 112 := by omega
  have ham : a % 4294967296 = a := by omega
  have hkm : kind % 256 = kind := by omega
  have hsm : (s.size : Int) % 256 = s.size := by omega
  go_enter Tryz.func8, Tryz.ntmps8
  go_wp2_with fail
  have h0 : Blk _ (w.heap.size + 1) 42 ((((bytesV zsec).setIfInBounds 0 (.int .u8 76)).setIfInBounds 1 (.int .u8 kind)).setIfInBounds 2 (.int .u8 (s.size : Int))) := Blk.new' (w := w.alloc (.cells (bytesV zsec) 42)) (by simp)
  rw [bytesV_set, bytesV_set, bytesV_set] at h0
  refine (rnumber_at (w.heap.size + 1) 4 4 rfl (by omega) seq hq (seal0 kind s.size) (seal0_length _ _) _ h0).mono ?_
  rintro e w1 ⟨⟨v, rfl⟩, bS1, hx1⟩
  have bR1 : Blk w1 w.heap.size 42 (bytesV zsec) := hx1.blk ((Blk.new _ _ _).alloc _) (by simp; omega) (by simp)
  have B1 : Below w.heap.size w w1 := (((Below.refl _ _).alloc (Nat.le_refl _) _).alloc (by simp) _).trans (hx1.toBelow (by simp; omega) (by simp))
  clear hx1 h0
  have lS1 := bS1.lt
  have hL0 : (putN (seal0 kind s.size) 4 seq).length = 128 := by rw [putN_length, seal0_length]
  have hfin := Lib.hid (setsK_seal kind seq s hs112)
  generalize putN (seal0 kind s.size) 4 seq = x0 at bS1 hL0 hfin
  have hidx : ∀ k (h : k < s.size) (w : World), (Instr.index 9 (.string s) (.int .i64 (k : Int))).run Tryz.prog w = .ok (.int .u8 ((strL s).getD k 0)) w := fun k h w => run_index_str s k k rfl h w
  go_wp2_with fail
  go_loopw [11] (fun q wr => ∃ k : Nat, k ≤ s.size ∧ q = .int .i64 k ∧ Blk wr (w.heap.size + 1) 42 (bytesV (setsK x0 s k)) ∧ Blk wr w.heap.size 42 (bytesV zsec) ∧ Below w.heap.size w wr) (fun q _ => s.size - (intOf q).toNat)
  case atStart => exact ⟨0, Nat.zero_le _, rfl, bS1, bR1, B1⟩
  case round =>
    obtain ⟨k, hk, rfl, bS, bR, hB⟩ := hrel
    have fS := bS.free
    have lS := bS.lt
    by_cases hlt : k < s.size
    · have hcK : wr.cell? ⟨w.heap.size + 1, 8 + k, none⟩ = some (.int .u8 ((setsK x0 s k).getD (8 + k) 0)) := by rw [bS.cells]; exact bytesV_get (by rw [setsK_length]; omega)
      have hi := hidx k hlt
      go_wp2_with fail
      go_roundw
      case rel => exact ⟨k + 1, by omega, by go_num, by show Blk _ _ _ (bytesV ((setsK x0 s k).set (8 + k) _)); rw [← bytesV_set]; exact (bS.set_ _ _), by first | exact bR.far (by simp) _ | exact bR.far _ (by simp), hB.setCell (p := ⟨w.heap.size + 1, 8 + k, none⟩) (Nat.le_succ _) _⟩
      case measure => simp [intOf]; omega
    · obtain rfl : k = s.size := by omega
      rw [hfin.out] at bS
      have hb1s := seal1_bytes (kind := kind) (by omega) hs112
      have hL1 : (putN (seal1 kind s) 4 seq).length = 128 := by rw [putN_length]; exact seal1_length kind s hs112
      have hB2 : Bytes (seal2 a kind seq s) := putN_bytes (putN_bytes hb1s _ _) _ _
      have hL2 : (seal2 a kind seq s).length = 128 := by unfold seal2; rw [putN_length]; exact hL1
      go_wp2_with fail
      refine (rnumber_at (w.heap.size + 1) 120 120 rfl (by omega) a (by omega) _ hL1 _ bS).mono ?_
      rintro e w2 ⟨⟨v2, rfl⟩, bS2, hx2⟩
      have bR2 := hx2.blk bR bR.lt (by simp)
      have hB2w : Below w.heap.size w w2 := hB.trans (hx2.toBelow hB.size (by simp))
      have bS2 : Blk w2 (w.heap.size + 1) 42 (bytesV (seal2 a kind seq s)) := bS2
      have hLL : Hid (putN (seal2 a kind seq s) 124 (crc ((seal2 a kind seq s).take 124)) = sealL a kind seq s) := Lib.hid rfl
      generalize seal2 a kind seq s = xs at bS2 hL2 hB2 hLL
      have lS2 := bS2.lt
      clear hx2 bS bR hB
      go_wp2_with fail
      refine (rcrc_at (some ⟨w.heap.size + 1, 0, none⟩) 124 128 (xs.take 124) (by rw [List.length_take]; omega) (by omega) (take_bytes hB2 _) w2 (by rw [List.map_take]; exact (reads_bytes bS2).take 124)).mono ?_
      rintro e w3 ⟨rfl, rfl⟩
      have hcb := crc_bounds (xs.take 124)
      go_wp2_with fail
      refine (rnumber_at (w.heap.size + 1) 124 124 rfl (by omega) (crc (xs.take 124)) hcb _ hL2 _ bS2).mono ?_
      rintro e w4 ⟨⟨v4, rfl⟩, bS4, hx4⟩
      have bR4 := hx4.blk bR2 bR2.lt (by simp)
      have hB4 : Below w.heap.size w w4 := hB2w.trans (hx4.toBelow hB2w.size (by simp))
      rw [hLL.out] at bS4
      have hLs : (sealL a kind seq s).length = 128 := by rw [← hLL.out, putN_length]; exact hL2
      go_wp2_with (first
        | (refine wpList_loadSec rfl _ rfl (w.heap.size + 1) rfl bS4 hLs ?_)
        | (refine wpList_storeSec rfl _ _ rfl w.heap.size (sealL a kind seq s) rfl rfl bR4 zsec_length hLs ?_))
      refine bodyPost_ret (results_sector rfl rfl rfl (bR4.setRow (cs' := bytesV (sealL a kind seq s))) hLs) rfl ?_
      exact ⟨Below.setRow (by (repeat' (first | (with_reducible exact Below.refl _ _) | (with_reducible assumption) | (with_reducible refine Below.alloc ?_ ?_ _) | (with_reducible refine Below.drew ?_) | (with_reducible refine below_drewN' ?_ _) | (with_reducible refine Below.setCell ?_ ?_ _) | (with_reducible exact Nat.le_refl _) | omega | (simp; done) | (simp; omega)))) (Nat.le_refl _) _, rfl⟩

theorem rseal_any (a kind seq : Int) (s : ByteArray) (hs : s.size ≤ maxLen) (hq : 0 ≤ seq ∧ seq < 4294967296) (w : World) :
    Calls Tryz.prog 8 #[.int .i64 a, .int .i64 kind, .int .u32 seq, .string s] w (SealPost a kind seq s w) := by
  by_cases hE : sealE a kind s.size = 0
  · exact rseal_good a kind seq s hq w hE
  · exact rseal_bad a kind seq s hs w hE

end Go.Proofs.YtloddiipepiocaaGreatDoor
