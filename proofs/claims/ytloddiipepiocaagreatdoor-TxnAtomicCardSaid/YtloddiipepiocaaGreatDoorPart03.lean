/- Parts of the proof, put together by program: Q1, C1, R0, C2. -/
import Derived.Test.YtloddiipepiocaaGreatDoorPart02
import Derived.RangeFuncNested
import Derived.RangeFuncBound
import Derived.RangeFuncCalls
import Derived.RangeFuncLeaves
import Derived.RangeFuncBox
import Derived.Shelf.Abstract
import Derived.Shelf.RegionOpen
import Derived.OwnWalkIn
import Derived.TacticsInMore
import Derived.LoopNIn
import Derived.LoopIn
set_option linter.unusedVariables false
set_option linter.unusedSimpArgs false
/- Decode of Encode and Encode of Decode, in plain Lean. -/
namespace Go.Proofs.YtloddiipepiocaaGreatDoor
open Go.RowKit

theorem orv_tab : ∀ x : Fin 256, ∀ m m' : Fin 8, bitOf (orv (x.val : Int) m.val) m'.val = (bitOf (x.val : Int) m'.val || m'.val == m.val) := by decide +kernel
theorem orv_rng : ∀ x : Fin 256, ∀ m : Fin 8, 0 ≤ orv (x.val : Int) m.val ∧ orv (x.val : Int) m.val < 256 := by decide +kernel
def ofBits (f : Nat → Bool) : Int :=
  (if f 0 then 1 else 0) + (if f 1 then 2 else 0) + (if f 2 then 4 else 0) + (if f 3 then 8 else 0) + (if f 4 then 16 else 0) + (if f 5 then 32 else 0) + (if f 6 then 64 else 0) + (if f 7 then 128 else 0)
theorem byte_bits : ∀ x : Fin 256, (x.val : Int) = ofBits (bitOf (x.val : Int)) := by decide +kernel
theorem bit_zero : ∀ m : Fin 8, bitOf 0 m.val = false := by decide +kernel

def Bytes (xs : List Int) : Prop := ∀ x ∈ xs, 0 ≤ x ∧ x < 256

theorem fin_of {x : Int} (h : 0 ≤ x ∧ x < 256) : ∃ y : Fin 256, x = (y.val : Int) := ⟨⟨x.toNat, by omega⟩, by simp; omega⟩
theorem orv_bit {x : Int} (h : 0 ≤ x ∧ x < 256) {m m' : Nat} (hm : m < 8) (hm' : m' < 8) : bitOf (orv x m) m' = (bitOf x m' || m' == m) := by
  obtain ⟨y, rfl⟩ := fin_of h
  exact orv_tab y ⟨m, hm⟩ ⟨m', hm'⟩
theorem orv_byte {x : Int} (h : 0 ≤ x ∧ x < 256) {m : Nat} (hm : m < 8) : 0 ≤ orv x m ∧ orv x m < 256 := by
  obtain ⟨y, rfl⟩ := fin_of h
  exact orv_rng y ⟨m, hm⟩
theorem byte_ext {x y : Int} (hx : 0 ≤ x ∧ x < 256) (hy : 0 ≤ y ∧ y < 256) (h : ∀ m, m < 8 → bitOf x m = bitOf y m) : x = y := by
  obtain ⟨a, rfl⟩ := fin_of hx
  obtain ⟨b, rfl⟩ := fin_of hy
  rw [byte_bits a, byte_bits b]
  unfold ofBits
  rw [h 0 (by omega), h 1 (by omega), h 2 (by omega), h 3 (by omega), h 4 (by omega), h 5 (by omega), h 6 (by omega), h 7 (by omega)]

theorem getD_bytes {xs : List Int} (h : Bytes xs) (k : Nat) : 0 ≤ xs.getD k 0 ∧ xs.getD k 0 < 256 := by
  by_cases hk : k < xs.length
  · rw [List.getD_eq_getElem?_getD, List.getElem?_eq_getElem hk]; exact h _ (List.getElem_mem hk)
  · rw [List.getD_eq_getElem?_getD, List.getElem?_eq_none (by omega)]; simp
theorem encL_bytes (us : List Bool) (k : Nat) : Bytes (encL us k) := by
  induction k with
  | zero => intro x hx; simp [encL] at hx; omega
  | succ k ih =>
    unfold encL
    split
    · intro x hx
      rcases List.mem_or_eq_of_mem_set hx with h | h
      · exact ih x h
      · subst h; exact orv_byte (getD_bytes ih _) (Nat.mod_lt _ (by omega))
    · exact ih
theorem bitAt_set {xs : List Int} {k b : Nat} {v : Int} (hk : k / 8 < xs.length) : bitAt (xs.set (k / 8) v) b = if b / 8 = k / 8 then bitOf v (b % 8) else bitAt xs b := by
  unfold bitAt
  rw [List.getD_eq_getElem?_getD, List.getD_eq_getElem?_getD, List.getElem?_set]
  by_cases h : b / 8 = k / 8
  · rw [if_pos h.symm, if_pos hk, if_pos h]; rfl
  · rw [if_neg (fun h' => h h'.symm), if_neg h]
theorem bitAt_encL {us : List Bool} (hl : us.length ≤ 768) {k : Nat} (hk : k ≤ us.length) (b : Nat) : bitAt (encL us k) b = (decide (b < k) && us.getD b false) := by
  induction k with
  | zero =>
    simp only [Nat.not_lt_zero, decide_false, Bool.false_and]
    unfold bitAt
    have : (encL us 0).getD (b / 8) 0 = 0 := by
      show (List.replicate 96 (0:Int)).getD (b / 8) 0 = 0
      rw [List.getD_eq_getElem?_getD, List.getElem?_replicate]
      split <;> rfl
    rw [this]
    exact bit_zero ⟨b % 8, Nat.mod_lt _ (by omega)⟩
  | succ k ih =>
    have ih := ih (by omega)
    have hku : us[k]? = some us[k] := List.getElem?_eq_getElem (by omega)
    by_cases hx : us[k] = true
    · rw [hx] at hku
      rw [encL_hit hku, bitAt_set (by rw [encL_length]; omega)]
      by_cases h : b / 8 = k / 8
      · rw [if_pos h, orv_bit (getD_bytes (encL_bytes us k) _) (Nat.mod_lt _ (by omega)) (Nat.mod_lt _ (by omega))]
        have hb : bitOf ((encL us k).getD (k / 8) 0) (b % 8) = bitAt (encL us k) b := by unfold bitAt; rw [h]
        rw [hb, ih]
        by_cases hbk : b = k
        · subst hbk; simp [List.getD_eq_getElem?_getD, hku]
        · have h1 : (b % 8 == k % 8) = false := by simp; omega
          have h2 : decide (b < k + 1) = decide (b < k) := by simp; omega
          rw [h1, h2, Bool.or_false]
      · rw [if_neg h, ih]
        have h2 : decide (b < k + 1) = decide (b < k) := by
          have : b ≠ k := fun hh => h (by rw [hh])
          simp; omega
        rw [h2]
    · have hx' : us[k] = false := by simpa using hx
      rw [hx'] at hku
      rw [encL_miss hku, ih]
      by_cases hbk : b = k
      · subst hbk; simp [List.getD_eq_getElem?_getD, hku]
      · have h2 : decide (b < k + 1) = decide (b < k) := by simp; omega
        rw [h2]
theorem bytes_ext {xs ys : List Int} {n : Nat} (hx : xs.length = n) (hy : ys.length = n) (bx : Bytes xs) (by_ : Bytes ys) (h : ∀ b, b < 8 * n → bitAt xs b = bitAt ys b) : xs = ys := by
  apply List.ext_getElem (by omega)
  intro k h1 h2
  refine byte_ext (bx _ (List.getElem_mem h1)) (by_ _ (List.getElem_mem h2)) fun m hm => ?_
  have := h (8 * k + m) (by omega)
  unfold bitAt at this
  rw [show (8 * k + m) / 8 = k by omega, show (8 * k + m) % 8 = m by omega, List.getD_eq_getElem?_getD, List.getD_eq_getElem?_getD, List.getElem?_eq_getElem h1, List.getElem?_eq_getElem h2] at this
  exact this

theorem dec_enc {us : List Bool} (hl : us.length ≤ 768) : decS (encL us us.length) us.length 768 = us ∧ noneAfter (encL us us.length) us.length 768 := by
  constructor
  · apply List.ext_getElem? 
    intro b
    by_cases hb : b < us.length
    · rw [decS_at _ _ _ _ hb, if_pos (by omega), bitAt_encL hl (Nat.le_refl _), List.getElem?_eq_getElem hb]
      simp [List.getD_eq_getElem?_getD, hb]
    · rw [List.getElem?_eq_none (by rw [decS_length]; omega), List.getElem?_eq_none (by omega)]
  · intro b hb _
    rw [bitAt_encL hl (Nat.le_refl _)]
    have : decide (b < us.length) = false := by simp; omega
    rw [this, Bool.false_and]
theorem enc_dec {xs : List Int} {n : Nat} (hn : n ≤ 768) (hx : xs.length = 96) (bx : Bytes xs) (h : noneAfter xs n 768) : encL (decS xs n 768) n = xs := by
  have hl : (decS xs n 768).length = n := decS_length _ _ _
  refine bytes_ext (n := 96) (encL_length _ _) hx (encL_bytes _ _) bx fun b hb => ?_
  rw [bitAt_encL (by omega) (by omega)]
  by_cases hbn : b < n
  · have := decS_at xs n 768 b hbn
    rw [if_pos (by omega)] at this
    simp [List.getD_eq_getElem?_getD, this, hbn]
  · rw [h b (by omega) (by omega)]
    simp [hbn]

end Go.Proofs.YtloddiipepiocaaGreatDoor
/- Layer 4: the checksum. -/
namespace Go.Proofs.YtloddiipepiocaaGreatDoor
open Go.RowKit

def halfL : List Int := [0x00000000, 0x1db71064, 0x3b6e20c8, 0x26d930ac, 0x76dc4190, 0x6b6b51f4, 0x4db26158, 0x5005713c, 0xedb88320, 0xf00f9344, 0xd6d6a3e8, 0xcb61b38c, 0x9b64c2b0, 0x86d3d2d4, 0xa00ae278, 0xbdbdf21c]
/-- Four steps. -/
def nib (x : Int) : Int := bits .xor .u32 (halfL.getD (bits .and .u32 x 15).toNat 0) (x / 16)
def crcB (x c : Int) : Int := nib (nib (bits .xor .u32 x c))
def crcL (x : Int) (l : List Int) : Int := l.foldl crcB x
theorem crcL_snoc (x : Int) (l : List Int) (k : Nat) (h : k < l.length) : crcL x (l.take (k + 1)) = crcB (crcL x (l.take k)) l[k] := by
  unfold crcL; rw [List.take_succ_eq_append_getElem h, List.foldl_append]; rfl
def crc (l : List Int) : Int := bits .xor .u32 IntKind.u32.max (crcL 4294967295 l)

/-- The table, as it stands in memory. -/
def HalfAt (w : World) : Prop := 0 < w.heap.size ∧ ∀ j, j < 16 → w.cell? ⟨0, j, none⟩ = some (.int .u32 (halfL.getD j 0))
theorem HalfAt.below {w w' : World} {B : Nat} (h : HalfAt w) (hb : Below B w w') (hB : 0 < B) : HalfAt w' :=
  ⟨Nat.lt_of_lt_of_le h.1 hb.size, fun j hj => (hb.cell (p := ⟨0, j, none⟩) hB).trans (h.2 j hj)⟩

theorem and15 (x : Int) : ∃ n : Nat, bits .and .u32 x 15 = (n : Int) ∧ n < 16 := by
  refine ⟨(bits .and .u32 x 15).toNat, ?_, ?_⟩
  · rw [Int.toNat_of_nonneg (bits_lo_u32 _ _ _)]
  · have h : bits .and .u32 x 15 = IntKind.u32.wrap ((BitVec.ofInt 32 x &&& BitVec.ofInt 32 15).toNat : Int) := rfl
    have h2 : (BitVec.ofInt 32 x &&& BitVec.ofInt 32 15).toNat ≤ 15 := by
      rw [BitVec.toNat_and]
      exact Nat.le_trans Nat.and_le_right (by decide)
    have h3 : IntKind.u32.wrap ((BitVec.ofInt 32 x &&& BitVec.ofInt 32 15).toNat : Int) = ((BitVec.ofInt 32 x &&& BitVec.ofInt 32 15).toNat : Int) := by
      rw [IntKind.wrap_u32]; omega
    rw [h, h3]; omega

set_option maxRecDepth 100000 in
set_option maxHeartbeats 1000000 in
theorem put_any (R : Nat) (A : Option Addr) (c : Nat) (xs : List Int) (hl : xs.length ≤ 100000) (hbx : Bytes xs) (r0 : Int) (w : World) (hH : HalfAt w) (hX : Reads w A (xs.map (.int .u8))) (bR : Blk w R 265 #[.int .u32 r0]) :
    Calls Tryz.prog 202 #[.pointer (some ⟨R, 0, none⟩), .slice A xs.length c] w fun e w' => (∃ v, e = .returned v) ∧ w' = w.setCell ⟨R, 0, none⟩ (.int .u32 (crcL r0 xs)) := by
  have cR := bR.cells
  have fR := bR.free
  have lR := bR.lt
  obtain ⟨h0, hH⟩ := hH
  have HH := Lib.hid hH
  clear hH
  go_enter Tryz.func202, Tryz.ntmps202
  go_wp2_with fail
  go_loopw [4, 6, 12] (fun x _ q wr => ∃ k : Nat, k ≤ xs.length ∧ q = .int .i64 k ∧ x = .int .u32 (crcL r0 (xs.take k)) ∧ wr = w) (fun _ _ q _ => xs.length - (intOf q).toNat)
  case atStart => exact ⟨0, Nat.zero_le _, rfl, rfl, rfl⟩
  case round =>
    obtain ⟨k, hk, rfl, rfl, hw⟩ := hrel
    subst hw
    by_cases hlt : k < xs.length
    · obtain ⟨b, off, rfl, hb, hc⟩ := hX.at_ (k := k) (by simpa using hlt)
      rw [List.getElem_map] at hc
      have hs := Lib.hid (crcL_snoc r0 xs k hlt)
      generalize crcL r0 (xs.take k) = x at hs
      have hyb := hbx _ (List.getElem_mem hlt)
      generalize xs[k] = y at hc hs hyb
      have hym : y % 4294967296 = y := by omega
      obtain ⟨n1, hn1, hl1⟩ := and15 (bits .xor .u32 x y)
      have hc1 := HH.out n1 hl1
      have hx1 : crcB x y = nib (bits .xor .u32 (halfL.getD n1 0) (bits .xor .u32 x y / 16)) := by
        unfold crcB
        congr 1
        unfold nib
        rw [hn1]; rfl
      obtain ⟨n2, hn2, hl2⟩ := and15 (bits .xor .u32 (halfL.getD n1 0) (bits .xor .u32 x y / 16))
      have hc2 := HH.out n2 hl2
      have hx2 : crcB x y = bits .xor .u32 (halfL.getD n2 0) (bits .xor .u32 (halfL.getD n1 0) (bits .xor .u32 x y / 16) / 16) := by
        rw [hx1]
        conv => lhs; unfold nib
        rw [hn2]; rfl
      have HX := Lib.hid hx2
      clear hx1 hx2
      generalize halfL.getD n1 0 = y1 at *
      generalize halfL.getD n2 0 = y2 at *
      go_wp2_with fail
      go_roundw
      case rel => exact ⟨k + 1, by omega, by go_num, by rw [hs.out, HX.out], by first | trivial | rfl⟩
      case measure => simp [intOf]; omega
    · obtain rfl : k = xs.length := by omega
      rw [List.take_length]
      go_wp2_with fail
      go_end0
      exact ⟨⟨_, rfl⟩, rfl⟩

set_option maxHeartbeats 400000 in
theorem on_any (A : Option Addr) (c : Nat) (xs : List Int) (hl : xs.length ≤ 100000) (hbx : Bytes xs) (w : World) (hH : HalfAt w) (hX : Reads w A (xs.map (.int .u8))) :
    Calls Tryz.prog 186 #[.int .u32 0, .slice A xs.length c] w fun e w' => e = .returned (.int .u32 (crc xs)) ∧ Below w.heap.size w w' := by
  have hmf : ∀ (fn : Fn) (first cap : Array Value) (w : World), (Instr.makeFunc fn first cap).run Tryz.prog w = .ok (.func fn first cap) w := fun _ _ _ _ => rfl
  have hmx : bits BinOp.xor IntKind.u32 IntKind.u32.max 0 = 4294967295 := by decide
  go_enter Tryz.func186, Tryz.ntmps186
  go_wp2_with fail
  obtain ⟨W1, hW1⟩ : ∃ W1, W1 = w.alloc (.cells #[.int .u32 4294967295] 265) := ⟨_, rfl⟩
  rw [← hW1]
  have bR : Blk W1 w.heap.size 265 #[.int .u32 4294967295] := by rw [hW1]; exact Blk.new _ _ _
  have hB1 : Below w.heap.size w W1 := by rw [hW1]; exact (Below.refl _ _).alloc (Nat.le_refl _) _
  clear hW1
  refine (put_any w.heap.size A c xs hl hbx _ W1 (hH.below hB1 hH.1) (hX.below hB1) bR).mono ?_
  rintro e w' ⟨⟨v, rfl⟩, rfl⟩
  have bR2 := bR.set_ 0 (.int .u32 (crcL 4294967295 xs))
  have cR := bR2.cells
  have lR := bR.lt
  go_wp2_with fail
  go_ret
  exact ⟨rfl, by (repeat' (first | (with_reducible exact Below.refl _ _) | (with_reducible assumption) | (with_reducible refine Below.alloc ?_ ?_ _) | (with_reducible refine Below.drew ?_) | (with_reducible refine below_drewN' ?_ _) | (with_reducible refine Below.setCell ?_ ?_ _) | (with_reducible exact Nat.le_refl _) | omega | (simp; done) | (simp; omega)))⟩

set_option maxHeartbeats 400000 in
theorem crc_any (A : Option Addr) (c : Nat) (xs : List Int) (hl : xs.length ≤ 100000) (hbx : Bytes xs) (w : World) (hH : HalfAt w) (hX : Reads w A (xs.map (.int .u8))) :
    Calls Tryz.prog 156 #[.slice A xs.length c] w fun e w' => e = .returned (.int .u32 (crc xs)) ∧ Below w.heap.size w w' := by
  go_enter Tryz.func156, Tryz.ntmps156
  go_wp2_with fail
  refine (on_any A c xs hl hbx _ hH hX).mono ?_
  rintro e w' ⟨rfl, hb⟩
  go_wp2_with fail
  go_ret
  exact ⟨rfl, hb⟩

end Go.Proofs.YtloddiipepiocaaGreatDoor
/- Worlds that are kept but for some blocks: for loops over iterators whose body writes boxes of the caller's. -/
namespace Go.Proofs.YtloddiipepiocaaGreatDoor
open Go.RowKit Go.Shelf

/-- Below block B, but for the blocks bs, w' is as w was. -/
structure KeepEx (B : Nat) (bs : List Nat) (w w' : World) : Prop where
  os : w'.os = w.os
  tape : w'.tape = w.tape
  output : w'.output = w.output
  size : w.heap.size ≤ w'.heap.size
  block : ∀ k, k < B → k ∉ bs → w'.heap[k]? = w.heap[k]?

section
variable {B : Nat} {bs : List Nat} {w w' : World}
theorem KeepEx.refl (B : Nat) (bs : List Nat) (w : World) : KeepEx B bs w w := ⟨rfl, rfl, rfl, Nat.le_refl _, fun _ _ _ => rfl⟩
theorem KeepEx.trans {a b c : World} (h : KeepEx B bs a b) (k : KeepEx B bs b c) : KeepEx B bs a c :=
  ⟨k.os.trans h.os, k.tape.trans h.tape, k.output.trans h.output, Nat.le_trans h.size k.size, fun i hi hn => (k.block i hi hn).trans (h.block i hi hn)⟩
theorem KeepEx.of_below (h : Below B w w') : KeepEx B bs w w' := ⟨h.os, h.tape, h.output, h.size, fun k hk _ => h.block k hk⟩
theorem KeepEx.toBelow (h : KeepEx B bs w w') {B' : Nat} (hB : B' ≤ B) (hbs : ∀ k ∈ bs, B' ≤ k) : Below B' w w' :=
  ⟨h.os, h.tape, h.output, h.size, fun k hk => h.block k (by omega) (fun hm => by have := hbs k hm; omega)⟩
theorem KeepEx.setCell (W : World) {p : Addr} (hp : p.block ∈ bs ∨ B ≤ p.block) (u : Value) : KeepEx B bs W (W.setCell p u) :=
  ⟨rfl, rfl, rfl, by simp, fun k hk hn => Below.heap_setCell _ _ _ _ (fun e => by subst e; rcases hp with hp | hp; exact hn hp; omega)⟩
theorem KeepEx.grown {row : Option Nat} {W W' : World} (hg : W.grownBy W' row) (hB : B ≤ W.heap.size) (hr : ∀ k, row = some k → k ∈ bs ∨ B ≤ k) : KeepEx B bs W W' :=
  ⟨hg.os, hg.tape, hg.output, hg.size, fun k hk hn => hg.block k (by omega) (fun e => by rcases hr k e.symm with h | h; exact hn h; omega)⟩
theorem KeepEx.alloc (W : World) (hB : B ≤ W.heap.size) (o : Obj) : KeepEx B bs W (W.alloc o) := .of_below ((Below.refl _ _).alloc hB o)
theorem KeepEx.blk {g : Nat} {t : TypeId} {cs : Array Value} (h : KeepEx B bs w w') (hb : Blk w g t cs) (hg : g < B) (hn : g ∉ bs) : Blk w' g t cs := (h.block g hg hn).trans hb
theorem KeepEx.cell (h : KeepEx B bs w w') {p : Addr} (hp : p.block < B) (hn : p.block ∉ bs) : w'.cell? p = w.cell? p := World.cell?_of_block (w := w) (h.block p.block hp hn)
theorem keepEx_t {X Y Z : World} (h : KeepEx B bs X Y) (k : KeepEx B bs Y Z) : KeepEx B bs X Z := h.trans k
theorem keepEx_b {w : World} (hn : B ≤ w.heap.size) (W : World) (l : Nat) (o o' : Obj) (hl : w.heap.size ≤ l) (h : W.heap[l]? = some o) (_ : o.isCells = false) (_ : o.isWalk = false) : KeepEx B bs W (W.putObj l o') :=
  KeepEx.grown (grownBy_putObj' W l o') (by have := (Array.getElem?_eq_some_iff.1 h).1; omega) (fun k e => by cases e; right; omega)
theorem ownFrom_keepEx {β : Type} {C : Nat} {w₀ : World} (hn : B ≤ w₀.heap.size) (hB : B ≤ C) : OwnFrom C (fun (_ : β) W => KeepEx B bs w₀ W) :=
  fun _ _ _ _ hs hg hr => hs.trans (KeepEx.grown hg (Nat.le_trans hn hs.size) (fun k e => .inr (Nat.le_trans hB (hr k e).1)))
theorem ownFrom_pure' {β : Type} {C : Nat} {p : β → Prop} : OwnFrom C (fun (s : β) (_ : World) => p s) := fun _ _ _ _ hs _ _ => hs
end

/-- 'out = append(out, ..)' in a loop's body: all that the walk owes. -/
theorem box_appended {W w2 : World} {B base : Nat} {t e : TypeId} {size : Nat} {v v' : Value} {k m : Nat} {xs ys : List Value} {tmp : Obj}
    (hv : Boxed W B t v) (hrow : W.ownsRow base e size v k xs) (hB : B < base) (hsz : base ≤ W.heap.size) (hown' : w2.ownsRow base e size v' m ys) (hgrow : (W.alloc tmp).grownBy w2 v.ownBlock) :
    Boxed w2 B t v ∧ Boxed (w2.setCell ⟨B, 0, none⟩ v') B t v' ∧ (w2.setCell ⟨B, 0, none⟩ v').ownsRow base e size v' m ys ∧ KeepsOthers W (w2.setCell ⟨B, 0, none⟩ v') ∧ KeepEx base [B] W (w2.setCell ⟨B, 0, none⟩ v') := by
  have hrow' : ∀ k, v.ownBlock = some k → base ≤ k := fun k hk => (hrow.lt k hk).1
  have hv1 : Boxed w2 B t v := (hv.alloc tmp).kept hgrow (fun e' => by have := hrow' B e'.symm; omega)
  refine ⟨hv1, hv1.set v', ownsRow_setCell_below hown' hB v', ?_, ?_⟩
  · refine ((KeepsOthers.alloc W tmp).trans (KeepsOthers.of_grownBy hgrow fun j o ej hj => ?_)).trans (KeepsOthers.setCell _ _ _)
    rcases (hrow.alloc tmp).2 with ⟨rfl, _⟩ | ⟨g, cap, cur, rfl, _, hgb, _⟩
    · simp [Value.ownBlock] at ej
    · obtain rfl : g = j := by simpa [Value.ownBlock] using ej
      rw [hgb] at hj; cases hj; rfl
  · exact ((KeepEx.alloc W hsz tmp).trans (KeepEx.grown hgrow (by simp; omega) (fun k hk => .inr (hrow' k hk)))).trans (KeepEx.setCell _ (.inl (by simp)) _)

/-- Where a loop that may be left by 'break' and its end meet. -/
theorem range_meet {n : Nat} {P : Program} {c : Code} {K : Act → World → Prop} {Q' : Exit → Act → World → Prop} {a : Act} {w : World} (Post : Nat → World → Prop)
    (h : c.wpIn Fence.wide n P (fun e a' w' => (e = .normal ∨ e = .exit 0) ∧ ∃ D, a' = { a with defers := { target := .collected D, args := #[] } :: a.defers } ∧ Post D w') a w)
    (hk : ∀ D w', Post D w' → K { a with defers := { target := .collected D, args := #[] } :: a.defers } w') : c.wp P (Exit.inBlock 0 (Exit.then K Q')) a w :=
  wp_mono (wpIn_wide.1 h) (by
    rintro e a' w' ⟨he, D, rfl, hp⟩
    rcases he with rfl | rfl
    · exact hk D w' hp
    · exact hk D w' hp)
/-- A function whose body holds a range over a function: walked outside of the loop by the plain walk. -/
theorem calls_of_marks {P : Program} {f : FuncId} {fn : Func} {c : Code} {args : Array Value} {w : World} {R : Ending → World → Prop}
    (hf : P.funcs[f]? = some fn) (hb : fn.body = some c)
    (h : c.wp P (bodyPostM Fence.wide 9 P fn R) { tmps := args ++ Array.replicate (fn.ntmps - args.size) undef, defers := [] } w) : Calls P f args w R :=
  (callsIn_wide (n := 9)).1 (callsIn_of_wp_marks hf hb trivial (wpIn_wide.2 h) rfl)
theorem gen_world {C : World → Prop} {W : World} (F : World → Prop) (hF : F W) (h : ∀ W, F W → C W) : C W := h W hF
/-- At the return of a function whose body held a range over a function. -/
theorem marks_ret {n : Nat} {P : Program} {fn : Func} {R : Ending → World → Prop} {tmps : Array Value} {D : Nat} {W : World} (v : Value) (hKd : W.heap[D]? = some (.deferred (some [])))
    (hr : (results fn tmps).run P (W.putObj D (.deferred none)) = .ok v (W.putObj D (.deferred none))) (hR : R (.returned v) (W.putObj D (.deferred none))) :
    bodyPostM Fence.wide n P fn R .ret { tmps, defers := [{ target := .collected D, args := #[] }] } W :=
  ⟨by simp, .inl ⟨_, _, rfl, run_takeDeferred hKd, ⟨v, hr, hR⟩⟩⟩
theorem blk_put {W : World} {g : Nat} {t : TypeId} {cs : Array Value} {D : Nat} {o : Obj} (h : Blk W g t cs) (hD : g ≠ D) : Blk (W.putObj D o) g t cs := h.grown (grownBy_putObj' W D o) (by simpa using hD)
theorem below_put {w W : World} {D : Nat} {o : Obj} (h : Below w.heap.size w W) (hD : w.heap.size ≤ D) : Below w.heap.size w (W.putObj D o) := h.grown (grownBy_putObj' W D o) h.size (by intro k hk; cases hk; exact hD)
end Go.Proofs.YtloddiipepiocaaGreatDoor
/- Layer 7: numbers in sectors. -/
namespace Go.Proofs.YtloddiipepiocaaGreatDoor
open Go.RowKit

/-- Byte k of a number. -/
def nb (n : Int) (k : Nat) : Int := n / 2 ^ (8 * k) % 256
/-- A sector when k bytes of a number have been written. -/
def putK (xs : List Int) (at_ : Nat) (n : Int) : Nat → List Int
  | 0 => xs
  | k + 1 => (putK xs at_ n k).set (at_ + k) (nb n k)
def putN (xs : List Int) (at_ : Nat) (n : Int) : List Int := putK xs at_ n 4
theorem putK_length (xs : List Int) (at_ : Nat) (n : Int) (k : Nat) : (putK xs at_ n k).length = xs.length := by
  induction k with
  | zero => rfl
  | succ k ih => unfold putK; simp [ih]
/-- What has been read when k bytes have been read. -/
def readK (xs : List Int) (at_ : Nat) : Nat → Int
  | 0 => 0
  | k + 1 => bits .or .u32 (readK xs at_ k) (xs.getD (at_ + k) 0 * 2 ^ (8 * k) % 4294967296)
def readN (xs : List Int) (at_ : Nat) : Int := readK xs at_ 4

set_option maxRecDepth 100000 in
set_option maxHeartbeats 400000 in
theorem number_any (S n : Nat) (hn : n ≤ 124) (cs : Array Value) (hcs : cs.size = 128) (w : World) (bS : Blk w S 42 cs) :
    Calls Tryz.prog 155 #[.pointer (some ⟨S, 0, none⟩), .int .i64 n] w fun e w' =>
      e = .returned (.tuple #[.func (.func 184) #[] #[.pointer (some ⟨w.heap.size, 0, none⟩)], .func (.func 185) #[] #[.pointer (some ⟨w.heap.size, 0, none⟩)]]) ∧
      w' = w.alloc (.cells #[.slice (some ⟨S, n, none⟩) 4 4] 27) := by
  have hmf : ∀ (fn : Fn) (first cap : Array Value) (w : World), (Instr.makeFunc fn first cap).run Tryz.prog w = .ok (.func fn first cap) w := fun _ _ _ _ => rfl
  have hal : Tryz.prog.arrayLen 42 = 128 := by kernel_rfl
  have hsl : ∀ w : World, (Instr.sliceAt 42 (.pointer (some ⟨S, 0, none⟩)) (some (.int .i64 n)) (some (.int .i64 ((n : Int) + 4))) (some (.int .i64 ((n : Int) + 4)))).run Tryz.prog w = .ok (.slice (some ⟨S, n, none⟩) 4 4) w := fun w => by
    rw [run_sliceAt_array_lhm w 42 _ (by kernel_rfl) .i64 .i64 .i64 n ((n : Int) + 4) ((n : Int) + 4) (by omega) (by omega) (by omega) (by rw [hal]; omega)]
    have hsz : (sizeOf (Tryz.prog.elem 42)).run Tryz.prog w = .ok 1 w := by kernel_rfl
    rw [hsz]
    have h1 : ((n : Int) + 4).toNat = n + 4 := by omega
    have h2 : (n : Int).toNat = n := by omega
    simp only [Result.andThen_ok, slicedAt, h1, h2, if_neg (show ¬ n + 4 = n by omega), Nat.mul_one]
    rw [show n + 4 - n = 4 by omega]
    simp [Addr.add]
    omega
  have lS := bS.lt
  go_enter Tryz.func155, Tryz.ntmps155
  go_wp2_with fail
  go_ret2
  exact ⟨rfl, rfl⟩

set_option maxRecDepth 100000 in
set_option maxHeartbeats 1000000 in
theorem numW_any (S B a : Nat) (ha : a ≤ 124) (n : Int) (hn : 0 ≤ n ∧ n < 4294967296) (xs : List Int) (hl : xs.length = 128) (w : World) (bS : Blk w S 42 (bytesV xs)) (bB : Blk w B 27 #[.slice (some ⟨S, a, none⟩) 4 4]) (hne : S ≠ B) :
    Calls Tryz.prog 184 #[.int .u32 n, .pointer (some ⟨B, 0, none⟩)] w fun e w' => (∃ v, e = .returned v) ∧ Blk w' S 42 (bytesV (putN xs a n)) ∧ KeepEx w.heap.size [S] w w' := by
  have cB := bB.cells
  have lB := bB.lt
  have lS := bS.lt
  go_enter Tryz.func184, Tryz.ntmps184
  go_wp2_with fail
  go_loopw [3, 6] (fun _ q wr => ∃ k : Nat, k ≤ 4 ∧ q = .int .i64 k ∧ Blk wr S 42 (bytesV (putK xs a n k)) ∧ KeepEx w.heap.size [S] w wr) (fun _ q _ => 4 - (intOf q).toNat)
  case atStart => exact ⟨0, by omega, rfl, bS, KeepEx.refl _ _ _⟩
  case round =>
    obtain ⟨k, hk, rfl, bK, hx⟩ := hrel
    have bB2 := hx.blk bB lB (by simpa using fun h => hne h.symm)
    have cB := bB2.cells
    have fK := bK.free
    by_cases hlt : k < 4
    · have hcK : wr.cell? ⟨S, a + k, none⟩ = some (.int .u8 ((putK xs a n k).getD (a + k) 0)) := by rw [bK.cells]; exact bytesV_get (by rw [putK_length]; omega)
      have hw8 : IntKind.i64.wrap (8 * (k : Int)) = 8 * (k : Int) := by rw [IntKind.wrap_i64]; omega
      go_wp2_with fail
      go_region
      all_goals go_wp2
      go_roundw
      case rel => exact ⟨k + 1, by omega, by go_num, by show Blk _ _ _ (bytesV ((putK xs a n k).set (a + k) (nb n k))); rw [← bytesV_set]; exact (bK.set_ _ _).drew, hx.trans (KeepEx.trans (KeepEx.setCell _ (.inl (by simp)) _) (KeepEx.of_below (Below.refl _ _).drew))⟩
      case measure => simp [intOf]; omega
    · obtain rfl : k = 4 := by omega
      go_wp2_with fail
      go_end0
      exact ⟨⟨_, rfl⟩, bK, hx⟩

theorem readK_bounds (xs : List Int) (a k : Nat) : 0 ≤ readK xs a k ∧ readK xs a k < 4294967296 := by
  cases k with
  | zero => simp [readK]
  | succ k => unfold readK; exact ⟨bits_lo_u32 _ _ _, by have := bits_hi_u32 .or (readK xs a k) (xs.getD (a + k) 0 * 2 ^ (8 * k) % 4294967296); omega⟩

set_option maxRecDepth 100000 in
set_option maxHeartbeats 1000000 in
theorem numR_any (S B a : Nat) (ha : a ≤ 124) (xs : List Int) (hl : xs.length = 128) (hbx : Bytes xs) (w : World) (bS : Blk w S 42 (bytesV xs)) (bB : Blk w B 27 #[.slice (some ⟨S, a, none⟩) 4 4]) :
    Calls Tryz.prog 185 #[.pointer (some ⟨B, 0, none⟩)] w fun e w' => e = .returned (.int .u32 (readN xs a)) ∧ w' = w := by
  have cB := bB.cells
  have lB := bB.lt
  have lS := bS.lt
  go_enter Tryz.func185, Tryz.ntmps185
  go_wp2_with fail
  go_loopw [2, 3, 6] (fun x _ q wr => ∃ k : Nat, k ≤ 4 ∧ q = .int .i64 k ∧ x = .int .u32 (readK xs a k) ∧ wr = w) (fun _ _ q _ => 4 - (intOf q).toNat)
  case atStart => exact ⟨0, by omega, rfl, rfl, rfl⟩
  case round =>
    obtain ⟨k, hk, rfl, rfl, hw⟩ := hrel
    subst hw
    by_cases hlt : k < 4
    · have hcK : wr.cell? ⟨S, a + k, none⟩ = some (.int .u8 (xs.getD (a + k) 0)) := by rw [bS.cells]; exact bytesV_get (by omega)
      have hyb := getD_bytes hbx (a + k)
      have hs : Hid (readK xs a (k + 1) = bits .or .u32 (readK xs a k) (xs.getD (a + k) 0 * 2 ^ (8 * k) % 4294967296)) := Lib.hid rfl
      generalize xs.getD (a + k) 0 = y at *
      generalize readK xs a k = x at *
      have hym : y % 4294967296 = y := by omega
      go_wp2_with fail
      go_roundw
      case rel => exact ⟨k + 1, by omega, by go_num, by rw [hs.out], by first | trivial | rfl⟩
      case measure => simp [intOf]; omega
    · obtain rfl : k = 4 := by omega
      go_wp2_with fail
      go_ret
      exact ⟨rfl, rfl⟩

end Go.Proofs.YtloddiipepiocaaGreatDoor
