/- Parts of the proof, put together by program: C2, C3, V1. -/
import Derived.Test.YtjocnooekgnedaaGreatDoorPart04
import Derived.Deep.WholeRow
import Derived.Lib.BufferWrite
import Derived.Maps.OwnRows
import Derived.Maps.OwnOps
import Derived.Maps.RangeWalk
set_option linter.unusedVariables false
set_option linter.unusedSimpArgs false
/- Layer 7: numbers in sectors. -/
namespace Go.Proofs.YtjocnooekgnedaaGreatDoor
open Go.RowKit

/-- Byte k of a number. -/
def nb (n : Int) (k : Nat) : Int := n / 2 ^ (8 * k) % 256
/-- A sector when k bytes of a number have been written. -/
def putK (xs : List Int) (at_ : Nat) (n : Int) : Nat → List Int
  | 0 => xs
  | k + 1 => (putK xs at_ n k).set (at_ + k) (nb n k)
def putN (xs : List Int) (at_ : Nat) (n : Int) : List Int := putK xs at_ n 4
theorem putK_length (xs : List Int) (at_ : Nat) (n : Int) (k : Nat) : (putK xs at_ n k).length = xs.length := by
  induction k with
  | zero => rfl
  | succ k ih => unfold putK; simp [ih]
/-- What has been read when k bytes have been read. -/
def readK (xs : List Int) (at_ : Nat) : Nat → Int
  | 0 => 0
  | k + 1 => bits .or .u32 (readK xs at_ k) (xs.getD (at_ + k) 0 * 2 ^ (8 * k) % 4294967296)
def readN (xs : List Int) (at_ : Nat) : Int := readK xs at_ 4

set_option maxRecDepth 100000 in
set_option maxHeartbeats 400000 in
theorem number_any (S n : Nat) (hn : n ≤ 124) (cs : Array Value) (hcs : cs.size = 128) (w : World) (bS : Blk w S 204 cs) :
    Calls Tryz.prog 167 #[.pointer (some ⟨S, 0, none⟩), .int .i64 n] w fun e w' =>
      e = .returned (.tuple #[.func (.func 185) #[] #[.pointer (some ⟨w.heap.size, 0, none⟩)], .func (.func 186) #[] #[.pointer (some ⟨w.heap.size, 0, none⟩)]]) ∧
      w' = w.alloc (.cells #[.slice (some ⟨S, n, none⟩) 4 4] 29) := by
  have hmf : ∀ (fn : Fn) (first cap : Array Value) (w : World), (Instr.makeFunc fn first cap).run Tryz.prog w = .ok (.func fn first cap) w := fun _ _ _ _ => rfl
  have hal : Tryz.prog.arrayLen 204 = 128 := by kernel_rfl
  have hsl : ∀ w : World, (Instr.sliceAt 204 (.pointer (some ⟨S, 0, none⟩)) (some (.int .i64 n)) (some (.int .i64 ((n : Int) + 4))) (some (.int .i64 ((n : Int) + 4)))).run Tryz.prog w = .ok (.slice (some ⟨S, n, none⟩) 4 4) w := fun w => by
    rw [run_sliceAt_array_lhm w 204 _ (by kernel_rfl) .i64 .i64 .i64 n ((n : Int) + 4) ((n : Int) + 4) (by omega) (by omega) (by omega) (by rw [hal]; omega)]
    have hsz : (sizeOf (Tryz.prog.elem 204)).run Tryz.prog w = .ok 1 w := by kernel_rfl
    rw [hsz]
    have h1 : ((n : Int) + 4).toNat = n + 4 := by omega
    have h2 : (n : Int).toNat = n := by omega
    simp only [Result.andThen_ok, slicedAt, h1, h2, if_neg (show ¬ n + 4 = n by omega), Nat.mul_one]
    rw [show n + 4 - n = 4 by omega]
    simp [Addr.add]
    omega
  have lS := bS.lt
  go_enter Tryz.func167, Tryz.ntmps167
  go_wp2_with fail
  go_ret2
  exact ⟨rfl, rfl⟩

set_option maxRecDepth 100000 in
set_option maxHeartbeats 1000000 in
theorem numW_any (S B a : Nat) (ha : a ≤ 124) (n : Int) (hn : 0 ≤ n ∧ n < 4294967296) (xs : List Int) (hl : xs.length = 128) (w : World) (bS : Blk w S 204 (bytesV xs)) (bB : Blk w B 29 #[.slice (some ⟨S, a, none⟩) 4 4]) (hne : S ≠ B) :
    Calls Tryz.prog 185 #[.int .u32 n, .pointer (some ⟨B, 0, none⟩)] w fun e w' => (∃ v, e = .returned v) ∧ Blk w' S 204 (bytesV (putN xs a n)) ∧ KeepEx w.heap.size [S] w w' := by
  have cB := bB.cells
  have lB := bB.lt
  have lS := bS.lt
  go_enter Tryz.func185, Tryz.ntmps185
  go_wp2_with fail
  go_loopw [3, 6] (fun _ q wr => ∃ k : Nat, k ≤ 4 ∧ q = .int .i64 k ∧ Blk wr S 204 (bytesV (putK xs a n k)) ∧ KeepEx w.heap.size [S] w wr) (fun _ q _ => 4 - (intOf q).toNat)
  case atStart => exact ⟨0, by omega, rfl, bS, KeepEx.refl _ _ _⟩
  case round =>
    obtain ⟨k, hk, rfl, bK, hx⟩ := hrel
    have bB2 := hx.blk bB lB (by simpa using fun h => hne h.symm)
    have cB := bB2.cells
    have fK := bK.free
    by_cases hlt : k < 4
    · have hcK : wr.cell? ⟨S, a + k, none⟩ = some (.int .u8 ((putK xs a n k).getD (a + k) 0)) := by rw [bK.cells]; exact bytesV_get (by rw [putK_length]; omega)
      have hw8 : IntKind.i64.wrap (8 * (k : Int)) = 8 * (k : Int) := by rw [IntKind.wrap_i64]; omega
      go_wp2_with fail
      go_region
      all_goals go_wp2
      go_roundw
      case rel => exact ⟨k + 1, by omega, by go_num, by show Blk _ _ _ (bytesV ((putK xs a n k).set (a + k) (nb n k))); rw [← bytesV_set]; exact (bK.set_ _ _).drew, hx.trans (KeepEx.trans (KeepEx.setCell _ (.inl (by simp)) _) (KeepEx.of_below (Below.refl _ _).drew))⟩
      case measure => simp [intOf]; omega
    · obtain rfl : k = 4 := by omega
      go_wp2_with fail
      go_end0
      exact ⟨⟨_, rfl⟩, bK, hx⟩

theorem readK_bounds (xs : List Int) (a k : Nat) : 0 ≤ readK xs a k ∧ readK xs a k < 4294967296 := by
  cases k with
  | zero => simp [readK]
  | succ k => unfold readK; exact ⟨bits_lo_u32 _ _ _, by have := bits_hi_u32 .or (readK xs a k) (xs.getD (a + k) 0 * 2 ^ (8 * k) % 4294967296); omega⟩

set_option maxRecDepth 100000 in
set_option maxHeartbeats 1000000 in
theorem numR_any (S B a : Nat) (ha : a ≤ 124) (xs : List Int) (hl : xs.length = 128) (hbx : Bytes xs) (w : World) (bS : Blk w S 204 (bytesV xs)) (bB : Blk w B 29 #[.slice (some ⟨S, a, none⟩) 4 4]) :
    Calls Tryz.prog 186 #[.pointer (some ⟨B, 0, none⟩)] w fun e w' => e = .returned (.int .u32 (readN xs a)) ∧ w' = w := by
  have cB := bB.cells
  have lB := bB.lt
  have lS := bS.lt
  go_enter Tryz.func186, Tryz.ntmps186
  go_wp2_with fail
  go_loopw [2, 3, 6] (fun x _ q wr => ∃ k : Nat, k ≤ 4 ∧ q = .int .i64 k ∧ x = .int .u32 (readK xs a k) ∧ wr = w) (fun _ _ q _ => 4 - (intOf q).toNat)
  case atStart => exact ⟨0, by omega, rfl, rfl, rfl⟩
  case round =>
    obtain ⟨k, hk, rfl, rfl, hw⟩ := hrel
    subst hw
    by_cases hlt : k < 4
    · have hcK : wr.cell? ⟨S, a + k, none⟩ = some (.int .u8 (xs.getD (a + k) 0)) := by rw [bS.cells]; exact bytesV_get (by omega)
      have hyb := getD_bytes hbx (a + k)
      have hs : Hid (readK xs a (k + 1) = bits .or .u32 (readK xs a k) (xs.getD (a + k) 0 * 2 ^ (8 * k) % 4294967296)) := Lib.hid rfl
      generalize xs.getD (a + k) 0 = y at *
      generalize readK xs a k = x at *
      have hym : y % 4294967296 = y := by omega
      go_wp2_with fail
      go_roundw
      case rel => exact ⟨k + 1, by omega, by go_num, by rw [hs.out], by first | trivial | rfl⟩
      case measure => simp [intOf]; omega
    · obtain rfl : k = 4 := by omega
      go_wp2_with fail
      go_ret
      exact ⟨rfl, rfl⟩

end Go.Proofs.YtjocnooekgnedaaGreatDoor
/- Layer 7: Seal. -/
namespace Go.Proofs.YtjocnooekgnedaaGreatDoor
open Go.RowKit

theorem bytesV_size (l : List Int) : (bytesV l).size = l.length := by unfold bytesV; simp
theorem bytesV_one (l : List Int) : (bytesV l).all (·.oneCell') = true := by
  unfold bytesV; simp [Value.oneCell']
theorem Tryz.infoSector : (Tryz.prog.info? 204).map (fun i => (i.zero, i.size)) = some (some (.agg (fill (.int .u8 0) 128)), 128) := by kernel_rfl
/-- 128 bytes 0. -/
def zsec : List Int := List.replicate 128 0
theorem zsec_length : zsec.length = 128 := List.length_replicate ..
theorem zeroSector (w : World) : (zeroValue 204).run Tryz.prog w = .ok (.agg (bytesV zsec)) w := by
  unfold zsec; rw [bytesV_rep]; exact (zero_of_info Tryz.infoSector).1 w
theorem sizeSector : (Tryz.prog.info? 204).map (·.size) = some 128 := (zero_of_info Tryz.infoSector).2

theorem Blk.loadSec {w : World} {g : Nat} {t : TypeId} {l : List Int} (h : Blk w g t (bytesV l)) (hl : l.length = 128) : (loadVar 204 ⟨g, 0, none⟩).run Tryz.prog w = .ok (.agg (bytesV l)) w :=
  run_loadVar_row w g t 204 (bytesV l) (0, 0) _ h Tryz.underlying204 rfl (by rw [bytesV_size, hl]; exact sizeSector)
theorem Blk.loadSecAt {w : World} {g : Nat} {t : TypeId} {l : List Int} (h : Blk w g t (bytesV l)) (hl : l.length = 128) : (Instr.loadAt 204 (.pointer (some ⟨g, 0, none⟩))).run Tryz.prog w = .ok (.agg (bytesV l)) w := by
  simp only [Instr.loadAt, Instr.sureAddr, Sem.run_bind, Sem.run_pure, Result.andThen]
  exact h.loadSec hl
theorem Blk.storeSecAt {w : World} {g : Nat} {t : TypeId} {old l : List Int} (h : Blk w g t (bytesV old)) (ho : old.length = 128) (hl : l.length = 128) :
    (Instr.storeAt 204 (.pointer (some ⟨g, 0, none⟩)) (.agg (bytesV l))).run Tryz.prog w = .ok () (w.setRow g (bytesV l)) := by
  simp only [Instr.storeAt, Instr.sureAddr, Sem.run_bind, Sem.run_pure, Result.andThen]
  exact run_storeVar_row w g t 204 (bytesV old) (bytesV l) h (by rw [bytesV_size, hl]; exact sizeSector) (by rw [bytesV_size, bytesV_size, ho, hl]) (bytesV_one l)
theorem Blk.setRow {w : World} {g : Nat} {t : TypeId} {cs cs' : Array Value} (h : Blk w g t cs) : Blk (w.setRow g cs') g t cs' := setRow_heap w g cs cs' t _ h
theorem setRow_other (w : World) (g k : Nat) (cs : Array Value) (h : k ≠ g) : (w.setRow g cs).heap[k]? = w.heap[k]? := by
  unfold World.setRow
  simp only [Array.getElem?_modify]
  rw [if_neg (fun e => h e.symm)]
theorem Blk.rowFar {w : World} {g k : Nat} {t : TypeId} {cs cs' : Array Value} (h : Blk w g t cs) (hk : g ≠ k) : Blk (w.setRow k cs') g t cs := (setRow_other w k g cs' hk).trans h
theorem Below.setRow {B : Nat} {a w : World} (h : Below B a w) {g : Nat} (hg : B ≤ g) (cs : Array Value) : Below B a (w.setRow g cs) :=
  ⟨h.os, h.tape, h.output, by simpa using h.size, fun k hk => (setRow_other w g k cs (by omega)).trans (h.block k hk)⟩
theorem KeepEx.setRow {B : Nat} {bs : List Nat} (W : World) {g : Nat} (hg : g ∈ bs ∨ B ≤ g) (cs : Array Value) : KeepEx B bs W (W.setRow g cs) :=
  ⟨rfl, rfl, rfl, by simp, fun k hk hn => setRow_other W g k cs (fun e => by subst e; rcases hg with hg | hg; exact hn hg; omega)⟩

theorem wpList_loadSec {ops : Array Oper} {rest : List Oper} {o : Oper} {a : Act} {w : World} {Q : Exit → Act → World → Prop} (hgd : o.guard = none) (x : Operand) (ho : o.op = .load 204 x)
    (g : Nat) (hx : a.eval x = .pointer (some ⟨g, 0, none⟩)) {t : TypeId} {l : List Int} (b : Blk w g t (bytesV l)) (hl : l.length = 128)
    (h : wpList Tryz.prog ops Q rest (a.put o.dst (.agg (bytesV l))) w) : wpList Tryz.prog ops Q (o :: rest) a w :=
  wpList_load_row hgd 204 x ho g hx t (bytesV l) (0, 0) _ b Tryz.underlying204 rfl (by rw [bytesV_size, hl]; exact sizeSector) h
theorem wpList_storeSec {ops : Array Oper} {rest : List Oper} {o : Oper} {a : Act} {w : World} {Q : Exit → Act → World → Prop} (hgd : o.guard = none) (x y : Operand) (ho : o.op = .store 204 x y)
    (g : Nat) (l : List Int) (hx : a.eval x = .pointer (some ⟨g, 0, none⟩)) (hy : a.eval y = .agg (bytesV l)) {t : TypeId} {old : List Int} (b : Blk w g t (bytesV old)) (hold : old.length = 128) (hl : l.length = 128)
    (h : wpList Tryz.prog ops Q rest (a.put o.dst undef) (w.setRow g (bytesV l))) : wpList Tryz.prog ops Q (o :: rest) a w :=
  wpList_store_row hgd 204 x y ho g (bytesV l) hx hy t (bytesV old) b (by rw [bytesV_size, hl]; exact sizeSector) (by rw [bytesV_size, bytesV_size, hold, hl]) (bytesV_one l) h

/-- A string's bytes. -/
def strL (s : ByteArray) : List Int := s.data.toList.map fun b => (b.toNat : Int)
theorem strL_length (s : ByteArray) : (strL s).length = s.size := by unfold strL; rw [List.length_map]; rfl
theorem strL_bytes (s : ByteArray) : Bytes (strL s) := by
  intro x hx
  unfold strL at hx
  obtain ⟨b, _, rfl⟩ := List.mem_map.1 hx
  have := b.toNat_lt
  omega

def sealE (a kind : Int) (n : Nat) : Int := if a < 0 ∨ 256 ≤ a ∨ kind < 1 ∨ 255 < kind then 7 else if 112 < n then 3 else 0
def seal0 (kind : Int) (n : Nat) : List Int := ((zsec.set 0 76).set 1 kind).set 2 n
def seal1 (kind : Int) (s : ByteArray) : List Int := (seal0 kind s.size).take 8 ++ strL s ++ (seal0 kind s.size).drop (8 + s.size)
def seal2 (a kind seq : Int) (s : ByteArray) : List Int := putN (putN (seal1 kind s) 4 seq) 120 a
def sealL (a kind seq : Int) (s : ByteArray) : List Int := putN (seal2 a kind seq s) 124 (crc ((seal2 a kind seq s).take 124))
theorem seal0_length (kind : Int) (n : Nat) : (seal0 kind n).length = 128 := by
  unfold seal0; rw [List.length_set, List.length_set, List.length_set, zsec_length]
theorem seal1_length (kind : Int) (s : ByteArray) (h : s.size ≤ 112) : (seal1 kind s).length = 128 := by
  unfold seal1; rw [List.length_append, List.length_append, List.length_take, List.length_drop, strL_length, seal0_length]; omega

def SealPost (a kind seq : Int) (s : ByteArray) (w : World) (e : Ending) (w' : World) : Prop :=
  Below w.heap.size w w' ∧ e = .returned (.tuple #[.agg (bytesV (if sealE a kind s.size = 0 then sealL a kind seq s else zsec)), .int .i64 (sealE a kind s.size)])

theorem results_sector {fn : Func} {n R : Nat} {tmps : Array Value} {w : World} {t : TypeId} {l : List Int} {e : Int} (hr : fn.results = #[.cell 8 204, .tmp n]) (h8 : tmps.getD 8 undef = .pointer (some ⟨R, 0, none⟩)) (hn : tmps.getD n undef = .int .i64 e) (b : Blk w R t (bytesV l)) (hl : l.length = 128) :
    (results fn tmps).run Tryz.prog w = .ok (.tuple #[.agg (bytesV l), .int .i64 e]) w := by
  have h := b.loadSec hl
  have h1 : (asAddr (.pointer (some ⟨R, 0, none⟩))).run Tryz.prog w = .ok ⟨R, 0, none⟩ w := rfl
  have h8' : tmps[8]?.getD undef = .pointer (some ⟨R, 0, none⟩) := by simpa using h8
  have hn' : tmps[n]?.getD undef = .int .i64 e := by simpa using hn
  simp [results, hr, h8', hn', h1, h]

set_option maxRecDepth 100000 in
set_option maxHeartbeats 1000000 in
theorem seal_bad (a kind seq : Int) (s : ByteArray) (hs : s.size ≤ maxLen) (w : World) (hE : sealE a kind s.size ≠ 0) :
    Calls Tryz.prog 154 #[.int .i64 a, .int .i64 kind, .int .u32 seq, .string s] w (SealPost a kind seq s w) := by
  have hz := zeroSector
  have hv : ∃ E, sealE a kind s.size = E := ⟨_, rfl⟩
  obtain ⟨E, hv⟩ := hv
  unfold SealPost
  rw [if_neg hE, hv]
  have HV := Lib.hid hv
  have hE2 := hE
  clear hE
  unfold sealE at hv
  by_cases a1 : a < 0
  rotate_left
  by_cases a2 : 256 ≤ a
  rotate_left
  by_cases a3 : kind < 1
  rotate_left
  by_cases a4 : 255 < kind
  rotate_left
  by_cases a5 : 112 < s.size
  rotate_left
  · exact absurd (by unfold sealE; rw [if_neg (by omega), if_neg (by omega)]) hE2
  all_goals
    clear hE2
    first
      | (rw [if_pos (by omega)] at hv)
      | (rw [if_neg (by omega), if_pos (by omega)] at hv)
    subst hv
    have bR : Blk ((w.alloc (.cells (bytesV zsec) 204)).alloc (.cells (bytesV zsec) 204)) w.heap.size 204 (bytesV zsec) := (Blk.new _ _ _).alloc _
    have bS : Blk ((w.alloc (.cells (bytesV zsec) 204)).alloc (.cells (bytesV zsec) 204)) (w.heap.size + 1) 204 (bytesV zsec) := Blk.new' (by simp)
    go_enter Tryz.func154, Tryz.ntmps154
    go_wp2_with (first
      | (refine wpList_loadSec rfl _ rfl (w.heap.size + 1) rfl bS zsec_length ?_)
      | (refine wpList_storeSec rfl _ _ rfl w.heap.size zsec rfl rfl bR zsec_length zsec_length ?_))
    refine bodyPost_ret (results_sector rfl rfl rfl (bR.setRow (cs' := bytesV zsec)) zsec_length) rfl ?_
    exact ⟨Below.setRow (by (repeat' (first | (with_reducible exact Below.refl _ _) | (with_reducible assumption) | (with_reducible refine Below.alloc ?_ ?_ _) | (with_reducible refine Below.drew ?_) | (with_reducible refine below_drewN' ?_ _) | (with_reducible refine Below.setCell ?_ ?_ _) | (with_reducible exact Nat.le_refl _) | omega | (simp; done) | (simp; omega)))) (Nat.le_refl _) _, rfl⟩

end Go.Proofs.YtjocnooekgnedaaGreatDoor
/- Layer 6: a device: ok, ready, at, Sectors. -/
namespace Go.Proofs.YtjocnooekgnedaaGreatDoor
open Go.RowKit

/-- A device's own cells: the stable sectors' slice, the cache's, Taken, Power, Off, the map. -/
def devC (S n c : Nat) (cv : Value) (tk pw : Int) (off : Bool) (M : Nat) : Array Value := #[.slice (some ⟨S, 0, none⟩) n c, cv, .int .i64 tk, .int .i64 pw, .bool off, .map (some M)]

set_option maxRecDepth 100000 in
set_option maxHeartbeats 400000 in
theorem devOk_any (D S n c : Nat) (cv : Value) (tk pw : Int) (off : Bool) (M : Nat) (w : World) (bD : Blk w D 210 (devC S n c cv tk pw off M)) :
    Calls Tryz.prog 151 #[.pointer (some ⟨D, 0, none⟩)] w fun e w' => e = .returned (.bool true) ∧ w' = w := by
  unfold devC at bD
  have cD := bD.cells
  have hmn := run_neq_map_nil (P := Tryz.prog) w 208 3 3 (some M) Tryz.underlying208
  go_enter Tryz.func151, Tryz.ntmps151
  go_wp2_with fail
  go_ret
  exact ⟨rfl, rfl⟩
set_option maxHeartbeats 400000 in
theorem devOk_nil (w : World) :
    Calls Tryz.prog 151 #[.pointer none] w fun e w' => e = .returned (.bool false) ∧ w' = w := by
  go_enter Tryz.func151, Tryz.ntmps151
  go_wp2_with fail
  go_ret
  exact ⟨rfl, rfl⟩

def readyE (off : Bool) : Int := if off then 13 else 0
set_option maxRecDepth 100000 in
set_option maxHeartbeats 400000 in
theorem ready_any (D S n c : Nat) (cv : Value) (tk pw : Int) (off : Bool) (M : Nat) (w : World) (bD : Blk w D 210 (devC S n c cv tk pw off M)) :
    Calls Tryz.prog 157 #[.pointer (some ⟨D, 0, none⟩)] w fun e w' => e = .returned (.int .i64 (readyE off)) ∧ w' = w := by
  have hok := devOk_any D S n c cv tk pw off M w bD
  unfold devC at bD
  have cD := bD.cells
  cases off
  all_goals
    go_enter Tryz.func157, Tryz.ntmps157
    go_wp2_with fail
    refine hok.mono ?_
    rintro e w1 ⟨rfl, rfl⟩
    go_wp2_with fail
    go_ret
    exact ⟨rfl, rfl⟩

def atE (off : Bool) (n : Nat) (a : Int) : Int := if off then 13 else if a < 0 ∨ (n : Int) ≤ a then 7 else 0
set_option maxRecDepth 100000 in
set_option maxHeartbeats 400000 in
theorem at_any (D S n c : Nat) (cv : Value) (tk pw : Int) (off : Bool) (M : Nat) (a : Int) (w : World) (bD : Blk w D 210 (devC S n c cv tk pw off M)) :
    Calls Tryz.prog 155 #[.pointer (some ⟨D, 0, none⟩), .int .i64 a] w fun e w' => e = .returned (.int .i64 (atE off n a)) ∧ w' = w := by
  have hr := ready_any D S n c cv tk pw off M w bD
  unfold devC at bD
  have cD := bD.cells
  unfold readyE at hr
  cases off
  · by_cases a1 : a < 0
    rotate_left
    by_cases a2 : (n : Int) ≤ a
    all_goals
      have HA : Hid (atE false n a = if a < 0 ∨ (n : Int) ≤ a then 7 else 0) := Lib.hid rfl
      first
        | (have HE : Hid (atE false n a = 0) := Lib.hid (by rw [HA.out, if_neg (by omega)]))
        | (have HE : Hid (atE false n a = 7) := Lib.hid (by rw [HA.out, if_pos (by omega)]))
      go_enter Tryz.func155, Tryz.ntmps155
      go_wp2_with fail
      refine hr.mono ?_
      rintro e w1 ⟨rfl, rfl⟩
      go_wp2_with fail
      go_ret
      exact ⟨by rw [HE.out]; rfl, rfl⟩
  · go_enter Tryz.func155, Tryz.ntmps155
    go_wp2_with fail
    refine hr.mono ?_
    rintro e w1 ⟨rfl, rfl⟩
    go_wp2_with fail
    go_ret
    exact ⟨rfl, rfl⟩

end Go.Proofs.YtjocnooekgnedaaGreatDoor
