/- Layer 7: Seal. -/
import Derived.Test.YtloddiipepiocaaGreatDoorPart03
import Derived.Deep.WholeRow
import Derived.Lib.BufferWrite
import Derived.Maps.OwnRows
import Derived.Maps.OwnOps
import Derived.Maps.RangeWalk
set_option linter.unusedVariables false
set_option linter.unusedSimpArgs false
namespace Go.Proofs.YtloddiipepiocaaGreatDoor
open Go.RowKit

theorem bytesV_size (l : List Int) : (bytesV l).size = l.length := by unfold bytesV; simp
theorem bytesV_one (l : List Int) : (bytesV l).all (·.oneCell') = true := by
  unfold bytesV; simp [Value.oneCell']
theorem Tryz.infoSector : (Tryz.prog.info? 42).map (fun i => (i.zero, i.size)) = some (some (.agg (fill (.int .u8 0) 128)), 128) := by kernel_rfl
/-- 128 bytes 0. -/
def zsec : List Int := List.replicate 128 0
theorem zsec_length : zsec.length = 128 := List.length_replicate ..
theorem zeroSector (w : World) : (zeroValue 42).run Tryz.prog w = .ok (.agg (bytesV zsec)) w := by
  unfold zsec; rw [bytesV_rep]; exact (zero_of_info Tryz.infoSector).1 w
theorem sizeSector : (Tryz.prog.info? 42).map (·.size) = some 128 := (zero_of_info Tryz.infoSector).2

theorem Blk.loadSec {w : World} {g : Nat} {t : TypeId} {l : List Int} (h : Blk w g t (bytesV l)) (hl : l.length = 128) : (loadVar 42 ⟨g, 0, none⟩).run Tryz.prog w = .ok (.agg (bytesV l)) w :=
  run_loadVar_row w g t 42 (bytesV l) (0, 0) _ h Tryz.underlying42 rfl (by rw [bytesV_size, hl]; exact sizeSector)
theorem Blk.loadSecAt {w : World} {g : Nat} {t : TypeId} {l : List Int} (h : Blk w g t (bytesV l)) (hl : l.length = 128) : (Instr.loadAt 42 (.pointer (some ⟨g, 0, none⟩))).run Tryz.prog w = .ok (.agg (bytesV l)) w := by
  simp only [Instr.loadAt, Instr.sureAddr, Sem.run_bind, Sem.run_pure, Result.andThen]
  exact h.loadSec hl
theorem Blk.storeSecAt {w : World} {g : Nat} {t : TypeId} {old l : List Int} (h : Blk w g t (bytesV old)) (ho : old.length = 128) (hl : l.length = 128) :
    (Instr.storeAt 42 (.pointer (some ⟨g, 0, none⟩)) (.agg (bytesV l))).run Tryz.prog w = .ok () (w.setRow g (bytesV l)) := by
  simp only [Instr.storeAt, Instr.sureAddr, Sem.run_bind, Sem.run_pure, Result.andThen]
  exact run_storeVar_row w g t 42 (bytesV old) (bytesV l) h (by rw [bytesV_size, hl]; exact sizeSector) (by rw [bytesV_size, bytesV_size, ho, hl]) (bytesV_one l)
theorem Blk.setRow {w : World} {g : Nat} {t : TypeId} {cs cs' : Array Value} (h : Blk w g t cs) : Blk (w.setRow g cs') g t cs' := setRow_heap w g cs cs' t _ h
theorem setRow_other (w : World) (g k : Nat) (cs : Array Value) (h : k ≠ g) : (w.setRow g cs).heap[k]? = w.heap[k]? := by
  unfold World.setRow
  simp only [Array.getElem?_modify]
  rw [if_neg (fun e => h e.symm)]
theorem Blk.rowFar {w : World} {g k : Nat} {t : TypeId} {cs cs' : Array Value} (h : Blk w g t cs) (hk : g ≠ k) : Blk (w.setRow k cs') g t cs := (setRow_other w k g cs' hk).trans h
theorem Below.setRow {B : Nat} {a w : World} (h : Below B a w) {g : Nat} (hg : B ≤ g) (cs : Array Value) : Below B a (w.setRow g cs) :=
  ⟨h.os, h.tape, h.output, by simpa using h.size, fun k hk => (setRow_other w g k cs (by omega)).trans (h.block k hk)⟩
theorem KeepEx.setRow {B : Nat} {bs : List Nat} (W : World) {g : Nat} (hg : g ∈ bs ∨ B ≤ g) (cs : Array Value) : KeepEx B bs W (W.setRow g cs) :=
  ⟨rfl, rfl, rfl, by simp, fun k hk hn => setRow_other W g k cs (fun e => by subst e; rcases hg with hg | hg; exact hn hg; omega)⟩

theorem wpList_loadSec {ops : Array Oper} {rest : List Oper} {o : Oper} {a : Act} {w : World} {Q : Exit → Act → World → Prop} (hgd : o.guard = none) (x : Operand) (ho : o.op = .load 42 x)
    (g : Nat) (hx : a.eval x = .pointer (some ⟨g, 0, none⟩)) {t : TypeId} {l : List Int} (b : Blk w g t (bytesV l)) (hl : l.length = 128)
    (h : wpList Tryz.prog ops Q rest (a.put o.dst (.agg (bytesV l))) w) : wpList Tryz.prog ops Q (o :: rest) a w :=
  wpList_load_row hgd 42 x ho g hx t (bytesV l) (0, 0) _ b Tryz.underlying42 rfl (by rw [bytesV_size, hl]; exact sizeSector) h
theorem wpList_storeSec {ops : Array Oper} {rest : List Oper} {o : Oper} {a : Act} {w : World} {Q : Exit → Act → World → Prop} (hgd : o.guard = none) (x y : Operand) (ho : o.op = .store 42 x y)
    (g : Nat) (l : List Int) (hx : a.eval x = .pointer (some ⟨g, 0, none⟩)) (hy : a.eval y = .agg (bytesV l)) {t : TypeId} {old : List Int} (b : Blk w g t (bytesV old)) (hold : old.length = 128) (hl : l.length = 128)
    (h : wpList Tryz.prog ops Q rest (a.put o.dst undef) (w.setRow g (bytesV l))) : wpList Tryz.prog ops Q (o :: rest) a w :=
  wpList_store_row hgd 42 x y ho g (bytesV l) hx hy t (bytesV old) b (by rw [bytesV_size, hl]; exact sizeSector) (by rw [bytesV_size, bytesV_size, hold, hl]) (bytesV_one l) h

/-- A string's bytes. -/
def strL (s : ByteArray) : List Int := s.data.toList.map fun b => (b.toNat : Int)
theorem strL_length (s : ByteArray) : (strL s).length = s.size := by unfold strL; rw [List.length_map]; rfl
theorem strL_bytes (s : ByteArray) : Bytes (strL s) := by
  intro x hx
  unfold strL at hx
  obtain ⟨b, _, rfl⟩ := List.mem_map.1 hx
  have := b.toNat_lt
  omega

def sealE (a kind : Int) (n : Nat) : Int := if a < 0 ∨ 256 ≤ a ∨ kind < 1 ∨ 255 < kind then 7 else if 112 < n then 3 else 0
def seal0 (kind : Int) (n : Nat) : List Int := ((zsec.set 0 76).set 1 kind).set 2 n
def seal1 (kind : Int) (s : ByteArray) : List Int := (seal0 kind s.size).take 8 ++ strL s ++ (seal0 kind s.size).drop (8 + s.size)
def seal2 (a kind seq : Int) (s : ByteArray) : List Int := putN (putN (seal1 kind s) 4 seq) 120 a
def sealL (a kind seq : Int) (s : ByteArray) : List Int := putN (seal2 a kind seq s) 124 (crc ((seal2 a kind seq s).take 124))
theorem seal0_length (kind : Int) (n : Nat) : (seal0 kind n).length = 128 := by
  unfold seal0; rw [List.length_set, List.length_set, List.length_set, zsec_length]
theorem seal1_length (kind : Int) (s : ByteArray) (h : s.size ≤ 112) : (seal1 kind s).length = 128 := by
  unfold seal1; rw [List.length_append, List.length_append, List.length_take, List.length_drop, strL_length, seal0_length]; omega

def SealPost (a kind seq : Int) (s : ByteArray) (w : World) (e : Ending) (w' : World) : Prop :=
  Below w.heap.size w w' ∧ e = .returned (.tuple #[.agg (bytesV (if sealE a kind s.size = 0 then sealL a kind seq s else zsec)), .int .i64 (sealE a kind s.size)])

theorem results_sector {fn : Func} {n R : Nat} {tmps : Array Value} {w : World} {t : TypeId} {l : List Int} {e : Int} (hr : fn.results = #[.cell 8 42, .tmp n]) (h8 : tmps.getD 8 undef = .pointer (some ⟨R, 0, none⟩)) (hn : tmps.getD n undef = .int .i64 e) (b : Blk w R t (bytesV l)) (hl : l.length = 128) :
    (results fn tmps).run Tryz.prog w = .ok (.tuple #[.agg (bytesV l), .int .i64 e]) w := by
  have h := b.loadSec hl
  have h1 : (asAddr (.pointer (some ⟨R, 0, none⟩))).run Tryz.prog w = .ok ⟨R, 0, none⟩ w := rfl
  have h8' : tmps[8]?.getD undef = .pointer (some ⟨R, 0, none⟩) := by simpa using h8
  have hn' : tmps[n]?.getD undef = .int .i64 e := by simpa using hn
  simp [results, hr, h8', hn', h1, h]

set_option maxRecDepth 100000 in
set_option maxHeartbeats 1000000 in
theorem seal_bad (a kind seq : Int) (s : ByteArray) (hs : s.size ≤ maxLen) (w : World) (hE : sealE a kind s.size ≠ 0) :
    Calls Tryz.prog 159 #[.int .i64 a, .int .i64 kind, .int .u32 seq, .string s] w (SealPost a kind seq s w) := by
  have hz := zeroSector
  have hv : ∃ E, sealE a kind s.size = E := ⟨_, rfl⟩
  obtain ⟨E, hv⟩ := hv
  unfold SealPost
  rw [if_neg hE, hv]
  have HV := Lib.hid hv
  have hE2 := hE
  clear hE
  unfold sealE at hv
  by_cases a1 : a < 0
  rotate_left
  by_cases a2 : 256 ≤ a
  rotate_left
  by_cases a3 : kind < 1
  rotate_left
  by_cases a4 : 255 < kind
  rotate_left
  by_cases a5 : 112 < s.size
  rotate_left
  · exact absurd (by unfold sealE; rw [if_neg (by omega), if_neg (by omega)]) hE2
  all_goals
    clear hE2
    first
      | (rw [if_pos (by omega)] at hv)
      | (rw [if_neg (by omega), if_pos (by omega)] at hv)
    subst hv
    have bR : Blk ((w.alloc (.cells (bytesV zsec) 42)).alloc (.cells (bytesV zsec) 42)) w.heap.size 42 (bytesV zsec) := (Blk.new _ _ _).alloc _
    have bS : Blk ((w.alloc (.cells (bytesV zsec) 42)).alloc (.cells (bytesV zsec) 42)) (w.heap.size + 1) 42 (bytesV zsec) := Blk.new' (by simp)
    go_enter Tryz.func159, Tryz.ntmps159
    go_wp2_with (first
      | (refine wpList_loadSec rfl _ rfl (w.heap.size + 1) rfl bS zsec_length ?_)
      | (refine wpList_storeSec rfl _ _ rfl w.heap.size zsec rfl rfl bR zsec_length zsec_length ?_))
    refine bodyPost_ret (results_sector rfl rfl rfl (bR.setRow (cs' := bytesV zsec)) zsec_length) rfl ?_
    exact ⟨Below.setRow (by (repeat' (first | (with_reducible exact Below.refl _ _) | (with_reducible assumption) | (with_reducible refine Below.alloc ?_ ?_ _) | (with_reducible refine Below.drew ?_) | (with_reducible refine below_drewN' ?_ _) | (with_reducible refine Below.setCell ?_ ?_ _) | (with_reducible exact Nat.le_refl _) | omega | (simp; done) | (simp; omega)))) (Nat.le_refl _) _, rfl⟩

end Go.Proofs.YtloddiipepiocaaGreatDoor
