/- The laws of layer 12: done, on a transaction. -/
import Derived.Test.YtljmdcegcckblaaGreatDoorPart45
import Derived.Test.YtljmdcegcckblaaGreatDoorPart41
namespace Go.Proofs.YtljmdcegcckblaaGreatDoor
open Go.RowKit Go.Maps

abbrev ansC (lv pv : Value) (t : ByteArray) (z e : Int) : Array Value := #[lv, pv, .string t, .int .i64 z, .int .i64 e]

/-- But for blocks between two marks all is as it was. -/
structure Mid (n m : Nat) (w1 W : World) : Prop where
  os : W.os = w1.os
  tape : W.tape = w1.tape
  output : W.output = w1.output
  size : W.heap.size = w1.heap.size
  block : ∀ b, b < n ∨ m ≤ b → W.heap[b]? = w1.heap[b]?
theorem Mid.refl (n m : Nat) (w : World) : Mid n m w w := ⟨rfl, rfl, rfl, rfl, fun _ _ => rfl⟩
theorem Mid.set_ {n m : Nat} {w1 W : World} (h : Mid n m w1 W) {p : Addr} (h1 : n ≤ p.block) (h2 : p.block < m) (u : Value) : Mid n m w1 (W.setCell p u) :=
  ⟨h.os, h.tape, h.output, by simpa using h.size, fun b hb => (Below.heap_setCell W p u b (fun e => by omega)).trans (h.block b hb)⟩
theorem Mid.row {n m : Nat} {w1 W : World} (h : Mid n m w1 W) {g : Nat} (h1 : n ≤ g) (h2 : g < m) (cs : Array Value) : Mid n m w1 (W.setRow g cs) :=
  ⟨h.os, h.tape, h.output, by simpa using h.size, fun b hb => (setRow_other W g b cs (fun e => by omega)).trans (h.block b hb)⟩
theorem Mid.below {w wA w1 W : World} (h : Mid w.heap.size wA.heap.size w1 W) (hA : Below w.heap.size w wA) (h1 : Below wA.heap.size wA w1) : Below w.heap.size w W :=
  have B1 := hA.trans (h1.mono hA.size)
  ⟨h.os.trans B1.os, h.tape.trans B1.tape, h.output.trans B1.output, by have := B1.size; have := h.size; omega, fun b hb => (h.block b (.inl hb)).trans (B1.block b hb)⟩
theorem Mid.own {w wA w1 W : World} (h : Mid w.heap.size wA.heap.size w1 W) (hA : Below w.heap.size w wA) {e : TypeId} {size : Nat} {v : Value} {n : Nat} {xs : List Value} (ho : w1.ownsRow wA.heap.size e size v n xs) : W.ownsRow w.heap.size e size v n xs :=
  own_base (own_block ho fun q hq => h.block q (.inr (own_lt ho q hq).1)) hA.size
theorem Mid.did {w wA w1 W : World} {T : Nat} {F : List Nat} {D : Nat} {y : TxS} {B : List Nat} {x : DevS} {z : TxS} {L : List Int} {v : Value} (h : Mid w.heap.size wA.heap.size w1 W) (hA : Below w.heap.size w wA) (h0 : TD w T F D y B x) (hd : DwDid wA T F D B x z L v w1) : DwDid w T F D B x z L v W := by
  obtain ⟨ho, F', ht, g, hq⟩ := hd
  have hF : ∀ b ∈ F, b < w.heap.size := fun b hb => (h0.tx.lt b hb).2
  have hB : ∀ b ∈ B, b < w.heap.size := fun b hb => (h0.dev.lt b hb).2
  refine ⟨h.own hA ho, F', ht.keep (fun b hb => h.block b ?_) (Nat.le_of_eq h.size.symm), ⟨?_, fun b hb => ?_⟩, hq⟩
  · rcases hb with hb | hb | rfl
    · exact (g.new b hb).imp (hF b) id
    · exact .inl (hB b hb)
    · exact .inl h0.dev.half.1
  · have k := g.keep
    exact ⟨h.os.trans (k.os.trans hA.os), h.tape.trans (k.tape.trans hA.tape), h.output.trans (k.output.trans hA.output), by have := k.size; have := hA.size; have := h.size; omega, fun b hb hn => ((h.block b (.inl hb)).trans (k.block b (by have := hA.size; omega) hn)).trans (hA.block b hb)⟩
  · exact (g.new b hb).imp id (fun h9 => by have := hA.size; omega)

set_option maxRecDepth 100000 in
set_option maxHeartbeats 4000000 in
theorem done_write (T : Nat) (F : List Nat) (D : Nat) (y : TxS) (B : List Nat) (x : DevS) (kd size off n : Int) (A : Option Addr) (c : Nat) (l : List Int) (hl : l.length ≤ 1000) (s : ByteArray) (pv : Value) (hsz : -9223372036854775808 ≤ size ∧ size ≤ 9223372036854775807) (hof : -9223372036854775808 ≤ off ∧ off ≤ 9223372036854775807) (hsn : s.size ≤ 10000) (w : World) (h : TD w T F D y B x) (hA : SlI w A c l) :
    Calls Tryz.prog 12 #[.pointer (some ⟨T, 0, none⟩), .agg (callC 0 kd size off n (.slice A l.length c) s pv)] w fun e w' => ∃ v, e = .returned (.agg (ansC v (.slice none 0 0) ⟨#[]⟩ (y.dwrite x kd l size off s).2.2.2 (y.dwrite x kd l size off s).1)) ∧ DwDid w T F D B x (y.dwrite x kd l size off s).2.1 (y.dwrite x kd l size off s).2.2.1 v w' := by
  obtain ⟨wA, hWA⟩ : ∃ wA, wA = ((w.alloc (.cells (callC 0 kd size off n (.slice A l.length c) s pv) 44)).alloc (.cells (ansE 0) 48)).alloc (.cells (ansE 0) 48) := ⟨_, rfl⟩
  have bC : Blk wA w.heap.size 44 (callC 0 kd size off n (.slice A l.length c) s pv) := by rw [hWA]; exact (by (repeat' (first | (with_reducible assumption) | exact Blk.new' (by simp) | refine Blk.alloc ?_ _)))
  have bR : Blk wA (w.heap.size + 1) 48 (ansE 0) := by rw [hWA]; exact (Blk.new' (by simp)).alloc _
  have bA : Blk wA (w.heap.size + 1 + 1) 48 (ansE 0) := by rw [hWA]; exact (by (repeat' (first | (with_reducible assumption) | exact Blk.new' (by simp) | refine Blk.alloc ?_ _)))
  have BA : Below w.heap.size w wA := by rw [hWA]; (repeat' (first | (with_reducible exact Below.refl _ _) | (with_reducible assumption) | (with_reducible refine Below.alloc ?_ ?_ _) | (with_reducible refine Below.drew ?_) | (with_reducible refine below_drewN' ?_ _) | (with_reducible refine Below.setCell ?_ ?_ _) | (with_reducible exact Nat.le_refl _) | omega | (simp; done) | (simp; omega)))
  have hzA : w.heap.size + 1 + 1 < wA.heap.size := bA.lt
  have hcon := dwrite_tx T F D y B x kd A c l hl size off s hsn hsz hof wA (h.below BA) (hA.below BA)
  have cC := bC.cells
  have lC := bC.lt
  go_enter Tryz.func12, Tryz.ntmps12
  go_wp2_with fail
  rw [← hWA]
  go_wp2_with fail
  refine hcon.mono ?_
  rintro e w1 ⟨v, rfl, hd⟩
  have hk1 : ∀ b, w.heap.size ≤ b → b < wA.heap.size → w1.heap[b]? = wA.heap[b]? := fun b h1 h2 => hd.2.choose_spec.2.1.keep.block b h2 (fun hm => by have := (h.tx.lt b hm).2; omega)
  obtain ⟨av, cv, rfl⟩ := own_slice hd.1
  have bR1 : Blk w1 (w.heap.size + 1) 48 (ansE 0) := (hk1 _ (by omega) (by omega)).trans bR
  have bA1 : Blk w1 (w.heap.size + 1 + 1) 48 (ansE 0) := (hk1 _ (by omega) (by omega)).trans bA
  clear hcon cC lC bC bR bA hWA hk1
  have b2 : Blk (((w1.setCell ⟨w.heap.size + 1 + 1, 0, none⟩ (.slice av (y.dwrite x kd l size off s).2.2.1.length cv)).setCell ⟨w.heap.size + 1 + 1, 3, none⟩ (.int .i64 (y.dwrite x kd l size off s).2.2.2)).setCell ⟨w.heap.size + 1 + 1, 4, none⟩ (.int .i64 (y.dwrite x kd l size off s).1)) (w.heap.size + 1 + 1) 48 (ansC (.slice av (y.dwrite x kd l size off s).2.2.1.length cv) (.slice none 0 0) ⟨#[]⟩ (y.dwrite x kd l size off s).2.2.2 (y.dwrite x kd l size off s).1) := (((bA1.set_ 0 (.slice av (y.dwrite x kd l size off s).2.2.1.length cv)).set_ 3 (.int .i64 (y.dwrite x kd l size off s).2.2.2)).set_ 4 (.int .i64 (y.dwrite x kd l size off s).1))
  have r2 : Blk (((w1.setCell ⟨w.heap.size + 1 + 1, 0, none⟩ (.slice av (y.dwrite x kd l size off s).2.2.1.length cv)).setCell ⟨w.heap.size + 1 + 1, 3, none⟩ (.int .i64 (y.dwrite x kd l size off s).2.2.2)).setCell ⟨w.heap.size + 1 + 1, 4, none⟩ (.int .i64 (y.dwrite x kd l size off s).1)) (w.heap.size + 1) 48 (ansE 0) := (((bR1.far (p := ⟨w.heap.size + 1 + 1, 0, none⟩) (by simp) (.slice av (y.dwrite x kd l size off s).2.2.1.length cv)).far (p := ⟨w.heap.size + 1 + 1, 3, none⟩) (by simp) (.int .i64 (y.dwrite x kd l size off s).2.2.2)).far (p := ⟨w.heap.size + 1 + 1, 4, none⟩) (by simp) (.int .i64 (y.dwrite x kd l size off s).1))
  have hM : Mid w.heap.size wA.heap.size w1 ((((w1.setCell ⟨w.heap.size + 1 + 1, 0, none⟩ (.slice av (y.dwrite x kd l size off s).2.2.1.length cv)).setCell ⟨w.heap.size + 1 + 1, 3, none⟩ (.int .i64 (y.dwrite x kd l size off s).2.2.2)).setCell ⟨w.heap.size + 1 + 1, 4, none⟩ (.int .i64 (y.dwrite x kd l size off s).1)).setRow (w.heap.size + 1) (ansC (.slice av (y.dwrite x kd l size off s).2.2.1.length cv) (.slice none 0 0) ⟨#[]⟩ (y.dwrite x kd l size off s).2.2.2 (y.dwrite x kd l size off s).1)) := Mid.row ((((Mid.refl w.heap.size wA.heap.size w1).set_ (p := ⟨w.heap.size + 1 + 1, 0, none⟩) (by show w.heap.size ≤ w.heap.size + 1 + 1; omega) (by show w.heap.size + 1 + 1 < wA.heap.size; omega) (.slice av (y.dwrite x kd l size off s).2.2.1.length cv)).set_ (p := ⟨w.heap.size + 1 + 1, 3, none⟩) (by show w.heap.size ≤ w.heap.size + 1 + 1; omega) (by show w.heap.size + 1 + 1 < wA.heap.size; omega) (.int .i64 (y.dwrite x kd l size off s).2.2.2)).set_ (p := ⟨w.heap.size + 1 + 1, 4, none⟩) (by show w.heap.size ≤ w.heap.size + 1 + 1; omega) (by show w.heap.size + 1 + 1 < wA.heap.size; omega) (.int .i64 (y.dwrite x kd l size off s).1)) (by omega) (by omega) _
  have HST := storeRow (ty := 48) (vs := ansC (.slice av (y.dwrite x kd l size off s).2.2.1.length cv) (.slice none 0 0) ⟨#[]⟩ (y.dwrite x kd l size off s).2.2.2 (y.dwrite x kd l size off s).1) r2 rfl (by simp [Value.oneCell']) (by kernel_rfl)
  have HM := Lib.hid hM
  have cA := bA1.cells
  have fA := bA1.free
  have lA := bA1.lt
  have lR := bR1.lt
  clear hM
  go_wp2_with (refine wpList_storeBy rfl _ _ _ rfl _ _ rfl rfl HST ?_)
  have cF := (r2.setRow (cs' := ansC (.slice av (y.dwrite x kd l size off s).2.2.1.length cv) (.slice none 0 0) ⟨#[]⟩ (y.dwrite x kd l size off s).2.2.2 (y.dwrite x kd l size off s).1)).cells
  refine bodyPost_ret (v := .agg (ansC (.slice av (y.dwrite x kd l size off s).2.2.1.length cv) (.slice none 0 0) ⟨#[]⟩ (y.dwrite x kd l size off s).2.2.2 (y.dwrite x kd l size off s).1)) (by simp [results, Tryz.results12, go_sem, cF]) rfl ?_
  have hM := HM.out
  exact ⟨_, rfl, hM.did BA h hd⟩

set_option maxRecDepth 100000 in
set_option maxHeartbeats 4000000 in
theorem done_cut (T : Nat) (F : List Nat) (D : Nat) (y : TxS) (B : List Nat) (x : DevS) (kd size off n : Int) (A : Option Addr) (c : Nat) (l : List Int) (hl : l.length ≤ 1000) (s : ByteArray) (pv : Value) (hsz : -9223372036854775808 ≤ size ∧ size ≤ 9223372036854775807) (_hn : -9223372036854775808 ≤ n ∧ n ≤ 9223372036854775807) (w : World) (h : TD w T F D y B x) (hA : SlI w A c l) :
    Calls Tryz.prog 12 #[.pointer (some ⟨T, 0, none⟩), .agg (callC 2 kd size off n (.slice A l.length c) s pv)] w fun e w' => ∃ v, e = .returned (.agg (ansC v (.slice none 0 0) ⟨#[]⟩ 0 (y.dcut x kd l size n).1)) ∧ DwDid w T F D B x (y.dcut x kd l size n).2.1 (y.dcut x kd l size n).2.2 v w' := by
  obtain ⟨wA, hWA⟩ : ∃ wA, wA = ((w.alloc (.cells (callC 2 kd size off n (.slice A l.length c) s pv) 44)).alloc (.cells (ansE 0) 48)).alloc (.cells (ansE 0) 48) := ⟨_, rfl⟩
  have bC : Blk wA w.heap.size 44 (callC 2 kd size off n (.slice A l.length c) s pv) := by rw [hWA]; exact (by (repeat' (first | (with_reducible assumption) | exact Blk.new' (by simp) | refine Blk.alloc ?_ _)))
  have bR : Blk wA (w.heap.size + 1) 48 (ansE 0) := by rw [hWA]; exact (Blk.new' (by simp)).alloc _
  have bA : Blk wA (w.heap.size + 1 + 1) 48 (ansE 0) := by rw [hWA]; exact (by (repeat' (first | (with_reducible assumption) | exact Blk.new' (by simp) | refine Blk.alloc ?_ _)))
  have BA : Below w.heap.size w wA := by rw [hWA]; (repeat' (first | (with_reducible exact Below.refl _ _) | (with_reducible assumption) | (with_reducible refine Below.alloc ?_ ?_ _) | (with_reducible refine Below.drew ?_) | (with_reducible refine below_drewN' ?_ _) | (with_reducible refine Below.setCell ?_ ?_ _) | (with_reducible exact Nat.le_refl _) | omega | (simp; done) | (simp; omega)))
  have hzA : w.heap.size + 1 + 1 < wA.heap.size := bA.lt
  have hcon := dcut_tx T F D y B x kd A c l hl size n hsz wA (h.below BA) (hA.below BA)
  have cC := bC.cells
  have lC := bC.lt
  go_enter Tryz.func12, Tryz.ntmps12
  go_wp2_with fail
  rw [← hWA]
  go_wp2_with fail
  refine hcon.mono ?_
  rintro e w1 ⟨v, rfl, hd⟩
  have hk1 : ∀ b, w.heap.size ≤ b → b < wA.heap.size → w1.heap[b]? = wA.heap[b]? := fun b h1 h2 => hd.2.choose_spec.2.1.keep.block b h2 (fun hm => by have := (h.tx.lt b hm).2; omega)
  obtain ⟨av, cv, rfl⟩ := own_slice hd.1
  have bR1 : Blk w1 (w.heap.size + 1) 48 (ansE 0) := (hk1 _ (by omega) (by omega)).trans bR
  have bA1 : Blk w1 (w.heap.size + 1 + 1) 48 (ansE 0) := (hk1 _ (by omega) (by omega)).trans bA
  clear hcon cC lC bC bR bA hWA hk1
  have b2 : Blk ((w1.setCell ⟨w.heap.size + 1 + 1, 0, none⟩ (.slice av (y.dcut x kd l size n).2.2.length cv)).setCell ⟨w.heap.size + 1 + 1, 4, none⟩ (.int .i64 (y.dcut x kd l size n).1)) (w.heap.size + 1 + 1) 48 (ansC (.slice av (y.dcut x kd l size n).2.2.length cv) (.slice none 0 0) ⟨#[]⟩ 0 (y.dcut x kd l size n).1) := ((bA1.set_ 0 (.slice av (y.dcut x kd l size n).2.2.length cv)).set_ 4 (.int .i64 (y.dcut x kd l size n).1))
  have r2 : Blk ((w1.setCell ⟨w.heap.size + 1 + 1, 0, none⟩ (.slice av (y.dcut x kd l size n).2.2.length cv)).setCell ⟨w.heap.size + 1 + 1, 4, none⟩ (.int .i64 (y.dcut x kd l size n).1)) (w.heap.size + 1) 48 (ansE 0) := ((bR1.far (p := ⟨w.heap.size + 1 + 1, 0, none⟩) (by simp) (.slice av (y.dcut x kd l size n).2.2.length cv)).far (p := ⟨w.heap.size + 1 + 1, 4, none⟩) (by simp) (.int .i64 (y.dcut x kd l size n).1))
  have hM : Mid w.heap.size wA.heap.size w1 (((w1.setCell ⟨w.heap.size + 1 + 1, 0, none⟩ (.slice av (y.dcut x kd l size n).2.2.length cv)).setCell ⟨w.heap.size + 1 + 1, 4, none⟩ (.int .i64 (y.dcut x kd l size n).1)).setRow (w.heap.size + 1) (ansC (.slice av (y.dcut x kd l size n).2.2.length cv) (.slice none 0 0) ⟨#[]⟩ 0 (y.dcut x kd l size n).1)) := Mid.row (((Mid.refl w.heap.size wA.heap.size w1).set_ (p := ⟨w.heap.size + 1 + 1, 0, none⟩) (by show w.heap.size ≤ w.heap.size + 1 + 1; omega) (by show w.heap.size + 1 + 1 < wA.heap.size; omega) (.slice av (y.dcut x kd l size n).2.2.length cv)).set_ (p := ⟨w.heap.size + 1 + 1, 4, none⟩) (by show w.heap.size ≤ w.heap.size + 1 + 1; omega) (by show w.heap.size + 1 + 1 < wA.heap.size; omega) (.int .i64 (y.dcut x kd l size n).1)) (by omega) (by omega) _
  have HST := storeRow (ty := 48) (vs := ansC (.slice av (y.dcut x kd l size n).2.2.length cv) (.slice none 0 0) ⟨#[]⟩ 0 (y.dcut x kd l size n).1) r2 rfl (by simp [Value.oneCell']) (by kernel_rfl)
  have HM := Lib.hid hM
  have cA := bA1.cells
  have fA := bA1.free
  have lA := bA1.lt
  have lR := bR1.lt
  clear hM
  go_wp2_with (refine wpList_storeBy rfl _ _ _ rfl _ _ rfl rfl HST ?_)
  have cF := (r2.setRow (cs' := ansC (.slice av (y.dcut x kd l size n).2.2.length cv) (.slice none 0 0) ⟨#[]⟩ 0 (y.dcut x kd l size n).1)).cells
  refine bodyPost_ret (v := .agg (ansC (.slice av (y.dcut x kd l size n).2.2.length cv) (.slice none 0 0) ⟨#[]⟩ 0 (y.dcut x kd l size n).1)) (by simp [results, Tryz.results12, go_sem, cF]) rfl ?_
  have hM := HM.out
  exact ⟨_, rfl, hM.did BA h hd⟩

set_option maxRecDepth 100000 in
set_option maxHeartbeats 4000000 in
theorem done_read (T : Nat) (F : List Nat) (D : Nat) (y : TxS) (B : List Nat) (x : DevS) (kd size off n : Int) (A : Option Addr) (c : Nat) (l : List Int) (hl : l.length ≤ 1000) (s : ByteArray) (pv : Value) (hsz : -9223372036854775808 ≤ size ∧ size ≤ 9223372036854775807) (w : World) (h : TD w T F D y B x) (hA : SlI w A c l) :
    Calls Tryz.prog 12 #[.pointer (some ⟨T, 0, none⟩), .agg (callC 3 kd size off n (.slice A l.length c) s pv)] w fun e w' => e = .returned (.agg (ansC (.slice none 0 0) (.slice none 0 0) (y.dread x kd l size off n).1 0 (y.dread x kd l size off n).2)) ∧ Below w.heap.size w w' := by
  obtain ⟨wA, hWA⟩ : ∃ wA, wA = ((w.alloc (.cells (callC 3 kd size off n (.slice A l.length c) s pv) 44)).alloc (.cells (ansE 0) 48)).alloc (.cells (ansE 0) 48) := ⟨_, rfl⟩
  have bC : Blk wA w.heap.size 44 (callC 3 kd size off n (.slice A l.length c) s pv) := by rw [hWA]; exact (by (repeat' (first | (with_reducible assumption) | exact Blk.new' (by simp) | refine Blk.alloc ?_ _)))
  have bR : Blk wA (w.heap.size + 1) 48 (ansE 0) := by rw [hWA]; exact (Blk.new' (by simp)).alloc _
  have bA : Blk wA (w.heap.size + 1 + 1) 48 (ansE 0) := by rw [hWA]; exact (by (repeat' (first | (with_reducible assumption) | exact Blk.new' (by simp) | refine Blk.alloc ?_ _)))
  have BA : Below w.heap.size w wA := by rw [hWA]; (repeat' (first | (with_reducible exact Below.refl _ _) | (with_reducible assumption) | (with_reducible refine Below.alloc ?_ ?_ _) | (with_reducible refine Below.drew ?_) | (with_reducible refine below_drewN' ?_ _) | (with_reducible refine Below.setCell ?_ ?_ _) | (with_reducible exact Nat.le_refl _) | omega | (simp; done) | (simp; omega)))
  have hzA : w.heap.size + 1 + 1 < wA.heap.size := bA.lt
  have hcon := dread_tx T F D y B x kd A c l hl size off n hsz wA (h.tx.below BA) (h.dev.below BA) (hA.below BA)
  have cC := bC.cells
  have lC := bC.lt
  go_enter Tryz.func12, Tryz.ntmps12
  go_wp2_with fail
  rw [← hWA]
  go_wp2_with fail
  refine hcon.mono ?_
  rintro e w1 ⟨rfl, hb1⟩
  have hk1 : ∀ b, w.heap.size ≤ b → b < wA.heap.size → w1.heap[b]? = wA.heap[b]? := fun b _ h2 => hb1.block b h2
  have bR1 : Blk w1 (w.heap.size + 1) 48 (ansE 0) := (hk1 _ (by omega) (by omega)).trans bR
  have bA1 : Blk w1 (w.heap.size + 1 + 1) 48 (ansE 0) := (hk1 _ (by omega) (by omega)).trans bA
  clear hcon cC lC bC bR bA hWA hk1
  have b2 : Blk ((w1.setCell ⟨w.heap.size + 1 + 1, 2, none⟩ (.string (y.dread x kd l size off n).1)).setCell ⟨w.heap.size + 1 + 1, 4, none⟩ (.int .i64 (y.dread x kd l size off n).2)) (w.heap.size + 1 + 1) 48 (ansC (.slice none 0 0) (.slice none 0 0) (y.dread x kd l size off n).1 0 (y.dread x kd l size off n).2) := ((bA1.set_ 2 (.string (y.dread x kd l size off n).1)).set_ 4 (.int .i64 (y.dread x kd l size off n).2))
  have r2 : Blk ((w1.setCell ⟨w.heap.size + 1 + 1, 2, none⟩ (.string (y.dread x kd l size off n).1)).setCell ⟨w.heap.size + 1 + 1, 4, none⟩ (.int .i64 (y.dread x kd l size off n).2)) (w.heap.size + 1) 48 (ansE 0) := ((bR1.far (p := ⟨w.heap.size + 1 + 1, 2, none⟩) (by simp) (.string (y.dread x kd l size off n).1)).far (p := ⟨w.heap.size + 1 + 1, 4, none⟩) (by simp) (.int .i64 (y.dread x kd l size off n).2))
  have hM : Mid w.heap.size wA.heap.size w1 (((w1.setCell ⟨w.heap.size + 1 + 1, 2, none⟩ (.string (y.dread x kd l size off n).1)).setCell ⟨w.heap.size + 1 + 1, 4, none⟩ (.int .i64 (y.dread x kd l size off n).2)).setRow (w.heap.size + 1) (ansC (.slice none 0 0) (.slice none 0 0) (y.dread x kd l size off n).1 0 (y.dread x kd l size off n).2)) := Mid.row (((Mid.refl w.heap.size wA.heap.size w1).set_ (p := ⟨w.heap.size + 1 + 1, 2, none⟩) (by show w.heap.size ≤ w.heap.size + 1 + 1; omega) (by show w.heap.size + 1 + 1 < wA.heap.size; omega) (.string (y.dread x kd l size off n).1)).set_ (p := ⟨w.heap.size + 1 + 1, 4, none⟩) (by show w.heap.size ≤ w.heap.size + 1 + 1; omega) (by show w.heap.size + 1 + 1 < wA.heap.size; omega) (.int .i64 (y.dread x kd l size off n).2)) (by omega) (by omega) _
  have HST := storeRow (ty := 48) (vs := ansC (.slice none 0 0) (.slice none 0 0) (y.dread x kd l size off n).1 0 (y.dread x kd l size off n).2) r2 rfl (by simp [Value.oneCell']) (by kernel_rfl)
  have HM := Lib.hid hM
  have cA := bA1.cells
  have fA := bA1.free
  have lA := bA1.lt
  have lR := bR1.lt
  clear hM
  go_wp2_with (refine wpList_storeBy rfl _ _ _ rfl _ _ rfl rfl HST ?_)
  have cF := (r2.setRow (cs' := ansC (.slice none 0 0) (.slice none 0 0) (y.dread x kd l size off n).1 0 (y.dread x kd l size off n).2)).cells
  refine bodyPost_ret (v := .agg (ansC (.slice none 0 0) (.slice none 0 0) (y.dread x kd l size off n).1 0 (y.dread x kd l size off n).2)) (by simp [results, Tryz.results12, go_sem, cF]) rfl ?_
  have hM := HM.out
  exact ⟨rfl, hM.below BA hb1⟩

set_option maxRecDepth 100000 in
set_option maxHeartbeats 4000000 in
theorem done_store (T : Nat) (F : List Nat) (D : Nat) (y : TxS) (B : List Nat) (x : DevS) (kd size off n : Int) (A : Option Addr) (c : Nat) (l : List Int) (hl : l.length ≤ 1000) (s : ByteArray)  (w : World) (h : TD w T F D y B x) (hA : SlI w A c l) (P : Option Addr) (pc : Nat) (ps : List ByteArray) (hm : ps.length ≤ 1000) (hps : ∀ p ∈ ps, p.size ≤ 1000000) (hp : Reads w P (ps.map .string)) (hPF : ∀ a, P = some a → a.block ∉ F ∧ a.block < w.heap.size) :
    Calls Tryz.prog 12 #[.pointer (some ⟨T, 0, none⟩), .agg (callC 5 kd size off n (.slice A l.length c) s (.slice P ps.length pc))] w fun e w' => ∃ v, e = .returned (.agg (ansC v (.slice none 0 0) ⟨#[]⟩ 0 (y.dstore x kd l ps).1)) ∧ DwDid w T F D B x (y.dstore x kd l ps).2.1 (y.dstore x kd l ps).2.2 v w' := by
  obtain ⟨wA, hWA⟩ : ∃ wA, wA = ((w.alloc (.cells (callC 5 kd size off n (.slice A l.length c) s (.slice P ps.length pc)) 44)).alloc (.cells (ansE 0) 48)).alloc (.cells (ansE 0) 48) := ⟨_, rfl⟩
  have bC : Blk wA w.heap.size 44 (callC 5 kd size off n (.slice A l.length c) s (.slice P ps.length pc)) := by rw [hWA]; exact (by (repeat' (first | (with_reducible assumption) | exact Blk.new' (by simp) | refine Blk.alloc ?_ _)))
  have bR : Blk wA (w.heap.size + 1) 48 (ansE 0) := by rw [hWA]; exact (Blk.new' (by simp)).alloc _
  have bA : Blk wA (w.heap.size + 1 + 1) 48 (ansE 0) := by rw [hWA]; exact (by (repeat' (first | (with_reducible assumption) | exact Blk.new' (by simp) | refine Blk.alloc ?_ _)))
  have BA : Below w.heap.size w wA := by rw [hWA]; (repeat' (first | (with_reducible exact Below.refl _ _) | (with_reducible assumption) | (with_reducible refine Below.alloc ?_ ?_ _) | (with_reducible refine Below.drew ?_) | (with_reducible refine below_drewN' ?_ _) | (with_reducible refine Below.setCell ?_ ?_ _) | (with_reducible exact Nat.le_refl _) | omega | (simp; done) | (simp; omega)))
  have hzA : w.heap.size + 1 + 1 < wA.heap.size := bA.lt
  have hcon := dstore_tx T F D y B x kd A c l hl P pc ps hm hps wA (h.below BA) (hA.below BA) (hp.below BA) (fun a e => ⟨(hPF a e).1, Nat.lt_of_lt_of_le (hPF a e).2 BA.size⟩)
  have cC := bC.cells
  have lC := bC.lt
  go_enter Tryz.func12, Tryz.ntmps12
  go_wp2_with fail
  rw [← hWA]
  go_wp2_with fail
  refine hcon.mono ?_
  rintro e w1 ⟨v, rfl, hd⟩
  have hk1 : ∀ b, w.heap.size ≤ b → b < wA.heap.size → w1.heap[b]? = wA.heap[b]? := fun b h1 h2 => hd.2.choose_spec.2.1.keep.block b h2 (fun hm => by have := (h.tx.lt b hm).2; omega)
  obtain ⟨av, cv, rfl⟩ := own_slice hd.1
  have bR1 : Blk w1 (w.heap.size + 1) 48 (ansE 0) := (hk1 _ (by omega) (by omega)).trans bR
  have bA1 : Blk w1 (w.heap.size + 1 + 1) 48 (ansE 0) := (hk1 _ (by omega) (by omega)).trans bA
  clear hcon cC lC bC bR bA hWA hk1
  have b2 : Blk ((w1.setCell ⟨w.heap.size + 1 + 1, 0, none⟩ (.slice av (y.dstore x kd l ps).2.2.length cv)).setCell ⟨w.heap.size + 1 + 1, 4, none⟩ (.int .i64 (y.dstore x kd l ps).1)) (w.heap.size + 1 + 1) 48 (ansC (.slice av (y.dstore x kd l ps).2.2.length cv) (.slice none 0 0) ⟨#[]⟩ 0 (y.dstore x kd l ps).1) := ((bA1.set_ 0 (.slice av (y.dstore x kd l ps).2.2.length cv)).set_ 4 (.int .i64 (y.dstore x kd l ps).1))
  have r2 : Blk ((w1.setCell ⟨w.heap.size + 1 + 1, 0, none⟩ (.slice av (y.dstore x kd l ps).2.2.length cv)).setCell ⟨w.heap.size + 1 + 1, 4, none⟩ (.int .i64 (y.dstore x kd l ps).1)) (w.heap.size + 1) 48 (ansE 0) := ((bR1.far (p := ⟨w.heap.size + 1 + 1, 0, none⟩) (by simp) (.slice av (y.dstore x kd l ps).2.2.length cv)).far (p := ⟨w.heap.size + 1 + 1, 4, none⟩) (by simp) (.int .i64 (y.dstore x kd l ps).1))
  have hM : Mid w.heap.size wA.heap.size w1 (((w1.setCell ⟨w.heap.size + 1 + 1, 0, none⟩ (.slice av (y.dstore x kd l ps).2.2.length cv)).setCell ⟨w.heap.size + 1 + 1, 4, none⟩ (.int .i64 (y.dstore x kd l ps).1)).setRow (w.heap.size + 1) (ansC (.slice av (y.dstore x kd l ps).2.2.length cv) (.slice none 0 0) ⟨#[]⟩ 0 (y.dstore x kd l ps).1)) := Mid.row (((Mid.refl w.heap.size wA.heap.size w1).set_ (p := ⟨w.heap.size + 1 + 1, 0, none⟩) (by show w.heap.size ≤ w.heap.size + 1 + 1; omega) (by show w.heap.size + 1 + 1 < wA.heap.size; omega) (.slice av (y.dstore x kd l ps).2.2.length cv)).set_ (p := ⟨w.heap.size + 1 + 1, 4, none⟩) (by show w.heap.size ≤ w.heap.size + 1 + 1; omega) (by show w.heap.size + 1 + 1 < wA.heap.size; omega) (.int .i64 (y.dstore x kd l ps).1)) (by omega) (by omega) _
  have HST := storeRow (ty := 48) (vs := ansC (.slice av (y.dstore x kd l ps).2.2.length cv) (.slice none 0 0) ⟨#[]⟩ 0 (y.dstore x kd l ps).1) r2 rfl (by simp [Value.oneCell']) (by kernel_rfl)
  have HM := Lib.hid hM
  have cA := bA1.cells
  have fA := bA1.free
  have lA := bA1.lt
  have lR := bR1.lt
  clear hM
  go_wp2_with (refine wpList_storeBy rfl _ _ _ rfl _ _ rfl rfl HST ?_)
  have cF := (r2.setRow (cs' := ansC (.slice av (y.dstore x kd l ps).2.2.length cv) (.slice none 0 0) ⟨#[]⟩ 0 (y.dstore x kd l ps).1)).cells
  refine bodyPost_ret (v := .agg (ansC (.slice av (y.dstore x kd l ps).2.2.length cv) (.slice none 0 0) ⟨#[]⟩ 0 (y.dstore x kd l ps).1)) (by simp [results, Tryz.results12, go_sem, cF]) rfl ?_
  have hM := HM.out
  exact ⟨_, rfl, hM.did BA h hd⟩

set_option maxRecDepth 100000 in
set_option maxHeartbeats 4000000 in
theorem done_load (T : Nat) (F : List Nat) (D : Nat) (y : TxS) (B : List Nat) (x : DevS) (kd size off n : Int) (A : Option Addr) (c : Nat) (l : List Int) (hl : l.length ≤ 1000) (s : ByteArray) (pv : Value)  (w : World) (h : TD w T F D y B x) (hA : SlI w A c l) :
    Calls Tryz.prog 12 #[.pointer (some ⟨T, 0, none⟩), .agg (callC 6 kd size off n (.slice A l.length c) s pv)] w fun e w' => ∃ v, e = .returned (.agg (ansC (.slice none 0 0) v ⟨#[]⟩ 0 (y.dload x kd l).2)) ∧ w'.ownsRow w.heap.size 9 1 v (y.dload x kd l).1.length ((y.dload x kd l).1.map .string) ∧ Below w.heap.size w w' := by
  obtain ⟨wA, hWA⟩ : ∃ wA, wA = ((w.alloc (.cells (callC 6 kd size off n (.slice A l.length c) s pv) 44)).alloc (.cells (ansE 0) 48)).alloc (.cells (ansE 0) 48) := ⟨_, rfl⟩
  have bC : Blk wA w.heap.size 44 (callC 6 kd size off n (.slice A l.length c) s pv) := by rw [hWA]; exact (by (repeat' (first | (with_reducible assumption) | exact Blk.new' (by simp) | refine Blk.alloc ?_ _)))
  have bR : Blk wA (w.heap.size + 1) 48 (ansE 0) := by rw [hWA]; exact (Blk.new' (by simp)).alloc _
  have bA : Blk wA (w.heap.size + 1 + 1) 48 (ansE 0) := by rw [hWA]; exact (by (repeat' (first | (with_reducible assumption) | exact Blk.new' (by simp) | refine Blk.alloc ?_ _)))
  have BA : Below w.heap.size w wA := by rw [hWA]; (repeat' (first | (with_reducible exact Below.refl _ _) | (with_reducible assumption) | (with_reducible refine Below.alloc ?_ ?_ _) | (with_reducible refine Below.drew ?_) | (with_reducible refine below_drewN' ?_ _) | (with_reducible refine Below.setCell ?_ ?_ _) | (with_reducible exact Nat.le_refl _) | omega | (simp; done) | (simp; omega)))
  have hzA : w.heap.size + 1 + 1 < wA.heap.size := bA.lt
  have hcon := dload_tx T F D y B x kd A c l hl wA (h.tx.below BA) (h.dev.below BA) (hA.below BA)
  have cC := bC.cells
  have lC := bC.lt
  go_enter Tryz.func12, Tryz.ntmps12
  go_wp2_with fail
  rw [← hWA]
  go_wp2_with fail
  refine hcon.mono ?_
  rintro e w1 ⟨hb1, v, rfl, ho⟩
  obtain ⟨av, cv, rfl⟩ := own_slice ho
  have hk1 : ∀ b, w.heap.size ≤ b → b < wA.heap.size → w1.heap[b]? = wA.heap[b]? := fun b _ h2 => hb1.block b h2
  have bR1 : Blk w1 (w.heap.size + 1) 48 (ansE 0) := (hk1 _ (by omega) (by omega)).trans bR
  have bA1 : Blk w1 (w.heap.size + 1 + 1) 48 (ansE 0) := (hk1 _ (by omega) (by omega)).trans bA
  clear hcon cC lC bC bR bA hWA hk1
  have b2 : Blk ((w1.setCell ⟨w.heap.size + 1 + 1, 1, none⟩ (.slice av (y.dload x kd l).1.length cv)).setCell ⟨w.heap.size + 1 + 1, 4, none⟩ (.int .i64 (y.dload x kd l).2)) (w.heap.size + 1 + 1) 48 (ansC (.slice none 0 0) (.slice av (y.dload x kd l).1.length cv) ⟨#[]⟩ 0 (y.dload x kd l).2) := ((bA1.set_ 1 (.slice av (y.dload x kd l).1.length cv)).set_ 4 (.int .i64 (y.dload x kd l).2))
  have r2 : Blk ((w1.setCell ⟨w.heap.size + 1 + 1, 1, none⟩ (.slice av (y.dload x kd l).1.length cv)).setCell ⟨w.heap.size + 1 + 1, 4, none⟩ (.int .i64 (y.dload x kd l).2)) (w.heap.size + 1) 48 (ansE 0) := ((bR1.far (p := ⟨w.heap.size + 1 + 1, 1, none⟩) (by simp) (.slice av (y.dload x kd l).1.length cv)).far (p := ⟨w.heap.size + 1 + 1, 4, none⟩) (by simp) (.int .i64 (y.dload x kd l).2))
  have hM : Mid w.heap.size wA.heap.size w1 (((w1.setCell ⟨w.heap.size + 1 + 1, 1, none⟩ (.slice av (y.dload x kd l).1.length cv)).setCell ⟨w.heap.size + 1 + 1, 4, none⟩ (.int .i64 (y.dload x kd l).2)).setRow (w.heap.size + 1) (ansC (.slice none 0 0) (.slice av (y.dload x kd l).1.length cv) ⟨#[]⟩ 0 (y.dload x kd l).2)) := Mid.row (((Mid.refl w.heap.size wA.heap.size w1).set_ (p := ⟨w.heap.size + 1 + 1, 1, none⟩) (by show w.heap.size ≤ w.heap.size + 1 + 1; omega) (by show w.heap.size + 1 + 1 < wA.heap.size; omega) (.slice av (y.dload x kd l).1.length cv)).set_ (p := ⟨w.heap.size + 1 + 1, 4, none⟩) (by show w.heap.size ≤ w.heap.size + 1 + 1; omega) (by show w.heap.size + 1 + 1 < wA.heap.size; omega) (.int .i64 (y.dload x kd l).2)) (by omega) (by omega) _
  have HST := storeRow (ty := 48) (vs := ansC (.slice none 0 0) (.slice av (y.dload x kd l).1.length cv) ⟨#[]⟩ 0 (y.dload x kd l).2) r2 rfl (by simp [Value.oneCell']) (by kernel_rfl)
  have HM := Lib.hid hM
  have cA := bA1.cells
  have fA := bA1.free
  have lA := bA1.lt
  have lR := bR1.lt
  clear hM
  go_wp2_with (refine wpList_storeBy rfl _ _ _ rfl _ _ rfl rfl HST ?_)
  have cF := (r2.setRow (cs' := ansC (.slice none 0 0) (.slice av (y.dload x kd l).1.length cv) ⟨#[]⟩ 0 (y.dload x kd l).2)).cells
  refine bodyPost_ret (v := .agg (ansC (.slice none 0 0) (.slice av (y.dload x kd l).1.length cv) ⟨#[]⟩ 0 (y.dload x kd l).2)) (by simp [results, Tryz.results12, go_sem, cF]) rfl ?_
  have hM := HM.out
  exact ⟨_, rfl, hM.own BA ho, hM.below BA hb1⟩

end Go.Proofs.YtljmdcegcckblaaGreatDoor
