/- Parts of the proof, put together by program: LU, LS, LX, LY. -/
import Derived.Test.YtjocnooekgnedaaGreatDoorPart50
import Derived.Test.YtjocnooekgnedaaGreatDoorPart34
import Derived.ProofKit
import Derived.OpenShut
import Derived.Test.YtjocnooekgnedaaGreatDoorPart47
import Derived.Test.YtjocnooekgnedaaGreatDoorPart45
import Derived.Test.YtjocnooekgnedaaGreatDoorPart23
import Derived.BigQuiet
import Derived.Deep.CutRange
import Derived.Deep.CutBlock
import Derived.Test.YtjocnooekgnedaaGreatDoorPart43
set_option linter.unusedVariables false
set_option linter.unusedSimpArgs false
/- Layer 11: arguments opened: a layout, an inode, a list of inodes with numbers. -/
namespace Go.Proofs.YtjocnooekgnedaaGreatDoor
open Go.ChangeShapes Go.WideShapes Go.ChangeAt Go.RowKit Go.Deep

theorem Tryz.cellsInt : Tryz.prog.cellsOf 3 = 1 := by kernel_rfl
theorem Tryz.cellsInts : Tryz.prog.cellsOf 24 = 1 := by kernel_rfl
theorem Tryz.cellsU8 : Tryz.prog.cellsOf 5 = 1 := by kernel_rfl
theorem Tryz.cellsLayout : Tryz.prog.cellsOf 23 = 3 := by kernel_rfl
theorem Tryz.cellsNode : Tryz.prog.cellsOf 26 = 8 := by kernel_rfl
theorem Tryz.cellsTwo : Tryz.prog.cellsOf 69 = 9 := by kernel_rfl
theorem wf_u8_iff {f : Int} (h : (Lit.int .u8 f).wf = true) : 0 ≤ f ∧ f ≤ 255 := by
  simp [Lit.wf, IntKind.min, IntKind.max, IntKind.bits, IntKind.signed] at h; omega
theorem wf_u64_iff {f : Int} (h : (Lit.int .u64 f).wf = true) : 0 ≤ f ∧ f < 18446744073709551616 := by
  simp [Lit.wf, IntKind.min, IntKind.max, IntKind.bits, IntKind.signed] at h; omega
theorem wf_i64_iff {f : Int} (h : (Lit.int .i64 f).wf = true) : -9223372036854775808 ≤ f ∧ f ≤ 9223372036854775807 := by
  simp [Lit.wf, IntKind.min, IntKind.max, IntKind.bits, IntKind.signed] at h; omega

/-- An inode as it came in. -/
structure InoV where
  v : Ino
  A : Option Addr
  c : Nat
  A2 : Option Addr
  c2 : Nat
def inoL (a : InoV) : List Value := (inoC a.v (.slice a.A a.v.blocks.length a.c) (.slice a.A2 a.v.attrs.length a.c2)).toList
structure InoVOk (W : World) (a : InoV) : Prop where
  r1 : Reads W a.A (a.v.blocks.map (.int .i64))
  r2 : Reads W a.A2 (a.v.attrs.map (.int .i64))
  n1 : a.v.blocks.length ≤ maxLen
  n2 : a.v.attrs.length ≤ maxLen
theorem InoVOk.in_ {W : World} {a : InoV} (h : InoVOk W a) (h1 : a.v.blocks.length ≤ 1000) (h2 : a.v.attrs.length ≤ 1000) : InoIn W a.v a.A a.c a.A2 a.c2 := ⟨h.r1, h.r2, h1, h2⟩

section
variable {H : Type} {enc : TypeId × Value → H} {W : World}
set_option maxRecDepth 100000 in
theorem open_ints' {fuel : Nat} {v : Value} {x : DataW H × List MemPlace} (h : DataW.trod enc Tryz.prog W 0 (fun _ => true) true fuel 24 [v] = some x) :
    ∃ (A : Option Addr) (n c : Nat) (xs : List Int), v = .slice A n c ∧ xs.length = n ∧ Reads W A (xs.map (Value.int .i64)) ∧ n ≤ c ∧ c ≤ maxLen ∧ (A = none → n = 0 ∧ c = 0) :=
  open_cells (Value.int .i64) Tryz.underlying24 Tryz.cellsInt (fun n cs x hx => by obtain ⟨b, rfl, _⟩ := DataW.trod_int Tryz.underlying3 hx; exact ⟨b, rfl⟩) h

set_option maxRecDepth 100000 in
/-- An inode as its cells. -/
theorem open_ino_cells {fuel : Nat} {cs : List Value} (hsz : cs.length = 8) {x : DataW H × List MemPlace} (h : DataW.trod enc Tryz.prog W 0 (fun _ => true) true fuel 26 cs = some x) :
    ∃ a : InoV, cs = inoL a ∧ InoVOk W a := by
  match cs, hsz with
  | [c0, c1, c2, c3, c4, c5, c6, c7], _ =>
    obtain ⟨xs, n, _, _, _, hlen, hg⟩ := DataW.trod_struct Tryz.underlying26 h
    have g0 : DataW.trod enc Tryz.prog W 0 (fun _ => true) true n 3 [c0] = xs[0]? := by have := hg 0 _ rfl; simpa [Tryz.cellsInt, Value.cells] using this
    have g1 : DataW.trod enc Tryz.prog W 0 (fun _ => true) true n 3 [c1] = xs[1]? := by have := hg 1 _ rfl; simpa [Tryz.cellsInt, Value.cells] using this
    have g2 : DataW.trod enc Tryz.prog W 0 (fun _ => true) true n 3 [c2] = xs[2]? := by have := hg 2 _ rfl; simpa [Tryz.cellsInt, Value.cells] using this
    have g3 : DataW.trod enc Tryz.prog W 0 (fun _ => true) true n 3 [c3] = xs[3]? := by have := hg 3 _ rfl; simpa [Tryz.cellsInt, Value.cells] using this
    have g4 : DataW.trod enc Tryz.prog W 0 (fun _ => true) true n 3 [c4] = xs[4]? := by have := hg 4 _ rfl; simpa [Tryz.cellsInt, Value.cells] using this
    have g5 : DataW.trod enc Tryz.prog W 0 (fun _ => true) true n 3 [c5] = xs[5]? := by have := hg 5 _ rfl; simpa [Tryz.cellsInt, Value.cells] using this
    have g6 : DataW.trod enc Tryz.prog W 0 (fun _ => true) true n 24 [c6] = xs[6]? := by have := hg 6 _ rfl; simpa [Tryz.cellsInts, Value.cells] using this
    have g7 : DataW.trod enc Tryz.prog W 0 (fun _ => true) true n 24 [c7] = xs[7]? := by have := hg 7 _ rfl; simpa [Tryz.cellsInts, Value.cells] using this
    clear hg
    match xs, hlen with
    | [y0, y1, y2, y3, y4, y5, y6, y7], _ =>
      simp only [List.getElem?_cons_zero, List.getElem?_cons_succ] at g0 g1 g2 g3 g4 g5 g6 g7
      obtain ⟨a0, e0, _, w0⟩ := DataW.trod_int Tryz.underlying3 g0
      obtain ⟨a1, e1, _, w1⟩ := DataW.trod_int Tryz.underlying3 g1
      obtain ⟨a2, e2, _, w2⟩ := DataW.trod_int Tryz.underlying3 g2
      obtain ⟨a3, e3, _, w3⟩ := DataW.trod_int Tryz.underlying3 g3
      obtain ⟨a4, e4, _, w4⟩ := DataW.trod_int Tryz.underlying3 g4
      obtain ⟨a5, e5, _, w5⟩ := DataW.trod_int Tryz.underlying3 g5
      simp at e0 e1 e2 e3 e4 e5
      subst e0 e1 e2 e3 e4 e5
      obtain ⟨A, m, c, l, rfl, q1, q2, q3, q4, q5⟩ := open_ints' g6
      obtain ⟨A2, m2, c2, l2, rfl, p1, p2, p3, p4, p5⟩ := open_ints' g7
      subst q1 p1
      exact ⟨⟨⟨a0, a1, a2, a3, a4, a5, l, l2⟩, A, c, A2, c2⟩, rfl, q2, p2, Nat.le_trans q3 q4, Nat.le_trans p3 p4⟩

set_option maxRecDepth 100000 in
/-- An inode that came in. -/
theorem open_ino {r : Reach} {b0 : Nat} {v : Value} {d : DataW H} {p : List MemPlace} (hv : Value.okWide Tryz.prog W r b0 26 v) (h : DataW.Trod enc Tryz.prog W 0 (fun _ => true) true 26 v d p) :
    ∃ a : InoV, v = .agg (inoC a.v (.slice a.A a.v.blocks.length a.c) (.slice a.A2 a.v.attrs.length a.c2)) ∧ InoVOk W a := by
  obtain ⟨cs, rfl, hsz⟩ := okWide_struct Tryz.underlying26 hv
  rw [Tryz.cellsNode] at hsz
  obtain ⟨l0⟩ := cs
  obtain ⟨fuel, hf⟩ := h
  obtain ⟨a, e, ha⟩ := open_ino_cells (cs := l0) hsz (by simpa [Value.cells] using hf)
  exact ⟨a, by rw [e]; rfl, ha⟩

set_option maxRecDepth 100000 in
/-- A layout that came in. -/
theorem open_lay {r : Reach} {b0 : Nat} {v : Value} {d : DataW H} {p : List MemPlace} (hv : Value.okWide Tryz.prog W r b0 23 v) (h : DataW.Trod enc Tryz.prog W 0 (fun _ => true) true 23 v d p) :
    ∃ s j i : Int, v = .agg #[.int .i64 s, .int .i64 j, .int .i64 i] ∧ (-9223372036854775808 ≤ s ∧ s ≤ 9223372036854775807) ∧ (-9223372036854775808 ≤ j ∧ j ≤ 9223372036854775807) ∧ (-9223372036854775808 ≤ i ∧ i ≤ 9223372036854775807) := by
  obtain ⟨cs, rfl, hsz⟩ := okWide_struct Tryz.underlying23 hv
  rw [Tryz.cellsLayout] at hsz
  obtain ⟨l0⟩ := cs
  obtain ⟨fuel, hf⟩ := h
  have hf2 : DataW.trod enc Tryz.prog W 0 (fun _ => true) true fuel 23 l0 = some (d, p) := by simpa [Value.cells] using hf
  match l0, hsz with
  | [c0, c1, c2], _ =>
    obtain ⟨xs, n, _, _, _, hlen, hg⟩ := DataW.trod_struct Tryz.underlying23 hf2
    have g0 : DataW.trod enc Tryz.prog W 0 (fun _ => true) true n 3 [c0] = xs[0]? := by have := hg 0 _ rfl; simpa [Tryz.cellsInt, Value.cells] using this
    have g1 : DataW.trod enc Tryz.prog W 0 (fun _ => true) true n 3 [c1] = xs[1]? := by have := hg 1 _ rfl; simpa [Tryz.cellsInt, Value.cells] using this
    have g2 : DataW.trod enc Tryz.prog W 0 (fun _ => true) true n 3 [c2] = xs[2]? := by have := hg 2 _ rfl; simpa [Tryz.cellsInt, Value.cells] using this
    clear hg
    match xs, hlen with
    | [y0, y1, y2], _ =>
      simp only [List.getElem?_cons_zero, List.getElem?_cons_succ] at g0 g1 g2
      obtain ⟨a0, e0, _, w0⟩ := DataW.trod_int Tryz.underlying3 g0
      obtain ⟨a1, e1, _, w1⟩ := DataW.trod_int Tryz.underlying3 g1
      obtain ⟨a2, e2, _, w2⟩ := DataW.trod_int Tryz.underlying3 g2
      simp at e0 e1 e2
      subst e0 e1 e2
      exact ⟨a0, a1, a2, rfl, wf_i64_iff w0, wf_i64_iff w1, wf_i64_iff w2⟩

/-- An inode with a number. -/
def twoL (a : Int × InoV) : List Value := .int .i64 a.1 :: inoL a.2
set_option maxRecDepth 100000 in
theorem open_two_cells {fuel : Nat} {cs : List Value} (hsz : cs.length = 9) {x : DataW H × List MemPlace} (h : DataW.trod enc Tryz.prog W 0 (fun _ => true) true fuel 69 cs = some x) :
    ∃ a : Int × InoV, cs = twoL a ∧ InoVOk W a.2 := by
  match cs, hsz with
  | [c0, c1, c2, c3, c4, c5, c6, c7, c8], _ =>
    obtain ⟨xs, n, _, _, _, hlen, hg⟩ := DataW.trod_struct Tryz.underlying69 h
    have g0 : DataW.trod enc Tryz.prog W 0 (fun _ => true) true n 3 [c0] = xs[0]? := by have := hg 0 _ rfl; simpa [Tryz.cellsInt, Value.cells] using this
    have g1 : DataW.trod enc Tryz.prog W 0 (fun _ => true) true n 26 [c1, c2, c3, c4, c5, c6, c7, c8] = xs[1]? := by have := hg 1 _ rfl; simpa [Tryz.cellsInt, Tryz.cellsNode, Value.cells] using this
    clear hg
    match xs, hlen with
    | [y0, y1], _ =>
      simp only [List.getElem?_cons_zero, List.getElem?_cons_succ] at g0 g1
      obtain ⟨a0, e0, _, w0⟩ := DataW.trod_int Tryz.underlying3 g0
      simp at e0
      subst e0
      obtain ⟨a, e, ha⟩ := open_ino_cells (by rfl) g1
      exact ⟨(a0, a), by show _ :: _ = _ :: _; rw [e], ha⟩
set_option maxRecDepth 100000 in
theorem open_twos {r : Reach} {b0 : Nat} {v : Value} {d : DataW H} {p : List MemPlace} (hv : Value.okWide Tryz.prog W r b0 67 v) (h : DataW.Trod enc Tryz.prog W 0 (fun _ => true) true 67 v d p) :
    ∃ (A : Option Addr) (c : Nat) (xs : List (Int × InoV)), v = .slice A xs.length c ∧ Reads W A (xs.flatMap twoL) ∧ (∀ a ∈ xs, InoVOk W a.2) ∧ xs.length ≤ maxLen := by
  obtain ⟨a0, l0, c0, rfl⟩ := okWide_slice Tryz.underlying67 hv
  obtain ⟨fuel, hf⟩ := h
  obtain ⟨A, n, c, xs, h1, h2, h3, h4, h5, h6, -⟩ := open_rows twoL (fun a => InoVOk W a.2) 9 (by omega) Tryz.underlying67 Tryz.cellsTwo (fun n cs x hsz hx => open_two_cells hsz hx) (v := .slice a0 l0 c0) (by simpa [Value.cells] using hf)
  subst h2
  exact ⟨A, c, xs, h1, h3, fun a ha => (h4 a ha).2, by omega⟩

end
theorem Tryz.cellsStr : Tryz.prog.cellsOf 9 = 1 := by kernel_rfl
set_option maxRecDepth 100000 in
/-- Bytes that came in. -/
theorem open_bytes11 {H : Type} {enc : TypeId × Value → H} {W : World} {r : Reach} {b0 : Nat} {v : Value} {d : DataW H} {p : List MemPlace} (hv : Value.okWide Tryz.prog W r b0 29 v) (h : DataW.Trod enc Tryz.prog W 0 (fun _ => true) true 29 v d p) :
    ∃ (A : Option Addr) (c : Nat) (xs : List Int), v = .slice A xs.length c ∧ Reads W A (xs.map (.int .u8)) ∧ (∀ x ∈ xs, 0 ≤ x ∧ x < 256) ∧ xs.length ≤ c ∧ c ≤ maxLen := by
  obtain ⟨a0, l0, c0, rfl⟩ := okWide_slice Tryz.underlying29 hv
  obtain ⟨fuel, hf⟩ := h
  obtain ⟨A, n, c, xs, h1, h2, h3, h4, h5, h6, -⟩ := open_rows (fun a : Int => [Value.int .u8 a]) (fun a => 0 ≤ a ∧ a < 256) 1 (by omega) Tryz.underlying29 Tryz.cellsU8 (fun n cs x _ hx => by
    obtain ⟨z, rfl, _, w⟩ := DataW.trod_int Tryz.underlying5 hx
    exact ⟨z, rfl, by have := wf_u8_iff w; omega⟩) (v := .slice a0 l0 c0) (by simpa [Value.cells] using hf)
  subst h2
  have e : xs.flatMap (fun a : Int => [Value.int .u8 a]) = xs.map (.int .u8) := by
    clear h1 h3 h4 h5 h6
    induction xs with
    | nil => rfl
    | cons a t ih => rw [List.flatMap_cons, ih]; rfl
  rw [e] at h3
  exact ⟨A, c, xs, h1, h3, fun a ha => (h4 a ha).2, h5, h6⟩
end Go.Proofs.YtjocnooekgnedaaGreatDoor
/- P11: InodesNone, walked. -/
namespace Go.Proofs.YtjocnooekgnedaaGreatDoor
open Go.RowKit Go.Maps

attribute [local go_sem] Oper.semAt_some

abbrev tx0 : Array Value := #[.pointer none, .int .i64 0, .int .i64 0, .int .i64 0, .int .i64 0, .int .i64 0, .int .i64 0, .int .i64 0, .int .i64 0, .int .i64 0, .int .i64 0, .int .i64 0, .slice none 0 0, .int .i64 0, .int .i64 0, .int .i64 0, .slice none 0 0, .map none, .bool false, .bool false, .bool false]

set_option maxRecDepth 100000 in
theorem wide_any (v : Ino) (A : Option Addr) (n c : Nat) (A2 : Option Addr) (n2 c2 : Nat) (w : World) :
    Calls Tryz.prog 10 #[.agg (inoC v (.slice A n c) (.slice A2 n2 c2))] w fun e w' => e = .returned (.bool (decide (100 < n) || decide (100 < n2))) ∧ Below w.heap.size w w' := by
  obtain ⟨wA, hA⟩ : ∃ wA, wA = w.alloc (.cells (inoC v (.slice A n c) (.slice A2 n2 c2)) 26) := ⟨_, rfl⟩
  have bV : Blk wA w.heap.size 26 (inoC v (.slice A n c) (.slice A2 n2 c2)) := by rw [hA]; exact Blk.new _ _ _
  have BA : Below w.heap.size w wA := by rw [hA]; exact (Below.refl _ _).alloc (Nat.le_refl _) _
  have c6 : wA.cell? ⟨w.heap.size, 6, none⟩ = some (.slice A n c) := (bV.cells 6).trans rfl
  have c7 : wA.cell? ⟨w.heap.size, 7, none⟩ = some (.slice A2 n2 c2) := (bV.cells 7).trans rfl
  have lV := bV.lt
  by_cases h1 : 100 < n
  · have d1 : (100 : Int) < n := by omega
    have e1 : (decide (100 < n) || decide (100 < n2)) = true := by simp [h1]
    rw [e1]
    clear h1 e1
    go_enter Tryz.func10, Tryz.ntmps10
    go_wp2_with fail
    rw [← hA]
    clear hA
    go_wp2_with fail
    go_ret
    exact ⟨rfl, BA⟩
  · by_cases h2 : 100 < n2
    · have d1 : ¬ (100 : Int) < n := by omega
      have d2 : (100 : Int) < n2 := by omega
      have e1 : (decide (100 < n) || decide (100 < n2)) = true := by simp [h2]
      rw [e1]
      clear h1 h2 e1
      go_enter Tryz.func10, Tryz.ntmps10
      go_wp2_with fail
      rw [← hA]
      clear hA
      go_wp2_with fail
      go_ret
      exact ⟨rfl, BA⟩
    · have d1 : ¬ (100 : Int) < n := by omega
      have d2 : ¬ (100 : Int) < n2 := by omega
      have e1 : (decide (100 < n) || decide (100 < n2)) = false := by simp [h1, h2]
      rw [e1]
      clear h1 h2 e1
      go_enter Tryz.func10, Tryz.ntmps10
      go_wp2_with fail
      rw [← hA]
      clear hA
      go_wp2_with fail
      go_ret
      exact ⟨rfl, BA⟩

set_option maxRecDepth 100000 in
set_option maxHeartbeats 4000000 in
theorem inodesNone_any (n : Int) (v : Ino) (A : Option Addr) (c : Nat) (A2 : Option Addr) (c2 : Nat) (w : World) (hH : HalfAt w) :
    Calls Tryz.prog 8 #[.int .i64 n, .agg (inoC v (.slice A v.blocks.length c) (.slice A2 v.attrs.length c2))] w fun e w' => e = .returned (.bool true) ∧ Below w.heap.size w w' := by
  have hp0 := hH.1
  have HH := Lib.hid hH
  obtain ⟨wA, hA⟩ : ∃ wA, wA = w.alloc (.cells (inoC v (.slice A v.blocks.length c) (.slice A2 v.attrs.length c2)) 26) := ⟨_, rfl⟩
  have bA : Blk wA w.heap.size 26 (inoC v (.slice A v.blocks.length c) (.slice A2 v.attrs.length c2)) := by rw [hA]; exact Blk.new _ _ _
  have BA : Below w.heap.size w wA := by rw [hA]; exact (Below.refl _ _).alloc (Nat.le_refl _) _
  have hwd := wide_any v A v.blocks.length c A2 v.attrs.length c2 wA
  have cA := bA.cells
  have lA := bA.lt
  clear hH
  go_enter Tryz.func8, Tryz.ntmps8
  go_wp2_with fail
  rw [← hA]
  clear hA
  go_wp2_with fail
  refine hwd.mono ?_
  rintro e w1 ⟨rfl, hb1⟩
  have b1 := bA.belowAll hb1
  have B1 := BA.trans (hb1.mono BA.size)
  clear hwd cA lA bA BA hb1
  generalize (decide (100 < v.blocks.length) || decide (100 < v.attrs.length)) = wd
  cases wd
  rotate_left
  · have hs := shown11_any w1 (HH.out.below B1 hp0)
    go_wp2_with fail
    refine hs.mono ?_
    rintro e w2 ⟨rfl, hb2⟩
    go_wp2_with fail
    go_ret
    exact ⟨rfl, B1.trans (hb2.mono B1.size)⟩
  have hsm := small11_any w1
  go_wp2_with fail
  refine hsm.mono ?_
  rintro e w2 ⟨rfl, hb2⟩
  have B2 := B1.trans (hb2.mono B1.size)
  have b2 := b1.belowAll hb2
  have hbg := begun11_fresh 64 8 10 rgSm w2 (HH.out.below B2 hp0)
  clear hsm hb2 b1 B1
  go_wp2_with fail
  refine hbg.mono ?_
  rintro e w3 ⟨D, T, F, Bd, y, rfl, -, htd, hb3, hFl, -⟩
  have B3 := B2.trans (hb3.mono B2.size)
  have b3 := b2.belowAll hb3
  have hT : T ∈ F := by obtain ⟨M, wv, nv, bT, hT, -⟩ := htd.tx.mem; exact hT
  have hT2 := hFl T hT
  have hst : StE (w3.setCell ⟨T, 20, none⟩ (.bool true)) (.pointer (some ⟨T, 0, none⟩)) 9 := htd.tx.ended.st
  have l2 := b2.lt
  have b4 : Blk (w3.setCell ⟨T, 20, none⟩ (.bool true)) w.heap.size 26 (inoC v (.slice A v.blocks.length c) (.slice A2 v.attrs.length c2)) := b3.far (p := ⟨T, 20, none⟩) (by show w.heap.size ≠ T; omega) _
  have B4 : Below w.heap.size w (w3.setCell ⟨T, 20, none⟩ (.bool true)) := B3.setCell (p := ⟨T, 20, none⟩) (by show w.heap.size ≤ T; have := B2.size; omega) _
  have hab := abort_tx T F D (freeTx 64 8 10) w3 htd.tx rfl
  clear hbg htd hb3 hFl b3 B3 b2 B2 hT hT2 l2
  go_wp2_with fail
  refine hab.mono ?_
  rintro e w4 ⟨rfl, hw4⟩
  rw [← hw4] at hst b4 B4
  clear hab hw4
  go_wp2_with fail
  go_loopw [8] (fun q wr => ∃ k : Nat, k ≤ 3 ∧ q = .int .i64 k ∧ Below w.heap.size w wr ∧ Blk wr w.heap.size 26 (inoC v (.slice A v.blocks.length c) (.slice A2 v.attrs.length c2)) ∧ StE wr (.pointer (some ⟨T, 0, none⟩)) 9) (fun q _ => 3 - (RowKit.intOf q).toNat)
  case atStart => exact ⟨0, by omega, rfl, B4, b4, hst⟩
  case round =>
    obtain ⟨k, hk, rfl, hB, hb, hs⟩ := hrel
    clear hst b4 B4
    by_cases hlt : k < 3
    · have d0 : (k : Int) < 3 := by omega
      go_upto_if 39 with fail
      go_cut [9, 10] from 33 to 81 (fun s9 s10 wx => wx = wr ∧ ∃ (tv : Value) (E : Int), tv = s9 ∧ s10 = .int .i64 E ∧ E ≠ 0 ∧ StE wr tv E)
      case first =>
        by_cases h0 : k = 0
        · have d1 : ((k : Int) == 0) = true := by simp; omega
          go_wp2_with fail
          go_meet
          case rel => exact ⟨rfl, _, _, rfl, rfl, by decide, .inl ⟨rfl, rfl⟩⟩
        · have d1 : ((k : Int) == 0) = false := by simp; omega
          go_wp2_with fail
          go_meet
          case rel => exact ⟨rfl, _, _, rfl, rfl, by decide, hs⟩
      case rest =>
        obtain ⟨hwx, tv, E, rfl, rfl, hE, hst⟩ := hcut
        replace hwx := hwx.symm
        subst hwx
        go_upto_if 41 with fail
        go_cut [9, 10] from 33 to 81 (fun s9 s10 wx => ∃ (tv : Value) (E : Int), tv = s9 ∧ s10 = .int .i64 E ∧ E ≠ 0 ∧ StE wx tv E ∧ Below wr.heap.size wr wx)
        case first =>
          by_cases h0 : k = 1
          · have d1 : ((k : Int) == 1) = true := by simp; omega
            go_wp2_with fail
            go_meet
            case rel => exact ⟨_, _, rfl, rfl, by decide, .inr ⟨_, tx0, rfl, Blk.new _ _ _, .inl ⟨rfl, rfl⟩⟩, (Below.refl _ _).alloc (Nat.le_refl _) _⟩
          · have d1 : ((k : Int) == 1) = false := by simp; omega
            go_wp2_with fail
            go_meet
            case rel => exact ⟨_, _, rfl, rfl, hE, hst, Below.refl _ _⟩
        case rest =>
          obtain ⟨tv2, E2, rfl, rfl, hE2, hst2, hb2⟩ := hcut
          have HB2 := hB.trans (hb2.mono hB.size)
          have bb2 := hb.belowAll hb2
          have hs2 := hs.below hb2
          clear hst hE hb hB hs hb2
          have hg := Get_bad tv2 E2 n wc hst2 hE2
          go_wp2_with fail
          refine hg.mono ?_
          rintro e w5 ⟨bv, av, rfl, hob, hoa, hb5⟩
          obtain ⟨Ab, cb, rfl⟩ := own_slice hob
          obtain ⟨Aa, ca, rfl⟩ := own_slice hoa
          simp only
          obtain ⟨w6, hw6⟩ : ∃ W, W = w5.alloc (.cells (inoC ino0 (.slice Ab ino0.blocks.length cb) (.slice Aa ino0.attrs.length ca)) 26) := ⟨_, rfl⟩
          have b56 : Below w5.heap.size w5 w6 := by rw [hw6]; exact (Below.refl _ _).alloc (Nat.le_refl _) _
          have hb6 := hb5.trans (b56.mono hb5.size)
          have hst6 := hst2.below hb6
          have HB6 := HB2.trans (hb6.mono HB2.size)
          have bb6 := bb2.belowAll hb6
          have hs6 := hs2.below hb6
          have HW6 := Lib.hid hw6
          clear hg hb5 b56 hw6 hst2 HB2 bb2 hs2 hb6 hob hoa
          go_upto_region 15 with fail
          have e6 := HW6.out.symm
          simp only [inoC] at e6
          rw [e6]
          clear e6
          have cB := bb6.cells
          have lB := bb6.lt
          have hal := Alloc_bad tv2 E2 v A c A2 c2 w6 hst6 hE2
          go_wp2_with fail
          refine hal.mono ?_
          rintro e w7 ⟨rfl, hb7⟩
          have hst7 := hst6.below hb7
          have HB7 := HB6.trans (hb7.mono HB6.size)
          have bb7 := bb6.belowAll hb7
          have hs7 := hs6.below hb7
          have hall := All_bad tv2 E2 w7 hst7 hE2
          clear hal hb7 hst6 HB6 bb6 hs6 cB lB HW6
          go_wp2_with fail
          refine hall.mono ?_
          rintro e w8 ⟨rfl, hb8⟩
          have hst8 := hst7.below hb8
          have HB8 := HB7.trans (hb8.mono HB7.size)
          have bb8 := bb7.belowAll hb8
          have hs8 := hs7.below hb8
          have cB := bb8.cells
          have lB := bb8.lt
          have hEE : (E2 != E2) = false := by simp
          have hput := Put_bad tv2 E2 n (inoC v (.slice A v.blocks.length c) (.slice A2 v.attrs.length c2)) rfl w8 hst8 hE2
          clear hall hb8 hst7 HB7 bb7 hs7
          go_wp2_with fail
          refine hput.mono ?_
          rintro e w9 ⟨rfl, hb9⟩
          have HB9 := HB8.trans (hb9.mono HB8.size)
          have bb9 := bb8.belowAll hb9
          have hs9 := hs8.below hb9
          clear hput hb9 hst8 HB8 bb8 hs8 cB lB
          go_wp2_with fail
          go_roundw
          case rel => exact ⟨k + 1, by omega, by go_num, HB9, bb9, hs9⟩
          case measure => simp [RowKit.intOf]; omega
    · obtain rfl : k = 3 := by omega
      have hs2 := shown11_any wr (HH.out.below hB hp0)
      go_wp2_with fail
      refine hs2.mono ?_
      rintro e w5 ⟨rfl, hb5⟩
      go_wp2_with fail
      go_ret
      exact ⟨rfl, hB.trans (hb5.mono hB.size)⟩
end Go.Proofs.YtjocnooekgnedaaGreatDoor
/- P11.5: InodesBack, walked. -/
namespace Go.Proofs.YtjocnooekgnedaaGreatDoor
open Go.RowKit Go.Maps

attribute [local go_sem] Oper.semAt_some

theorem decR_split (s j i : Int) (b : List Int) : ((decR s j i b).1 = ino0 ∧ (decR s j i b).2 ≠ 0) ∨ ∃ v, decR s j i b = (v, 0) ∧ decI b = some v ∧ inoE s j i v = 0 := by
  unfold decR
  by_cases h : rgE s j i ≠ 0
  · rw [if_pos h]; exact .inl ⟨rfl, h⟩
  · rw [if_neg h]
    unfold decE
    cases hd : decI b with
    | none => exact .inl ⟨rfl, (by decide : (6 : Int) ≠ 0)⟩
    | some v =>
      simp only
      by_cases hv : inoE s j i v ≠ 0
      · rw [if_pos hv]; exact .inl ⟨rfl, (by decide : (6 : Int) ≠ 0)⟩
      · rw [if_neg hv]; exact .inr ⟨v, rfl, rfl, by simpa using hv⟩
theorem decR_enc {s j i : Int} {v : Ino} (h : inoE s j i v = 0) : decR s j i (encI v) = (v, 0) := by
  have hk := inoE_ok.1 h
  unfold decR
  rw [if_neg (by simpa using hk.rg)]
  unfold decE
  rw [(dec_enc_ino hk).1]
  simp only
  rw [if_neg (by simpa using h)]

set_option maxRecDepth 100000 in
set_option maxHeartbeats 4000000 in
theorem inodesBack_any (s j i : Int) (v : Ino) (A : Option Addr) (c : Nat) (A2 : Option Addr) (c2 : Nat) (Ab : Option Addr) (cb : Nat) (bs : List Int) (w : World) (hH : HalfAt w)
    (hv1 : Reads w A (v.blocks.map (.int .i64))) (hv2 : Reads w A2 (v.attrs.map (.int .i64))) (hb : Reads w Ab (bs.map (.int .u8))) (hbn : ∀ x ∈ bs, 0 ≤ x ∧ x < 256) (hbc : bs.length ≤ cb) :
    Calls Tryz.prog 5 #[.agg #[.int .i64 s, .int .i64 j, .int .i64 i], .agg (inoC v (.slice A v.blocks.length c) (.slice A2 v.attrs.length c2)), .slice Ab bs.length cb] w fun e w' => e = .returned (.bool true) ∧ Below w.heap.size w w' := by
  have hp0 := hH.1
  have HH := Lib.hid hH
  have HV := Lib.hid (And.intro hv1 hv2)
  have HB := Lib.hid (And.intro hb (And.intro hbn hbc))
  obtain ⟨wA, hA⟩ : ∃ wA, wA = (w.alloc (.cells #[.int .i64 s, .int .i64 j, .int .i64 i] 23)).alloc (.cells (inoC v (.slice A v.blocks.length c) (.slice A2 v.attrs.length c2)) 26) := ⟨_, rfl⟩
  have bL : Blk wA w.heap.size 23 #[.int .i64 s, .int .i64 j, .int .i64 i] := by rw [hA]; exact (by (repeat' (first | (with_reducible assumption) | exact Blk.new' (by simp) | refine Blk.alloc ?_ _)))
  have bV : Blk wA (w.heap.size + 1) 26 (inoC v (.slice A v.blocks.length c) (.slice A2 v.attrs.length c2)) := by rw [hA]; exact (by (repeat' (first | (with_reducible assumption) | exact Blk.new' (by simp) | refine Blk.alloc ?_ _)))
  have BA : Below w.heap.size w wA := by rw [hA]; (repeat' (first | (with_reducible exact Below.refl _ _) | (with_reducible assumption) | (with_reducible refine Below.alloc ?_ ?_ _) | (with_reducible refine Below.drew ?_) | (with_reducible refine below_drewN' ?_ _) | (with_reducible refine Below.setCell ?_ ?_ _) | (with_reducible exact Nat.le_refl _) | omega | (simp; done) | (simp; omega)))
  have hwd := wide_any v A v.blocks.length c A2 v.attrs.length c2 wA
  have cA := bV.cells
  have lA := bV.lt
  clear hH hv1 hv2 hb hbn hbc
  go_enter Tryz.func5, Tryz.ntmps5
  go_wp2_with fail
  rw [← hA]
  clear hA
  go_wp2_with fail
  refine hwd.mono ?_
  rintro e w1 ⟨rfl, hb1⟩
  have bL1 := bL.belowAll hb1
  have bV1 := bV.belowAll hb1
  have B1 := BA.trans (hb1.mono BA.size)
  clear hwd cA lA bV bL BA hb1
  have hshow : ∀ V, Below w.heap.size w V → Calls Tryz.prog 11 #[] V fun e w' => e = .returned (.bool true) ∧ Below V.heap.size V w' := fun V hV => shown11_any V (HH.out.below hV hp0)
  have HSH := Lib.hid hshow
  clear hshow
  obtain ⟨wd, hwd⟩ : ∃ wd, wd = (decide (100 < v.blocks.length) || decide (100 < v.attrs.length)) := ⟨_, rfl⟩
  rw [← hwd]
  cases wd
  rotate_left
  · as_aux_lemma =>
      have hs := HSH.out w1 B1
      clear hwd
      go_wp2_with fail
      refine hs.mono ?_
      rintro e w2 ⟨rfl, hb2⟩
      go_wp2_with fail
      go_ret
      exact ⟨rfl, B1.trans (hb2.mono B1.size)⟩
  have hsm : v.blocks.length ≤ 100 ∧ v.attrs.length ≤ 100 := by
    have := hwd.symm
    simp at this
    omega
  clear hwd
  by_cases hbl : 300 < bs.length
  · as_aux_lemma =>
      have d1 : (300 : Int) < bs.length := by omega
      have hs := HSH.out w1 B1
      clear hbl
      go_wp2_with fail
      refine hs.mono ?_
      rintro e w2 ⟨rfl, hb2⟩
      go_wp2_with fail
      go_ret
      exact ⟨rfl, B1.trans (hb2.mono B1.size)⟩
  have d1 : ¬ (300 : Int) < bs.length := by omega
  have hin : ∀ V, Below w.heap.size w V → InoIn V v A c A2 c2 := fun V hV => ⟨HV.out.1.below hV, HV.out.2.below hV, by omega, by omega⟩
  have HIN := Lib.hid hin
  have HBL := Lib.hid hbl
  have hen := encode_ino s j i v A c A2 c2 w1 (hin w1 B1)
  have cL := bL1.cells
  have lL := bL1.lt
  have cV := bV1.cells
  have lV := bV1.lt
  clear hin hbl hsm
  go_wp2_with fail
  refine hen.mono ?_
  rintro e w2 ⟨B, n, c3, rfl, hb2, hen1, hen2, hen3⟩
  have bL2 := bL1.belowAll hb2
  have bV2 := bV1.belowAll hb2
  have B2 := B1.trans (hb2.mono B1.size)
  have HEN := Lib.hid (And.intro hen1 (And.intro hen2 hen3))
  clear hen cL lL cV lV bL1 bV1 hb2 B1 hen1 hen2 hen3 d1
  go_upto_if 27 with fail
  go_cut [9, 10] from 26 to 56 (fun s9 s10 wx => ∃ u9 u10, u9 = s9 ∧ u10 = s10 ∧ Below w.heap.size w wx ∧ Blk wx w.heap.size 23 #[.int .i64 s, .int .i64 j, .int .i64 i])
  case first =>
    as_aux_lemma =>
      have cL := bL2.cells
      have lL := bL2.lt
      have cV := bV2.cells
      have lV := bV2.lt
      by_cases hE : inoE s j i v = 0
      · obtain ⟨hn, hR⟩ := HEN.out.1 hE
        subst hn
        have hkk := inoE_ok.1 hE
        have h96 := (dec_enc_ino hkk).2
        have hde := decode_ino s j i B c3 (encI v) (by omega) HEN.out.2.2 (encI_bytes hkk) w2 hR
        rw [decR_enc hE] at hde
        have d2 : ¬ (96 : Int) < (encI v).length := by omega
        have hE2 : (inoE s j i v == 0) = true := by simpa using hE
        clear hE hkk h96 hR HEN
        go_wp2_with fail
        refine hde.mono ?_
        rintro e w3 ⟨bv, av, rfl, hob, hoa, hb3⟩
        obtain ⟨Ab3, cb3, rfl⟩ := own_slice hob
        obtain ⟨Aa3, ca3, rfl⟩ := own_slice hoa
        simp only at hob hoa ⊢
        obtain ⟨w4, hw4⟩ : ∃ W, W = w3.alloc (.cells (inoC v (.slice Ab3 v.blocks.length cb3) (.slice Aa3 v.attrs.length ca3)) 26) := ⟨_, rfl⟩
        have b34 : Below w3.heap.size w3 w4 := by rw [hw4]; exact (Below.refl _ _).alloc (Nat.le_refl _) _
        have bY : Blk w4 w3.heap.size 26 (inoC v (.slice Ab3 v.blocks.length cb3) (.slice Aa3 v.attrs.length ca3)) := by rw [hw4]; exact Blk.new _ _ _
        have hb4 := hb3.trans (b34.mono hb3.size)
        have B4 := B2.trans (hb4.mono B2.size)
        have bL4 := bL2.belowAll hb4
        have bV4 := bV2.belowAll hb4
        have hsame := same_ino v v A c A2 c2 Ab3 cb3 Aa3 ca3 w4 (HIN.out w4 B4) ⟨Reads.of_own (own_below hob b34), Reads.of_own (own_below hoa b34), (HIN.out w4 B4).n1, (HIN.out w4 B4).n2⟩ (HIN.out w4 B4).n1 (HIN.out w4 B4).n2 (HIN.out w4 B4).n1 (HIN.out w4 B4).n2
        rw [(sameIno_iff v v).2 rfl] at hsame
        have HW4 := Lib.hid hw4
        clear hde cL lL cV lV bL2 bV2 B2 hb3 b34 hw4 hb4 hob hoa
        have cV := bV4.cells
        have lV := bV4.lt
        have cY := bY.cells
        have lY := bY.lt
        go_upto_region 6 with fail
        have e4 := HW4.out.symm
        simp only [inoC] at e4
        rw [e4]
        clear e4
        go_wp2_with fail
        refine hsame.mono ?_
        rintro e w5 ⟨rfl, hb5⟩
        have bL5 := bL4.belowAll hb5
        have B5 := B4.trans (hb5.mono B4.size)
        clear hsame cV lV cY lY
        go_wp2_with fail
        go_meet
        case rel => exact ⟨_, _, rfl, rfl, B5, bL5⟩
      · have hn := HEN.out.2.1 hE
        subst hn
        have hck := check_ino s j i v A c A2 c2 w2 (HIN.out w2 B2)
        have d2 : (inoE s j i v == 0) = false := by simpa using hE
        have d3 : (inoE s j i v != inoE s j i v) = false := by simp
        have d4 : ¬ (0 : Int) < ((0 : Nat) : Int) := by omega
        clear hE HEN
        go_wp2_with fail
        refine hck.mono ?_
        rintro e w3 ⟨rfl, hb3⟩
        have bL3 := bL2.belowAll hb3
        have B3 := B2.trans (hb3.mono B2.size)
        clear hck cL lL cV lV
        go_wp2_with fail
        go_meet
        case rel => exact ⟨_, _, rfl, rfl, B3, bL3⟩
  case rest =>
    as_aux_lemma =>
      obtain ⟨u9, u10, rfl, rfl, BC, bC⟩ := hcut
      clear B2 bL2 bV2 HEN HIN HV
      have hRb := HB.out.1.below BC
      have hde := decode_ino s j i Ab cb bs (by have := HBL.out; omega) HB.out.2.2 HB.out.2.1 wc hRb
      have cL := bC.cells
      have lL := bC.lt
      clear hRb
      rcases decR_split s j i bs with ⟨h1, h2⟩ | ⟨v', h1, h2, h3⟩
      · obtain ⟨z, q, hzq⟩ : ∃ z q, decR s j i bs = (z, q) := ⟨_, _, rfl⟩
        rw [hzq] at hde h1 h2
        simp only at h1 h2
        subst h1
        have d2 : (q != 0) = true := by simpa using h2
        clear h2 hzq
        go_wp2_with fail
        refine hde.mono ?_
        rintro e w3 ⟨bv, av, rfl, hob, hoa, hb3⟩
        obtain ⟨Ab3, cb3, rfl⟩ := own_slice hob
        obtain ⟨Aa3, ca3, rfl⟩ := own_slice hoa
        simp only at hob hoa ⊢
        obtain ⟨w4, hw4⟩ : ∃ W, W = w3.alloc (.cells (inoC ino0 (.slice Ab3 ino0.blocks.length cb3) (.slice Aa3 ino0.attrs.length ca3)) 26) := ⟨_, rfl⟩
        have b34 : Below w3.heap.size w3 w4 := by rw [hw4]; exact (Below.refl _ _).alloc (Nat.le_refl _) _
        have bY : Blk w4 w3.heap.size 26 (inoC ino0 (.slice Ab3 ino0.blocks.length cb3) (.slice Aa3 ino0.attrs.length ca3)) := by rw [hw4]; exact Blk.new _ _ _
        have hb4 := hb3.trans (b34.mono hb3.size)
        have B4 := BC.trans (hb4.mono BC.size)
        have hsame := same_ino ino0 ino0 Ab3 cb3 Aa3 ca3 none 0 none 0 w4 ⟨.inl rfl, .inl rfl, by simp [ino0], by simp [ino0]⟩ ⟨.inl rfl, .inl rfl, by simp [ino0], by simp [ino0]⟩ (by simp [ino0]) (by simp [ino0]) (by simp [ino0]) (by simp [ino0])
        rw [(sameIno_iff ino0 ino0).2 rfl] at hsame
        have HW4 := Lib.hid hw4
        clear hde cL lL hb3 b34 hw4 hb4 hob hoa
        have cY := bY.cells
        have lY := bY.lt
        go_upto_region 11 with fail
        have e4 := HW4.out.symm
        simp only [inoC] at e4
        rw [e4]
        clear e4
        go_wp2_with fail
        refine hsame.mono ?_
        rintro e w5 ⟨rfl, hb5⟩
        have B5 := B4.trans (hb5.mono B4.size)
        have hs := HSH.out w5 B5
        clear hsame cY lY
        go_wp2_with fail
        refine hs.mono ?_
        rintro e w6 ⟨rfl, hb6⟩
        go_wp2_with fail
        go_ret
        exact ⟨rfl, B5.trans (hb6.mono B5.size)⟩
      · rw [h1] at hde
        have heq := enc_dec_ino HB.out.2.1 h2
        have hsml := (inoE_ok.1 h3).small
        have HEQ := Lib.hid heq
        have HE3 := Lib.hid h3
        have HSM := Lib.hid hsml
        clear h1 h2 heq h3 hsml
        go_wp2_with fail
        refine hde.mono ?_
        rintro e w3 ⟨bv, av, rfl, hob, hoa, hb3⟩
        obtain ⟨Ab3, cb3, rfl⟩ := own_slice hob
        obtain ⟨Aa3, ca3, rfl⟩ := own_slice hoa
        simp only at hob hoa ⊢
        obtain ⟨w4, hw4⟩ : ∃ W, W = w3.alloc (.cells (inoC v' (.slice Ab3 v'.blocks.length cb3) (.slice Aa3 v'.attrs.length ca3)) 26) := ⟨_, rfl⟩
        have b34 : Below w3.heap.size w3 w4 := by rw [hw4]; exact (Below.refl _ _).alloc (Nat.le_refl _) _
        have bY : Blk w4 w3.heap.size 26 (inoC v' (.slice Ab3 v'.blocks.length cb3) (.slice Aa3 v'.attrs.length ca3)) := by rw [hw4]; exact Blk.new _ _ _
        have hb4 := hb3.trans (b34.mono hb3.size)
        have B4 := BC.trans (hb4.mono BC.size)
        have bL4 := bC.belowAll hb4
        have hen := encode_ino s j i v' Ab3 cb3 Aa3 ca3 w4 ⟨Reads.of_own (own_below hob b34), Reads.of_own (own_below hoa b34), by have := HSM.out; omega, by have := HSM.out; omega⟩
        have HW4 := Lib.hid hw4
        clear hde cL lL hb3 b34 hw4 hb4 hob hoa
        have cL := bL4.cells
        have lL := bL4.lt
        have cY := bY.cells
        have lY := bY.lt
        go_upto_region 11 with fail
        have e4 := HW4.out.symm
        simp only [inoC] at e4
        rw [e4]
        clear e4
        go_wp2_with fail
        refine hen.mono ?_
        rintro e w5 ⟨B5s, n, c5, rfl, hb5, hen1, -, -⟩
        obtain ⟨hn, hR5⟩ := hen1 HE3.out
        rw [HEQ.out] at hn hR5
        subst hn
        rw [HE3.out]
        have B5 := B4.trans (hb5.mono B4.size)
        have hc1 := conv_bytes B5s bs.length c5 bs rfl w5 hR5
        have hc2 := conv_bytes Ab bs.length cb bs rfl w5 (HB.out.1.below B5)
        have hs := HSH.out w5 B5
        have hse : ((strOfNums bs).toList == (strOfNums bs).toList) = true := by simp
        clear hen cL lL cY lY hen1 hR5
        go_wp2_with fail
        refine hs.mono ?_
        rintro e w6 ⟨rfl, hb6⟩
        go_wp2_with fail
        go_ret
        exact ⟨rfl, B5.trans (hb6.mono B5.size)⟩
end Go.Proofs.YtjocnooekgnedaaGreatDoor
/- P11.5: InodesBack: the row proved, and its tied card. -/
namespace Go.Proofs.YtjocnooekgnedaaGreatDoor
open Go.ChangeShapes Go.WideShapes Go.ChangeAt Go.RowKit Go.Joins Go.Deep

set_option maxRecDepth 100000 in
theorem inodesBack_lifted (os : Os) (started : os.Started) (H : Type) (enc : TypeId × Value → H) :
    ReturnsInHanded {} Tryz.checked os 5 .any (fun w args => (Rows.inodesBackSpec.pre enc Tryz.prog Tryz.f5 [] false w args ∧ laidMetH Tryz.prog half1 w) ∧ sizedMet enc Tryz.prog Tryz.f5 (OpenSpec.ofChange Rows.inodesBackSpec) false w args)
      (Rows.inodesBackSpec.post enc Tryz.prog Tryz.f5 false true false false) := by
  refine returnsInHanded_of_change_and (C := Tryz.checked) (X := fun w _ => laidMetH Tryz.prog half1 w) (fun _ _ _ hh h => h.of_heap hh) Tryz.own started (by kernel_rfl) Tryz.func5
    (ChangeSpec.witness_shaped (enc := enc) (C := Tryz.checked) (os := os) (X := fun w _ => laidMetH Tryz.prog half1 w) false (World.doorLaid Tryz.prog 400 os) #[.agg #[.int .i64 0, .int .i64 0, .int .i64 0], .agg #[.int .i64 0, .int .i64 0, .int .i64 0, .int .i64 0, .int .i64 0, .int .i64 0, .slice none 0 0, .slice none 0 0], .slice none 0 0] 8 rfl (World.shaped_of_RefB (by kernel_rfl) (by kernel_rfl)) (by kernel_rfl) (by kernel_rfl) (by kernel_rfl) (door_met os _)) ?_
  intro W base args ds gs before hval0 hW _ _ hL _
  have hval : ∀ (j : Nat) t v, Tryz.f5.params[j]? = some t → args[j]? = some v → Value.okWide Tryz.prog W .any base t v := hval0
  have hW' := hW
  obtain ⟨p, q, hA0, hV, rfl, hfz, hnd⟩ := hW
  have hA : DataW.TrodAll enc Tryz.prog W 0 (fun _ => true) true Tryz.f5.params.toList args.toList ds p := hA0
  rw [Tryz.params5] at hA hval
  obtain ⟨v0, v1, v2, d0, d1, d2, p0, p1, p2, rfl, rfl, rfl, h0, h1, h2⟩ := trodAll_three hA
  obtain ⟨rfl, rfl⟩ := trodVars_none hV
  have hH := half_of_laid hL
  have h0k := h0
  have h1k := h1
  have h2k := h2
  clear hA0 hval0
  simp only [List.append_nil] at hW'
  have hlt0 : ∀ x ∈ p0, x.block < W.heap.size := fun x hx => by simpa using hW'.lt x (by simp [hx])
  have hlt1 : ∀ x ∈ p1, x.block < W.heap.size := fun x hx => by simpa using hW'.lt x (by simp [hx])
  have hlt2 : ∀ x ∈ p2, x.block < W.heap.size := fun x hx => by simpa using hW'.lt x (by simp [hx])
  obtain ⟨ls, lj, li, rfl, hws0, hwj0, hwi0⟩ := open_lay (hval 0 23 v0 rfl rfl) h0
  obtain ⟨a, rfl, hw1⟩ := open_ino (hval 1 26 v1 rfl rfl) h1
  obtain ⟨bA, bc, bx, rfl, hR2, hw2, hn2, hc2⟩ := open_bytes11 (hval 2 29 v2 rfl rfl) h2
  refine (inodesBack_any ls lj li a.v a.A a.c a.A2 a.c2 bA bc bx W hH hw1.r1 hw1.r2 hR2 hw2 hn2).mono fun e W' ⟨he, hnx⟩ => ?_
  subst he
  refine ⟨_, rfl, _, _, _, [], p0 ++ (p1 ++ p2), [], hW', ?_, ?_, rfl, hnx.frame _, fun h => by cases h⟩
  · exact trodAll_mk1 (shut_bool Tryz.underlying4 true)
  · exact trodAll_mk3 (Below.trod Tryz.laidOut (by kernel_rfl) (of_decide_eq_true (by kernel_rfl)) h0k hnx hlt0) (Below.trod Tryz.laidOut (by kernel_rfl) (of_decide_eq_true (by kernel_rfl)) h1k hnx hlt1) (Below.trod Tryz.laidOut (by kernel_rfl) (of_decide_eq_true (by kernel_rfl)) h2k hnx hlt2)

theorem inodesBack_holds : Rows.InodesBackSaid :=
  OpenClaim.holds_of_wide 5 Tryz.f5 rfl rfl rfl rfl rfl rfl rfl ⟨rfl, rfl, rfl, rfl, rfl⟩ rfl rfl rfl rfl rfl (by kernel_rfl) Tryz.func5 (by kernel_rfl)
    (of_decide_eq_true (by kernel_rfl)) (by unfold Func.isWrapper; first | (rw [if_pos (by decide +kernel)]; kernel_rfl) | (rw [if_neg (by decide +kernel)]; exact ⟨rfl, rfl⟩))
    (fun os started H enc _ => inodesBack_lifted os started H enc)

theorem inodesBackCard_holds : Rows.InodesBackCardSaid :=
  Claim7.holds_tied_plain_at .later [] [.data] true (true, "e8801c0ce7bc0057fd6b75f0dfacb230b8a5f9fbd5fbfd86fb22cd5818a18b38") false
    inodesBack_holds (fun _ h => by cases h) (by kernel_rfl) (fun _ h => by cases h) inodesBack_row_tie rfl ⟨rfl, rfl⟩ (by kernel_rfl) rfl
    (fun f fn hf hfn => by
      obtain rfl : f = 5 := Option.some.inj ((show Tryz.prog.funcNamed "limewash/limewashlaw11.InodesBack" = some 5 by kernel_rfl).symm.trans hf) |>.symm
      obtain rfl : fn = Tryz.f5 := (Option.some.inj (Tryz.func5.symm.trans hfn)).symm
      exact ⟨by kernel_rfl, fun j t ht => by
        rw [Tryz.params5] at ht
        have hm : t ∈ [23, 26, 29] := by simpa using Array.mem_of_getElem? ht
        have hall : ([23, 26, 29].all fun u => !Tryz.prog.wantsStandIn u) = true := by kernel_rfl
        exact (show Tryz.prog.wantsStandIn t = false by simpa using List.all_eq_true.1 hall t hm)⟩)
    (by kernel_rfl)

#print axioms inodesBackCard_holds
end Go.Proofs.YtjocnooekgnedaaGreatDoor
