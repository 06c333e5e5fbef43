/- Parts of the proof, put together by program: LU, MF, MG, MH, MI, MJ, MK, LS, ML, MM, MN. -/
import Derived.Test.YtjocnooekgnedaaGreatDoorPart50
import Derived.Test.YtjocnooekgnedaaGreatDoorPart34
import Derived.ProofKit
import Derived.OpenShut
import Derived.Test.YtjocnooekgnedaaGreatDoorPart36
import Derived.Test.YtjocnooekgnedaaGreatDoorPart49
import Derived.Deep.CutBlock
import Derived.Test.YtjocnooekgnedaaGreatDoorPart01
import Derived.Test.YtjocnooekgnedaaGreatDoorPart39
import Derived.BigQuiet
import Derived.Test.YtjocnooekgnedaaGreatDoorPart47
import Derived.Test.YtjocnooekgnedaaGreatDoorPart45
import Derived.Test.YtjocnooekgnedaaGreatDoorPart23
import Derived.Deep.CutRange
set_option linter.unusedVariables false
set_option linter.unusedSimpArgs false
/- Layer 11: arguments opened: a layout, an inode, a list of inodes with numbers. -/
namespace Go.Proofs.YtjocnooekgnedaaGreatDoor
open Go.ChangeShapes Go.WideShapes Go.ChangeAt Go.RowKit Go.Deep

theorem Tryz.cellsInt : Tryz.prog.cellsOf 3 = 1 := by kernel_rfl
theorem Tryz.cellsInts : Tryz.prog.cellsOf 24 = 1 := by kernel_rfl
theorem Tryz.cellsU8 : Tryz.prog.cellsOf 5 = 1 := by kernel_rfl
theorem Tryz.cellsLayout : Tryz.prog.cellsOf 23 = 3 := by kernel_rfl
theorem Tryz.cellsNode : Tryz.prog.cellsOf 26 = 8 := by kernel_rfl
theorem Tryz.cellsTwo : Tryz.prog.cellsOf 69 = 9 := by kernel_rfl
theorem wf_u8_iff {f : Int} (h : (Lit.int .u8 f).wf = true) : 0 ≤ f ∧ f ≤ 255 := by
  simp [Lit.wf, IntKind.min, IntKind.max, IntKind.bits, IntKind.signed] at h; omega
theorem wf_u64_iff {f : Int} (h : (Lit.int .u64 f).wf = true) : 0 ≤ f ∧ f < 18446744073709551616 := by
  simp [Lit.wf, IntKind.min, IntKind.max, IntKind.bits, IntKind.signed] at h; omega
theorem wf_i64_iff {f : Int} (h : (Lit.int .i64 f).wf = true) : -9223372036854775808 ≤ f ∧ f ≤ 9223372036854775807 := by
  simp [Lit.wf, IntKind.min, IntKind.max, IntKind.bits, IntKind.signed] at h; omega

/-- An inode as it came in. -/
structure InoV where
  v : Ino
  A : Option Addr
  c : Nat
  A2 : Option Addr
  c2 : Nat
def inoL (a : InoV) : List Value := (inoC a.v (.slice a.A a.v.blocks.length a.c) (.slice a.A2 a.v.attrs.length a.c2)).toList
structure InoVOk (W : World) (a : InoV) : Prop where
  r1 : Reads W a.A (a.v.blocks.map (.int .i64))
  r2 : Reads W a.A2 (a.v.attrs.map (.int .i64))
  n1 : a.v.blocks.length ≤ maxLen
  n2 : a.v.attrs.length ≤ maxLen
theorem InoVOk.in_ {W : World} {a : InoV} (h : InoVOk W a) (h1 : a.v.blocks.length ≤ 1000) (h2 : a.v.attrs.length ≤ 1000) : InoIn W a.v a.A a.c a.A2 a.c2 := ⟨h.r1, h.r2, h1, h2⟩

section
variable {H : Type} {enc : TypeId × Value → H} {W : World}
set_option maxRecDepth 100000 in
theorem open_ints' {fuel : Nat} {v : Value} {x : DataW H × List MemPlace} (h : DataW.trod enc Tryz.prog W 0 (fun _ => true) true fuel 24 [v] = some x) :
    ∃ (A : Option Addr) (n c : Nat) (xs : List Int), v = .slice A n c ∧ xs.length = n ∧ Reads W A (xs.map (Value.int .i64)) ∧ n ≤ c ∧ c ≤ maxLen ∧ (A = none → n = 0 ∧ c = 0) :=
  open_cells (Value.int .i64) Tryz.underlying24 Tryz.cellsInt (fun n cs x hx => by obtain ⟨b, rfl, _⟩ := DataW.trod_int Tryz.underlying3 hx; exact ⟨b, rfl⟩) h

set_option maxRecDepth 100000 in
/-- An inode as its cells. -/
theorem open_ino_cells {fuel : Nat} {cs : List Value} (hsz : cs.length = 8) {x : DataW H × List MemPlace} (h : DataW.trod enc Tryz.prog W 0 (fun _ => true) true fuel 26 cs = some x) :
    ∃ a : InoV, cs = inoL a ∧ InoVOk W a := by
  match cs, hsz with
  | [c0, c1, c2, c3, c4, c5, c6, c7], _ =>
    obtain ⟨xs, n, _, _, _, hlen, hg⟩ := DataW.trod_struct Tryz.underlying26 h
    have g0 : DataW.trod enc Tryz.prog W 0 (fun _ => true) true n 3 [c0] = xs[0]? := by have := hg 0 _ rfl; simpa [Tryz.cellsInt, Value.cells] using this
    have g1 : DataW.trod enc Tryz.prog W 0 (fun _ => true) true n 3 [c1] = xs[1]? := by have := hg 1 _ rfl; simpa [Tryz.cellsInt, Value.cells] using this
    have g2 : DataW.trod enc Tryz.prog W 0 (fun _ => true) true n 3 [c2] = xs[2]? := by have := hg 2 _ rfl; simpa [Tryz.cellsInt, Value.cells] using this
    have g3 : DataW.trod enc Tryz.prog W 0 (fun _ => true) true n 3 [c3] = xs[3]? := by have := hg 3 _ rfl; simpa [Tryz.cellsInt, Value.cells] using this
    have g4 : DataW.trod enc Tryz.prog W 0 (fun _ => true) true n 3 [c4] = xs[4]? := by have := hg 4 _ rfl; simpa [Tryz.cellsInt, Value.cells] using this
    have g5 : DataW.trod enc Tryz.prog W 0 (fun _ => true) true n 3 [c5] = xs[5]? := by have := hg 5 _ rfl; simpa [Tryz.cellsInt, Value.cells] using this
    have g6 : DataW.trod enc Tryz.prog W 0 (fun _ => true) true n 24 [c6] = xs[6]? := by have := hg 6 _ rfl; simpa [Tryz.cellsInts, Value.cells] using this
    have g7 : DataW.trod enc Tryz.prog W 0 (fun _ => true) true n 24 [c7] = xs[7]? := by have := hg 7 _ rfl; simpa [Tryz.cellsInts, Value.cells] using this
    clear hg
    match xs, hlen with
    | [y0, y1, y2, y3, y4, y5, y6, y7], _ =>
      simp only [List.getElem?_cons_zero, List.getElem?_cons_succ] at g0 g1 g2 g3 g4 g5 g6 g7
      obtain ⟨a0, e0, _, w0⟩ := DataW.trod_int Tryz.underlying3 g0
      obtain ⟨a1, e1, _, w1⟩ := DataW.trod_int Tryz.underlying3 g1
      obtain ⟨a2, e2, _, w2⟩ := DataW.trod_int Tryz.underlying3 g2
      obtain ⟨a3, e3, _, w3⟩ := DataW.trod_int Tryz.underlying3 g3
      obtain ⟨a4, e4, _, w4⟩ := DataW.trod_int Tryz.underlying3 g4
      obtain ⟨a5, e5, _, w5⟩ := DataW.trod_int Tryz.underlying3 g5
      simp at e0 e1 e2 e3 e4 e5
      subst e0 e1 e2 e3 e4 e5
      obtain ⟨A, m, c, l, rfl, q1, q2, q3, q4, q5⟩ := open_ints' g6
      obtain ⟨A2, m2, c2, l2, rfl, p1, p2, p3, p4, p5⟩ := open_ints' g7
      subst q1 p1
      exact ⟨⟨⟨a0, a1, a2, a3, a4, a5, l, l2⟩, A, c, A2, c2⟩, rfl, q2, p2, Nat.le_trans q3 q4, Nat.le_trans p3 p4⟩

set_option maxRecDepth 100000 in
/-- An inode that came in. -/
theorem open_ino {r : Reach} {b0 : Nat} {v : Value} {d : DataW H} {p : List MemPlace} (hv : Value.okWide Tryz.prog W r b0 26 v) (h : DataW.Trod enc Tryz.prog W 0 (fun _ => true) true 26 v d p) :
    ∃ a : InoV, v = .agg (inoC a.v (.slice a.A a.v.blocks.length a.c) (.slice a.A2 a.v.attrs.length a.c2)) ∧ InoVOk W a := by
  obtain ⟨cs, rfl, hsz⟩ := okWide_struct Tryz.underlying26 hv
  rw [Tryz.cellsNode] at hsz
  obtain ⟨l0⟩ := cs
  obtain ⟨fuel, hf⟩ := h
  obtain ⟨a, e, ha⟩ := open_ino_cells (cs := l0) hsz (by simpa [Value.cells] using hf)
  exact ⟨a, by rw [e]; rfl, ha⟩

set_option maxRecDepth 100000 in
/-- A layout that came in. -/
theorem open_lay {r : Reach} {b0 : Nat} {v : Value} {d : DataW H} {p : List MemPlace} (hv : Value.okWide Tryz.prog W r b0 23 v) (h : DataW.Trod enc Tryz.prog W 0 (fun _ => true) true 23 v d p) :
    ∃ s j i : Int, v = .agg #[.int .i64 s, .int .i64 j, .int .i64 i] ∧ (-9223372036854775808 ≤ s ∧ s ≤ 9223372036854775807) ∧ (-9223372036854775808 ≤ j ∧ j ≤ 9223372036854775807) ∧ (-9223372036854775808 ≤ i ∧ i ≤ 9223372036854775807) := by
  obtain ⟨cs, rfl, hsz⟩ := okWide_struct Tryz.underlying23 hv
  rw [Tryz.cellsLayout] at hsz
  obtain ⟨l0⟩ := cs
  obtain ⟨fuel, hf⟩ := h
  have hf2 : DataW.trod enc Tryz.prog W 0 (fun _ => true) true fuel 23 l0 = some (d, p) := by simpa [Value.cells] using hf
  match l0, hsz with
  | [c0, c1, c2], _ =>
    obtain ⟨xs, n, _, _, _, hlen, hg⟩ := DataW.trod_struct Tryz.underlying23 hf2
    have g0 : DataW.trod enc Tryz.prog W 0 (fun _ => true) true n 3 [c0] = xs[0]? := by have := hg 0 _ rfl; simpa [Tryz.cellsInt, Value.cells] using this
    have g1 : DataW.trod enc Tryz.prog W 0 (fun _ => true) true n 3 [c1] = xs[1]? := by have := hg 1 _ rfl; simpa [Tryz.cellsInt, Value.cells] using this
    have g2 : DataW.trod enc Tryz.prog W 0 (fun _ => true) true n 3 [c2] = xs[2]? := by have := hg 2 _ rfl; simpa [Tryz.cellsInt, Value.cells] using this
    clear hg
    match xs, hlen with
    | [y0, y1, y2], _ =>
      simp only [List.getElem?_cons_zero, List.getElem?_cons_succ] at g0 g1 g2
      obtain ⟨a0, e0, _, w0⟩ := DataW.trod_int Tryz.underlying3 g0
      obtain ⟨a1, e1, _, w1⟩ := DataW.trod_int Tryz.underlying3 g1
      obtain ⟨a2, e2, _, w2⟩ := DataW.trod_int Tryz.underlying3 g2
      simp at e0 e1 e2
      subst e0 e1 e2
      exact ⟨a0, a1, a2, rfl, wf_i64_iff w0, wf_i64_iff w1, wf_i64_iff w2⟩

/-- An inode with a number. -/
def twoL (a : Int × InoV) : List Value := .int .i64 a.1 :: inoL a.2
set_option maxRecDepth 100000 in
theorem open_two_cells {fuel : Nat} {cs : List Value} (hsz : cs.length = 9) {x : DataW H × List MemPlace} (h : DataW.trod enc Tryz.prog W 0 (fun _ => true) true fuel 69 cs = some x) :
    ∃ a : Int × InoV, cs = twoL a ∧ InoVOk W a.2 := by
  match cs, hsz with
  | [c0, c1, c2, c3, c4, c5, c6, c7, c8], _ =>
    obtain ⟨xs, n, _, _, _, hlen, hg⟩ := DataW.trod_struct Tryz.underlying69 h
    have g0 : DataW.trod enc Tryz.prog W 0 (fun _ => true) true n 3 [c0] = xs[0]? := by have := hg 0 _ rfl; simpa [Tryz.cellsInt, Value.cells] using this
    have g1 : DataW.trod enc Tryz.prog W 0 (fun _ => true) true n 26 [c1, c2, c3, c4, c5, c6, c7, c8] = xs[1]? := by have := hg 1 _ rfl; simpa [Tryz.cellsInt, Tryz.cellsNode, Value.cells] using this
    clear hg
    match xs, hlen with
    | [y0, y1], _ =>
      simp only [List.getElem?_cons_zero, List.getElem?_cons_succ] at g0 g1
      obtain ⟨a0, e0, _, w0⟩ := DataW.trod_int Tryz.underlying3 g0
      simp at e0
      subst e0
      obtain ⟨a, e, ha⟩ := open_ino_cells (by rfl) g1
      exact ⟨(a0, a), by show _ :: _ = _ :: _; rw [e], ha⟩
set_option maxRecDepth 100000 in
theorem open_twos {r : Reach} {b0 : Nat} {v : Value} {d : DataW H} {p : List MemPlace} (hv : Value.okWide Tryz.prog W r b0 67 v) (h : DataW.Trod enc Tryz.prog W 0 (fun _ => true) true 67 v d p) :
    ∃ (A : Option Addr) (c : Nat) (xs : List (Int × InoV)), v = .slice A xs.length c ∧ Reads W A (xs.flatMap twoL) ∧ (∀ a ∈ xs, InoVOk W a.2) ∧ xs.length ≤ maxLen := by
  obtain ⟨a0, l0, c0, rfl⟩ := okWide_slice Tryz.underlying67 hv
  obtain ⟨fuel, hf⟩ := h
  obtain ⟨A, n, c, xs, h1, h2, h3, h4, h5, h6, -⟩ := open_rows twoL (fun a => InoVOk W a.2) 9 (by omega) Tryz.underlying67 Tryz.cellsTwo (fun n cs x hsz hx => open_two_cells hsz hx) (v := .slice a0 l0 c0) (by simpa [Value.cells] using hf)
  subst h2
  exact ⟨A, c, xs, h1, h3, fun a ha => (h4 a ha).2, by omega⟩

end
theorem Tryz.cellsStr : Tryz.prog.cellsOf 9 = 1 := by kernel_rfl
set_option maxRecDepth 100000 in
/-- Bytes that came in. -/
theorem open_bytes11 {H : Type} {enc : TypeId × Value → H} {W : World} {r : Reach} {b0 : Nat} {v : Value} {d : DataW H} {p : List MemPlace} (hv : Value.okWide Tryz.prog W r b0 29 v) (h : DataW.Trod enc Tryz.prog W 0 (fun _ => true) true 29 v d p) :
    ∃ (A : Option Addr) (c : Nat) (xs : List Int), v = .slice A xs.length c ∧ Reads W A (xs.map (.int .u8)) ∧ (∀ x ∈ xs, 0 ≤ x ∧ x < 256) ∧ xs.length ≤ c ∧ c ≤ maxLen := by
  obtain ⟨a0, l0, c0, rfl⟩ := okWide_slice Tryz.underlying29 hv
  obtain ⟨fuel, hf⟩ := h
  obtain ⟨A, n, c, xs, h1, h2, h3, h4, h5, h6, -⟩ := open_rows (fun a : Int => [Value.int .u8 a]) (fun a => 0 ≤ a ∧ a < 256) 1 (by omega) Tryz.underlying29 Tryz.cellsU8 (fun n cs x _ hx => by
    obtain ⟨z, rfl, _, w⟩ := DataW.trod_int Tryz.underlying5 hx
    exact ⟨z, rfl, by have := wf_u8_iff w; omega⟩) (v := .slice a0 l0 c0) (by simpa [Value.cells] using hf)
  subst h2
  have e : xs.flatMap (fun a : Int => [Value.int .u8 a]) = xs.map (.int .u8) := by
    clear h1 h3 h4 h5 h6
    induction xs with
    | nil => rfl
    | cons a t ih => rw [List.flatMap_cons, ih]; rfl
  rw [e] at h3
  exact ⟨A, c, xs, h1, h3, fun a ha => (h4 a ha).2, h5, h6⟩
end Go.Proofs.YtjocnooekgnedaaGreatDoor
/- Layer 11: the reference's numbers, many, in. -/
namespace Go.Proofs.YtjocnooekgnedaaGreatDoor
open Go.RowKit Go.Maps

attribute [local go_sem] Oper.semAt_some

def inB (n lo hi : Int) : Bool := decide (lo ≤ n ∧ n ≤ hi)
theorem in11_any (n lo hi : Int) (w : World) : Calls Tryz.prog 39 #[.int .i64 n, .int .i64 lo, .int .i64 hi] w fun e w' => e = .returned (.bool (inB n lo hi)) ∧ w' = w := by
  by_cases h1 : lo ≤ n
  · by_cases h2 : n ≤ hi
    · have hb : inB n lo hi = true := by simp [inB, h1, h2]
      rw [hb]
      clear hb
      go_enter Tryz.func39, Tryz.ntmps39
      go_wp2_with fail
      go_ret
      exact ⟨rfl, rfl⟩
    · have hb : inB n lo hi = false := by simp [inB, h2]
      rw [hb]
      clear hb
      go_enter Tryz.func39, Tryz.ntmps39
      go_wp2_with fail
      go_ret
      exact ⟨rfl, rfl⟩
  · have hb : inB n lo hi = false := by simp [inB, h1]
    rw [hb]
    clear hb
    go_enter Tryz.func39, Tryz.ntmps39
    go_wp2_with fail
    go_ret
    exact ⟨rfl, rfl⟩
/-- The limits by the kinds: links, size, device, parent. -/
def kindV (i : Int) : Nat → (Int × Int) × (Int × Int) × Int × (Int × Int)
  | 0 => ((0, 0), (0, 0), 0, (0, 0))
  | 1 => ((1, 1), (0, 24), 0, (1, i))
  | 2 => ((1, 120), (0, 384), 0, (0, 0))
  | 3 => ((1, 120), (1, 200), 0, (0, 0))
  | _ => ((1, 120), (0, 0), 255, (0, 0))
theorem nums_kind {v : Ino} {i : Int} {k : Nat} (hk : v.kind = k) (h4 : k ≤ 4) {la lb sa sb dv pa pb : Int} (hv : kindV i k = ((la, lb), (sa, sb), dv, (pa, pb))) :
    decide (v.nums i) = (inB v.links la lb && inB v.size sa sb && inB v.major 0 dv && inB v.minor 0 dv && inB v.parent pa pb) := by
  have h5 : k = 0 ∨ k = 1 ∨ k = 2 ∨ k = 3 ∨ k = 4 := by omega
  rw [Bool.eq_iff_iff]
  rcases h5 with rfl | rfl | rfl | rfl | rfl
  all_goals
    simp only [kindV, Prod.mk.injEq] at hv
    obtain ⟨⟨rfl, rfl⟩, ⟨rfl, rfl⟩, rfl, rfl, rfl⟩ := hv
    simp [inB, Ino.nums, hk]
    omega
set_option maxRecDepth 100000 in
set_option maxHeartbeats 4000000 in
theorem numbers_any (s j i : Int) (v : Ino) (S6 S7 : Value) (k : Nat) (hk : v.kind = k) (h4 : k ≤ 4) (w : World) :
    Calls Tryz.prog 40 #[.agg #[.int .i64 s, .int .i64 j, .int .i64 i], .agg (inoC v S6 S7)] w fun e w' => e = .returned (.bool (decide (v.nums i))) ∧ Below w.heap.size w w' := by
  obtain ⟨kd, lk, sz, mj, mn, pr, bl, al⟩ := v
  simp only at hk
  subst hk
  obtain ⟨wA, hA⟩ : ∃ wA, wA = (w.alloc (.cells #[.int .i64 s, .int .i64 j, .int .i64 i] 23)).alloc (.cells #[.int .i64 k, .int .i64 lk, .int .i64 sz, .int .i64 mj, .int .i64 mn, .int .i64 pr, S6, S7] 26) := ⟨_, rfl⟩
  have bL : Blk wA w.heap.size 23 #[.int .i64 s, .int .i64 j, .int .i64 i] := by rw [hA]; exact (by (repeat' (first | (with_reducible assumption) | exact Blk.new' (by simp) | refine Blk.alloc ?_ _)))
  have bX : Blk wA (w.heap.size + 1) 26 #[.int .i64 k, .int .i64 lk, .int .i64 sz, .int .i64 mj, .int .i64 mn, .int .i64 pr, S6, S7] := by rw [hA]; exact (by (repeat' (first | (with_reducible assumption) | exact Blk.new' (by simp) | refine Blk.alloc ?_ _)))
  have BA : Below w.heap.size w wA := by rw [hA]; (repeat' (first | (with_reducible exact Below.refl _ _) | (with_reducible assumption) | (with_reducible refine Below.alloc ?_ ?_ _) | (with_reducible refine Below.drew ?_) | (with_reducible refine below_drewN' ?_ _) | (with_reducible refine Below.setCell ?_ ?_ _) | (with_reducible exact Nat.le_refl _) | omega | (simp; done) | (simp; omega)))
  go_enter Tryz.func40, Tryz.ntmps40
  go_upto_region 1 with fail
  rw [← hA]
  clear hA
  have zA : w.heap.size + 1 < wA.heap.size := bX.lt
  have HX := Lib.hid (And.intro bL bX)
  have cX := bX.cells
  have lX := bX.lt
  obtain ⟨w2, hw2⟩ : ∃ w2, w2 = ((wA.alloc (.cells #[.int .i64 1, .int .i64 120] 87)).alloc (.cells #[.int .i64 0, .int .i64 0] 87)).alloc (.cells #[.int .i64 0, .int .i64 0] 87) := ⟨_, rfl⟩
  obtain ⟨N, hN⟩ : ∃ N, N = wA.heap.size := ⟨_, rfl⟩
  have b5 : Blk w2 N 87 #[.int .i64 1, .int .i64 120] := by rw [hw2, hN]; exact (by (repeat' (first | (with_reducible assumption) | exact Blk.new' (by simp) | refine Blk.alloc ?_ _)))
  have b6 : Blk w2 (N + 1) 87 #[.int .i64 0, .int .i64 0] := by rw [hw2, hN]; exact Blk.alloc (Blk.new' (by simp)) _
  have b8 : Blk w2 (N + 1 + 1) 87 #[.int .i64 0, .int .i64 0] := by rw [hw2, hN]; exact (by (repeat' (first | (with_reducible assumption) | exact Blk.new' (by simp) | refine Blk.alloc ?_ _)))
  have bA2 : Below wA.heap.size wA w2 := by rw [hw2]; (repeat' (first | (with_reducible exact Below.refl _ _) | (with_reducible assumption) | (with_reducible refine Below.alloc ?_ ?_ _) | (with_reducible refine Below.drew ?_) | (with_reducible refine below_drewN' ?_ _) | (with_reducible refine Below.setCell ?_ ?_ _) | (with_reducible exact Nat.le_refl _) | omega | (simp; done) | (simp; omega)))
  have B2 := BA.trans (bA2.mono (by have := BA.size; omega))
  have bL2 := bL.belowAll bA2
  have bX2 := bX.belowAll bA2
  rw [← hN] at zA
  have HW := Lib.hid hw2.symm
  have HN := Lib.hid hN.symm
  clear hw2 hN bA2 bL bX BA HX
  go_upto_region 2 with fail
  rw [HW.out, HN.out]
  clear HW HN cX lX
  have cX := bX2.cells
  have lX := bX2.lt
  go_upto_block 0 with fail
  clear cX lX
  go_cut [7] from 12 to 31 (fun s7 wx => ∃ (la lb sa sb dv pa pb : Int), s7 = .int .i64 dv ∧ kindV i k = ((la, lb), (sa, sb), dv, (pa, pb)) ∧ Below w.heap.size w wx ∧ Blk wx (w.heap.size + 1) 26 #[.int .i64 k, .int .i64 lk, .int .i64 sz, .int .i64 mj, .int .i64 mn, .int .i64 pr, S6, S7] ∧ Blk wx N 87 #[.int .i64 la, .int .i64 lb] ∧ Blk wx (N + 1) 87 #[.int .i64 sa, .int .i64 sb] ∧ Blk wx (N + 1 + 1) 87 #[.int .i64 pa, .int .i64 pb])
  case first =>
    have cX := bX2.cells
    have lX := bX2.lt
    have cL := bL2.cells
    have lL := bL2.lt
    have c5 := b5.cells
    have l5 := b5.lt
    have f5 := b5.free
    have c6 := b6.cells
    have l6 := b6.lt
    have f6 := b6.free
    have c8 := b8.cells
    have l8 := b8.lt
    have f8 := b8.free
    have n5 : w.heap.size + 1 ≠ N := by omega
    have n6 : w.heap.size + 1 ≠ N + 1 := by omega
    have n8 : w.heap.size + 1 ≠ N + 1 + 1 := by omega
    have g5 : w.heap.size ≤ N := by omega
    have g6 : w.heap.size ≤ N + 1 := by omega
    have g8 : w.heap.size ≤ N + 1 + 1 := by omega
    have h5 : k = 0 ∨ k = 1 ∨ k = 2 ∨ k = 3 ∨ k = 4 := by omega
    rcases h5 with rfl | rfl | rfl | rfl | rfl
    · as_aux_lemma =>
        go_wp2_with fail
        go_meet
        case rel => exact ⟨_, _, _, _, _, _, _, rfl, rfl, (B2.setCell (p := ⟨N, 0, none⟩) g5 _).setCell (p := ⟨N, 1, none⟩) g5 _, (bX2.far (p := ⟨N, 0, none⟩) n5 _).far (p := ⟨N, 1, none⟩) n5 _, (b5.set_ 0 _).set_ 1 _, (b6.far (p := ⟨N, 0, none⟩) (by simp) _).far (p := ⟨N, 1, none⟩) (by simp) _, (b8.far (p := ⟨N, 0, none⟩) (by show N + 1 + 1 ≠ N; omega) _).far (p := ⟨N, 1, none⟩) (by show N + 1 + 1 ≠ N; omega) _⟩
    · as_aux_lemma =>
        go_upto_region 6 with fail
        clear c5 l5 f5 c6 l6 f6 c8 l8 f8 cX lX cL lL
        refine wp_region_mix [.take 0, .take 1, .take 2, .take 3, .take 4, .one 5, .one 6, .one 7] 8 (fun W => Blk W w.heap.size 23 #[.int .i64 s, .int .i64 j, .int .i64 i] ∧ W.cell? ⟨w.heap.size, 2, none⟩ = some (.int .i64 i)) (by kernel_rfl) (by kernel_rfl) (fun _ _ _ _ _ h => h) ⟨bL2.drew, (bL2.drew.cells 2).trans rfl⟩ ?_
        simp only [List.map_cons, List.map_nil, Ms.fill, List.getD_cons_zero, List.getD_cons_succ]
        iterate 5 (refine mixT_take (by rfl) ?_ (fun w' hw' => ?_) ?_; rotate_left; (focus (go_simp; (try with_reducible rfl))); (try simp only [Act.put, List.setIfInBounds_toArray, List.set_cons_zero, List.set_cons_succ]))
        have bL0 := bL2.drew
        have q5 := storeRow (ty := 87) (vs := #[.int .i64 1, .int .i64 1]) b5.drew rfl (by simp [Value.oneCell']) (by kernel_rfl)
        have q6 := storeRow (ty := 87) (vs := #[.int .i64 0, .int .i64 24]) (b6.drew.rowFar (k := N) (cs' := #[.int .i64 1, .int .i64 1]) (by omega)) rfl (by simp [Value.oneCell']) (by kernel_rfl)
        have q8 := storeRow (ty := 87) (vs := #[.int .i64 1, .int .i64 i]) ((b8.drew.rowFar (k := N) (cs' := #[.int .i64 1, .int .i64 1]) (by omega)).rowFar (k := N + 1) (cs' := #[.int .i64 0, .int .i64 24]) (by omega)) rfl (by simp [Value.oneCell']) (by kernel_rfl)
        have bL1 := bL0.rowFar (k := N) (cs' := #[.int .i64 1, .int .i64 1]) (by omega)
        have bL6 := bL1.rowFar (k := N + 1) (cs' := #[.int .i64 0, .int .i64 24]) (by omega)
        have bL8 := bL6.rowFar (k := N + 1 + 1) (cs' := #[.int .i64 1, .int .i64 i]) (by omega)
        refine mixT_step (by rfl) fun K hK => ?_
        refine op_storeBy _ _ _ rfl _ _ rfl rfl q5 ?_
        refine hK _ _ (fun _ => ⟨bL1, (bL1.cells 2).trans rfl⟩) ?_
        clear hK K
        refine mixT_step (by rfl) fun K hK => ?_
        refine op_storeBy _ _ _ rfl _ _ rfl rfl q6 ?_
        refine hK _ _ (fun _ => ⟨bL6, (bL6.cells 2).trans rfl⟩) ?_
        clear hK K
        refine mixT_step (by rfl) fun K hK => ?_
        refine op_storeBy _ _ _ rfl _ _ rfl rfl q8 ?_
        refine hK _ _ (fun _ => ⟨bL8, (bL8.cells 2).trans rfl⟩) ?_
        clear hK K
        refine mixT_nil ?_
        go_wp2_with fail
        go_meet
        case rel => exact ⟨_, _, _, _, _, _, _, rfl, rfl, Below.setRow (Below.setRow (Below.setRow B2.drew g5 _) g6 _) g8 _, ((bX2.drew.rowFar n5).rowFar n6).rowFar n8, ((b5.drew.setRow).rowFar (by omega)).rowFar (by omega), ((b6.drew.rowFar (by omega)).setRow).rowFar (by omega), ((b8.drew.rowFar (by omega)).rowFar (by omega)).setRow⟩
    · as_aux_lemma =>
        go_wp2_with fail
        go_meet
        case rel => exact ⟨_, _, _, _, _, _, _, rfl, rfl, (B2.setCell (p := ⟨N + 1, 0, none⟩) g6 _).setCell (p := ⟨N + 1, 1, none⟩) g6 _, (bX2.far (p := ⟨N + 1, 0, none⟩) n6 _).far (p := ⟨N + 1, 1, none⟩) n6 _, (b5.far (p := ⟨N + 1, 0, none⟩) (by simp) _).far (p := ⟨N + 1, 1, none⟩) (by simp) _, (b6.set_ 0 _).set_ 1 _, (b8.far (p := ⟨N + 1, 0, none⟩) (by simp) _).far (p := ⟨N + 1, 1, none⟩) (by simp) _⟩
    · as_aux_lemma =>
        go_wp2_with fail
        go_meet
        case rel => exact ⟨_, _, _, _, _, _, _, rfl, rfl, (B2.setCell (p := ⟨N + 1, 0, none⟩) g6 _).setCell (p := ⟨N + 1, 1, none⟩) g6 _, (bX2.far (p := ⟨N + 1, 0, none⟩) n6 _).far (p := ⟨N + 1, 1, none⟩) n6 _, (b5.far (p := ⟨N + 1, 0, none⟩) (by simp) _).far (p := ⟨N + 1, 1, none⟩) (by simp) _, (b6.set_ 0 _).set_ 1 _, (b8.far (p := ⟨N + 1, 0, none⟩) (by simp) _).far (p := ⟨N + 1, 1, none⟩) (by simp) _⟩
    · as_aux_lemma =>
        go_wp2_with fail
        go_meet
        case rel => exact ⟨_, _, _, _, _, _, _, rfl, rfl, B2, bX2, b5, b6, b8⟩
  case rest =>
    as_aux_lemma =>
      obtain ⟨la, lb, sa, sb, dv, pa, pb, rfl, hkv, BC, bX, b5, b6, b8⟩ := hcut
      have HNK := Lib.hid (nums_kind (v := ⟨k, lk, sz, mj, mn, pr, bl, al⟩) rfl h4 hkv)
      clear hkv bX2 bL2 B2
      have cX := bX.cells
      have lX := bX.lt
      have c5 := b5.cells
      have l5 := b5.lt
      have c6 := b6.cells
      have l6 := b6.lt
      have c8 := b8.cells
      have l8 := b8.lt
      go_wp2_with fail
      refine (in11_any lk la lb wc).mono ?_
      rintro e wq ⟨rfl, hw⟩
      replace hw := hw.symm
      subst hw
      cases h1 : inB lk la lb
      · go_wp2_with fail
        go_ret
        exact ⟨bret (by rw [HNK.out]; simp [h1]), BC⟩
      go_wp2_with fail
      refine (in11_any sz sa sb wc).mono ?_
      rintro e wq ⟨rfl, hw⟩
      replace hw := hw.symm
      subst hw
      cases h2 : inB sz sa sb
      · go_wp2_with fail
        go_ret
        exact ⟨bret (by rw [HNK.out]; simp [h2]), BC⟩
      go_wp2_with fail
      refine (in11_any mj 0 dv wc).mono ?_
      rintro e wq ⟨rfl, hw⟩
      replace hw := hw.symm
      subst hw
      cases h3 : inB mj 0 dv
      · go_wp2_with fail
        go_ret
        exact ⟨bret (by rw [HNK.out]; simp [h3]), BC⟩
      go_wp2_with fail
      refine (in11_any mn 0 dv wc).mono ?_
      rintro e wq ⟨rfl, hw⟩
      replace hw := hw.symm
      subst hw
      cases h4 : inB mn 0 dv
      · go_wp2_with fail
        go_ret
        exact ⟨bret (by rw [HNK.out]; simp [h4]), BC⟩
      go_wp2_with fail
      refine (in11_any pr pa pb wc).mono ?_
      rintro e wq ⟨rfl, hw⟩
      replace hw := hw.symm
      subst hw
      cases h5 : inB pr pa pb
      · go_wp2_with fail
        go_ret
        exact ⟨bret (by rw [HNK.out]; simp [h5]), BC⟩
      go_wp2_with fail
      go_ret
      exact ⟨bret (by rw [HNK.out]; simp [h1, h2, h3, h4, h5]), BC⟩

set_option maxRecDepth 100000 in
set_option maxHeartbeats 4000000 in
theorem many_any (v : Ino) (A : Option Addr) (c : Nat) (A2 : Option Addr) (c2 : Nat) (k : Nat) (hk : v.kind = k) (h4 : k ≤ 4) (hz : 0 ≤ v.size ∧ v.size ≤ 1000) (hl : v.blocks.length ≤ 1000 ∧ v.attrs.length ≤ 1000) (w : World) :
    Calls Tryz.prog 41 #[.agg (inoC v (.slice A v.blocks.length c) (.slice A2 v.attrs.length c2))] w fun e w' => e = .returned (.bool (decide v.many)) ∧ Below w.heap.size w w' := by
  obtain ⟨kd, lk, sz, mj, mn, pr, bl, al⟩ := v
  simp only at hk hz hl ⊢
  subst hk
  obtain ⟨wA, hA⟩ : ∃ wA, wA = w.alloc (.cells #[.int .i64 k, .int .i64 lk, .int .i64 sz, .int .i64 mj, .int .i64 mn, .int .i64 pr, .slice A bl.length c, .slice A2 al.length c2] 26) := ⟨_, rfl⟩
  have bX : Blk wA w.heap.size 26 #[.int .i64 k, .int .i64 lk, .int .i64 sz, .int .i64 mj, .int .i64 mn, .int .i64 pr, .slice A bl.length c, .slice A2 al.length c2] := by rw [hA]; exact Blk.new _ _ _
  have BA : Below w.heap.size w wA := by rw [hA]; exact (Below.refl _ _).alloc (Nat.le_refl _) _
  have HM : Hid ((⟨k, lk, sz, mj, mn, pr, bl, al⟩ : Ino).many ↔ (al.length ≤ 3 ∧ (k = 0 → al = []) ∧ (if k = 1 then bl.length ≤ 8 ∧ (bl.length = 0 ↔ sz = 0) else if k = 2 ∨ k = 3 then (bl.length : Int) = (sz + 95) / 96 else bl.length = 0))) := Lib.hid (by
    unfold Ino.many
    simp only
    have e1 : ((k : Int) = 1) ↔ k = 1 := by omega
    have e2 : ((k : Int) = 2 ∨ (k : Int) = 3) ↔ (k = 2 ∨ k = 3) := by omega
    have e0 : ((k : Int) = 0) ↔ k = 0 := by omega
    simp only [e0, e1, e2, List.length_eq_zero_iff])
  go_enter Tryz.func41, Tryz.ntmps41
  go_upto_region 1 with fail
  rw [← hA]
  clear hA
  have cX := bX.cells
  have lX := bX.lt
  by_cases ha : al.length ≤ 3
  rotate_left
  · as_aux_lemma =>
      have d1 : (3 : Int) < al.length := by omega
      have HG : Hid (decide (⟨k, lk, sz, mj, mn, pr, bl, al⟩ : Ino).many = false) := Lib.hid (by rw [decide_eq_false_iff_not, HM.out]; omega)
      clear ha
      go_wp2_with fail
      go_ret
      exact ⟨bret HG.out.symm, BA⟩
  have d1 : ¬ (3 : Int) < al.length := by omega
  by_cases h0 : k = 0 ∧ 0 < al.length
  · as_aux_lemma =>
      obtain ⟨rfl, h0⟩ := h0
      have d2 : (0 : Int) < al.length := by omega
      have HG : Hid (decide (⟨(0 : Nat), lk, sz, mj, mn, pr, bl, al⟩ : Ino).many = false) := Lib.hid (by
        rw [decide_eq_false_iff_not, HM.out]
        rintro ⟨-, h, -⟩
        rw [h rfl] at h0
        exact absurd h0 (by simp))
      clear ha h0
      go_wp2_with fail
      go_ret
      exact ⟨bret HG.out.symm, BA⟩
  have h5 : k = 0 ∨ k = 1 ∨ k = 2 ∨ k = 3 ∨ k = 4 := by omega
  rcases h5 with rfl | rfl | hk23 | hk23 | rfl
  · as_aux_lemma =>
      have d2 : ¬ (0 : Int) < al.length := by omega
      have hal : al = [] := List.eq_nil_of_length_eq_zero (by omega)
      have HG : Hid (decide (⟨(0 : Nat), lk, sz, mj, mn, pr, bl, al⟩ : Ino).many = ((bl.length : Int) == 0)) := Lib.hid (by
        rw [Bool.eq_iff_iff, decide_eq_true_iff, HM.out]
        simp [hal])
      clear ha h0 hal
      go_wp2_with fail
      go_ret
      exact ⟨bret HG.out.symm, BA⟩
  · as_aux_lemma =>
      have d2 : ((1 : Int) == 0) = false := by decide
      by_cases h8 : bl.length ≤ 8
      rotate_left
      · have d3 : ¬ (bl.length : Int) ≤ 8 := by omega
        have HG : Hid (decide (⟨(1 : Nat), lk, sz, mj, mn, pr, bl, al⟩ : Ino).many = false) := Lib.hid (by
          rw [decide_eq_false_iff_not, HM.out]
          rintro ⟨-, -, h⟩
          rw [if_pos rfl] at h
          omega)
        clear ha h0 h8
        go_wp2_with fail
        go_ret
        exact ⟨bret HG.out.symm, BA⟩
      have d3 : (bl.length : Int) ≤ 8 := by omega
      have HG : Hid (decide (⟨(1 : Nat), lk, sz, mj, mn, pr, bl, al⟩ : Ino).many = (((bl.length : Int) == 0) == (sz == 0))) := Lib.hid (by
        rw [Bool.eq_iff_iff, decide_eq_true_iff, HM.out, if_pos rfl, beq_iff_eq, Bool.eq_iff_iff, beq_iff_eq, beq_iff_eq]
        omega)
      clear ha h0 h8
      obtain ⟨q1, hq1⟩ : ∃ q1, ((bl.length : Int) == 0) = q1 := ⟨_, rfl⟩
      obtain ⟨q2, hq2⟩ : ∃ q2, (sz == 0) = q2 := ⟨_, rfl⟩
      go_wp2_with fail
      go_ret
      have hg := HG.out
      rw [hq1, hq2] at hg
      exact ⟨bret hg.symm, BA⟩
  iterate 2
    · as_aux_lemma =>
        have e1 : IntKind.i64.wrap (sz + 96) = sz + 96 := by rw [IntKind.wrap_i64]; omega
        have e2 : IntKind.i64.wrap (sz + 96 - 1) = sz + 96 - 1 := by rw [IntKind.wrap_i64]; omega
        have e3 : (sz + 96 - 1).tdiv 96 = (sz + 95) / 96 := by rw [Int.tdiv_eq_ediv_of_nonneg (by omega)]; congr 1; omega
        have e4 : IntKind.i64.wrap ((sz + 95) / 96) = (sz + 95) / 96 := by rw [IntKind.wrap_i64]; omega
        have HG : Hid (decide (⟨k, lk, sz, mj, mn, pr, bl, al⟩ : Ino).many = ((bl.length : Int) == (sz + 95) / 96)) := Lib.hid (by
          rw [Bool.eq_iff_iff, decide_eq_true_iff, HM.out, if_neg (by omega), if_pos (by omega), beq_iff_eq]
          omega)
        subst hk23
        clear ha h0
        go_wp2_with fail
        go_ret
        exact ⟨bret HG.out.symm, BA⟩
  · as_aux_lemma =>
      have HG : Hid (decide (⟨(4 : Nat), lk, sz, mj, mn, pr, bl, al⟩ : Ino).many = ((bl.length : Int) == 0)) := Lib.hid (by
        rw [Bool.eq_iff_iff, decide_eq_true_iff, HM.out, if_neg (by omega), if_neg (by omega), beq_iff_eq]
        omega)
      clear ha h0
      go_wp2_with fail
      go_ret
      exact ⟨bret HG.out.symm, BA⟩
end Go.Proofs.YtjocnooekgnedaaGreatDoor
/- Layer 11: the reference's Check. -/
namespace Go.Proofs.YtjocnooekgnedaaGreatDoor
open Go.RowKit Go.Maps

attribute [local go_sem] Oper.semAt_some

theorem Reads.none_ {w : World} {xs : List Value} (h : Reads w none xs) : xs = [] := by
  rcases h with h | ⟨b, o, h, -⟩
  · exact h
  · cases h
/-- The reference's list of blocks holds no number twice, as far as it was looked at. -/
theorem nodup_step {l : List Int} {i : Nat} (hi : i < l.length) (h : (l.take i).Nodup) (hn : ∀ a, (ha : a < i) → l[a] ≠ l[i]) : (l.take (i + 1)).Nodup := by
  rw [List.take_succ_eq_append_getElem hi, List.nodup_append]
  refine ⟨h, by simp, fun x hx y hy e => ?_⟩
  rw [List.mem_singleton] at hy
  subst hy e
  obtain ⟨a, ha, e⟩ := List.mem_iff_getElem.1 hx
  rw [List.length_take] at ha
  rw [List.getElem_take] at e
  exact hn a (by omega) e
theorem nodup_step' {l : List Int} {i : Nat} (hi : i < l.length) (h : (l.take i).Nodup) (hn : ∀ a, a < i → l[a]? ≠ l[i]?) : (l.take (i + 1)).Nodup :=
  nodup_step hi h fun a ha e => hn a ha (by rw [List.getElem?_eq_getElem (by omega), List.getElem?_eq_getElem hi, e])
theorem nodup_not {l : List Int} {i a : Nat} (hi : i < l.length) (ha : a < i) (e : l[i] = l[a]) : ¬ l.Nodup := fun h => by
  have := (List.pairwise_iff_getElem.1 h) a i (by omega) hi ha
  exact this e.symm
set_option maxRecDepth 100000 in
set_option maxHeartbeats 8000000 in
theorem rcheck_any (s j i : Int) (v : Ino) (A : Option Addr) (c : Nat) (A2 : Option Addr) (c2 : Nat) (w : World) (h : InoIn w v A c A2 c2) :
    Calls Tryz.prog 15 #[.agg #[.int .i64 s, .int .i64 j, .int .i64 i], .agg (inoC v (.slice A v.blocks.length c) (.slice A2 v.attrs.length c2))] w fun e w' => e = .returned (.int .i64 (inoE s j i v)) ∧ Below w.heap.size w w' := by
  obtain ⟨wA, hA⟩ : ∃ wA, wA = (w.alloc (.cells #[.int .i64 s, .int .i64 j, .int .i64 i] 23)).alloc (.cells (inoC v (.slice A v.blocks.length c) (.slice A2 v.attrs.length c2)) 26) := ⟨_, rfl⟩
  have bL : Blk wA w.heap.size 23 #[.int .i64 s, .int .i64 j, .int .i64 i] := by rw [hA]; exact (by (repeat' (first | (with_reducible assumption) | exact Blk.new' (by simp) | refine Blk.alloc ?_ _)))
  have bX : Blk wA (w.heap.size + 1) 26 (inoC v (.slice A v.blocks.length c) (.slice A2 v.attrs.length c2)) := by rw [hA]; exact (by (repeat' (first | (with_reducible assumption) | exact Blk.new' (by simp) | refine Blk.alloc ?_ _)))
  have BA : Below w.heap.size w wA := by rw [hA]; (repeat' (first | (with_reducible exact Below.refl _ _) | (with_reducible assumption) | (with_reducible refine Below.alloc ?_ ?_ _) | (with_reducible refine Below.drew ?_) | (with_reducible refine below_drewN' ?_ _) | (with_reducible refine Below.setCell ?_ ?_ _) | (with_reducible exact Nat.le_refl _) | omega | (simp; done) | (simp; omega)))
  have hrc := regionsR_any s j i wA
  unfold RgPost rgV at hrc
  have HV := Lib.hid h
  have HI : Hid (inoE s j i v = if rgE s j i ≠ 0 then rgE s j i else if v.kind < 0 ∨ 4 < v.kind then 14 else if ¬ v.nums i then 7 else if ¬ v.many then 6
  else if ∃ b ∈ v.all, b < 0 ∨ rgB s j i ≤ b then 7 else if ¬ v.all.Nodup then 8 else 0) := Lib.hid rfl
  clear h
  have cL := bL.cells
  have lL := bL.lt
  go_enter Tryz.func15, Tryz.ntmps15
  go_wp2_with fail
  rw [← hA]
  clear hA
  go_wp2_with fail
  refine hrc.mono ?_
  rintro e w1 ⟨rfl, hb1⟩
  obtain ⟨w2, hw2⟩ : ∃ w2, w1.alloc (.cells #[.int .i64 (rgJ s j i), .int .i64 (rgM s j i), .int .i64 (rgT s j i), .int .i64 (rgD s j i), .int .i64 (rgB s j i)] 53) = w2 := ⟨_, rfl⟩
  obtain ⟨N2, hN2⟩ : ∃ N2, w1.heap.size = N2 := ⟨_, rfl⟩
  have bG : Blk w2 N2 53 #[.int .i64 (rgJ s j i), .int .i64 (rgM s j i), .int .i64 (rgT s j i), .int .i64 (rgD s j i), .int .i64 (rgB s j i)] := by rw [← hw2, ← hN2]; exact Blk.new _ _ _
  have b12 : Below w1.heap.size w1 w2 := by rw [← hw2]; exact (Below.refl _ _).alloc (Nat.le_refl _) _
  have B1 := BA.trans (hb1.mono BA.size)
  have B2 := B1.trans (b12.mono B1.size)
  have bL2 := (bL.belowAll hb1).belowAll b12
  have bX2 := (bX.belowAll hb1).belowAll b12
  have HW := Lib.hid hw2
  have HN := Lib.hid hN2
  clear hw2 hN2 hrc cL lL bL bX BA hb1 b12 B1
  go_upto_region 2 with fail
  rw [HW.out, HN.out]
  by_cases hrg : rgE s j i = 0
  rotate_left
  · as_aux_lemma =>
      have HG : Hid (inoE s j i v = rgE s j i) := Lib.hid (by rw [HI.out, if_pos hrg])
      have hE' : (rgE s j i != 0) = true := by simpa using hrg
      clear hrg HI
      go_wp2_with fail
      go_ret
      rw [HG.out]
      exact ⟨rfl, B2⟩
  have cX := bX2.cells
  have lX := bX2.lt
  have cL := bL2.cells
  have lL := bL2.lt
  rw [hrg]
  have hin := in11_any v.kind 0 4 w2
  by_cases hkd : v.kind < 0 ∨ 4 < v.kind
  · as_aux_lemma =>
      have HG : Hid (inoE s j i v = 14) := Lib.hid (by rw [HI.out, if_neg (by simpa using hrg), if_pos hkd])
      rw [show inB v.kind 0 4 = false by simp [inB]; omega] at hin
      clear hkd HI hrg
      go_wp2_with fail
      refine hin.mono ?_
      rintro e wq ⟨rfl, hw⟩
      replace hw := hw.symm
      subst hw
      go_wp2_with fail
      go_ret
      rw [HG.out]
      exact ⟨rfl, B2⟩
  rw [show inB v.kind 0 4 = true by simp [inB]; omega] at hin
  obtain ⟨k, hk⟩ : ∃ k : Nat, v.kind = k := ⟨v.kind.toNat, by omega⟩
  have hnu := numbers_any s j i v (.slice A v.blocks.length c) (.slice A2 v.attrs.length c2) k hk (by omega) w2
  have HRG := Lib.hid hrg
  have HKD := Lib.hid hkd
  have HK := Lib.hid (And.intro hk (show k ≤ 4 by omega))
  clear hrg hkd hk
  go_wp2_with fail
  refine hin.mono ?_
  rintro e wq ⟨rfl, hw⟩
  replace hw := hw.symm
  subst hw
  clear hin
  go_wp2_with fail
  refine hnu.mono ?_
  rintro e w3 ⟨rfl, hb3⟩
  have B3 := B2.trans (hb3.mono B2.size)
  have bX3 := bX2.belowAll hb3
  have bG3 := bG.belowAll hb3
  clear hnu cX lX cL lL bL2 bX2 bG B2 hb3
  by_cases hn : v.nums i
  rotate_left
  · as_aux_lemma =>
      have HG : Hid (inoE s j i v = 7) := Lib.hid (by rw [HI.out, if_neg (by simpa using HRG.out), if_neg HKD.out, if_pos hn])
      rw [decide_eq_false hn]
      clear hn HI
      go_wp2_with fail
      go_ret
      rw [HG.out]
      exact ⟨rfl, B3⟩
  rw [decide_eq_true hn]
  have hsz : 0 ≤ v.size ∧ v.size ≤ 1000 := by
    have := HKD.out
    unfold Ino.nums at hn
    repeat' split at hn
    all_goals omega
  have hmy := many_any v A c A2 c2 k HK.out.1 HK.out.2 hsz ⟨HV.out.n1, HV.out.n2⟩ w3
  have cX := bX3.cells
  have lX := bX3.lt
  have HNU := Lib.hid hn
  clear hn hsz
  go_wp2_with fail
  refine hmy.mono ?_
  rintro e w4 ⟨rfl, hb4⟩
  have B4 := B3.trans (hb4.mono B3.size)
  have bX4 := bX3.belowAll hb4
  have bG4 := bG3.belowAll hb4
  clear hmy cX lX bX3 bG3 B3 hb4
  by_cases hm : v.many
  rotate_left
  · as_aux_lemma =>
      have HG : Hid (inoE s j i v = 6) := Lib.hid (by rw [HI.out, if_neg (by simpa using HRG.out), if_neg HKD.out, if_neg (by simpa using HNU.out), if_pos hm])
      rw [decide_eq_false hm]
      clear hm HI
      go_wp2_with fail
      go_ret
      rw [HG.out]
      exact ⟨rfl, B4⟩
  rw [decide_eq_true hm]
  have HI2 : Hid (inoE s j i v = if ∃ b ∈ v.all, b < 0 ∨ rgB s j i ≤ b then 7 else if ¬ v.all.Nodup then 8 else 0) := Lib.hid (by
    rw [HI.out, if_neg (by simpa using HRG.out), if_neg HKD.out, if_neg (by simpa using HNU.out), if_neg (by simpa using hm)])
  clear hm HI HRG HKD HNU HK
  obtain ⟨i0, hi, hz0, hz1, hz2⟩ := info_parts Tryz.info3
  have r1 := HV.out.r1
  have r2 := HV.out.r2
  have n1 := HV.out.n1
  have n2 := HV.out.n2
  have hA1 : A = none → v.blocks.length = 0 := fun e => by subst e; simpa using Reads.none_ r1
  have hA2 : A2 = none → v.attrs.length = 0 := fun e => by subst e; simpa using Reads.none_ r2
  clear HV
  obtain ⟨bl, hbl⟩ : ∃ bl, bl = v.blocks := ⟨_, rfl⟩
  obtain ⟨al, hal⟩ : ∃ al, al = v.attrs := ⟨_, rfl⟩
  have HALL : Hid (v.all = bl ++ al) := Lib.hid (by rw [hbl, hal]; rfl)
  rw [← hbl] at r1 n1 hA1
  rw [← hal] at r2 n2 hA2
  have hc6 : ∀ W, Below w4.heap.size w4 W → W.cell? ⟨w.heap.size + 1, 6, none⟩ = some (.slice A bl.length c) ∧ W.cell? ⟨w.heap.size + 1, 7, none⟩ = some (.slice A2 al.length c2) := fun W hW => by
    rw [hbl, hal]
    exact ⟨((bX4.belowAll hW).cells 6).trans rfl, ((bX4.belowAll hW).cells 7).trans rfl⟩
  have HC6 := Lib.hid hc6
  clear hbl hal hc6 bX4
  go_upto_region 10 with fail
  refine wp_region_mix [.take 1, .take 2, .take 4, .take 5, .one 0, .one 3, .one 6, .take 7] 8 (fun W => W.cell? ⟨w.heap.size + 1, 6, none⟩ = some (.slice A bl.length c) ∧ W.cell? ⟨w.heap.size + 1, 7, none⟩ = some (.slice A2 al.length c2)) (by kernel_rfl) (by kernel_rfl) (fun _ _ _ _ _ h => h) (HC6.out _ (Below.refl _ _).drew) ?_
  simp only [List.map_cons, List.map_nil, Ms.fill, List.getD_cons_zero, List.getD_cons_succ]
  iterate 4 (refine mixT_take (by rfl) ?_ (fun w' hw' => ?_) ?_; rotate_left; (focus (go_simp; (try with_reducible rfl))); (try simp only [Act.put, List.setIfInBounds_toArray, List.set_cons_zero, List.set_cons_succ]))
  refine mixT_step (by rfl) fun K hK => ?_
  go_simp
  obtain ⟨X, hX⟩ : ∃ X, X = (w4.alloc (.cells #[] 3)).drew := ⟨_, rfl⟩
  have oX : X.ownsRow w4.heap.size 3 1 (.slice (some ⟨w4.heap.size, 0, none⟩) 0 0) 0 [] := by
    have := World.ownsRow_made (e := 3) (size := 1) (base := w4.heap.size) w4 #[] 0 (by simp) (by simp) rfl
    have h2 : (w4.alloc (.cells #[] 3)).ownsRow w4.heap.size 3 1 (.slice (some ⟨w4.heap.size, 0, none⟩) 0 0) 0 [] := by simpa using this
    rw [hX]
    exact h2
  have bX : Below w4.heap.size w4 X := by rw [hX]; exact ((Below.refl _ _).alloc (Nat.le_refl _) _).drew
  rw [← hX]
  refine hK _ _ (fun _ => HC6.out _ bX) ?_
  clear hK K hX
  have hone : ∀ l : List Int, ∀ u ∈ l.map (Value.int .i64), u.oneCell' = true := fun l u hu => by
    obtain ⟨q, -, rfl⟩ := List.mem_map.1 hu
    rfl
  refine mixT_step (by rfl) fun K hK => ?_
  refine wp_append_any (w := X) _ _ 24 rfl w4.heap.size 3 i0 (.int .i64 0) 8 Tryz.underlying24 hi hz0 hz1 hz2 rfl (.slice (some ⟨w4.heap.size, 0, none⟩) 0 0) 0 [] rfl oX A bl.length c (bl.map (.int .i64)) rfl (by simp) hA1 (r1.below (B4.trans (bX.mono B4.size))) (hone bl) (by simp only [maxLen]; omega) (by omega) bX.size ?_
  intro v1 W1 hown1 hgr1 _
  have bW1 : Below w4.heap.size w4 W1 := bX.grown hgr1 bX.size (fun q hq => by simp [Value.ownBlock] at hq; omega)
  refine hK _ _ (fun _ => HC6.out _ bW1) ?_
  clear hK K
  refine mixT_step (by rfl) fun K hK => ?_
  refine wp_append_any (w := W1) _ _ 24 rfl w4.heap.size 3 i0 (.int .i64 0) 8 Tryz.underlying24 hi hz0 hz1 hz2 rfl v1 _ _ rfl hown1 A2 al.length c2 (al.map (.int .i64)) rfl (by simp) hA2 (r2.below (B4.trans (bW1.mono B4.size))) (hone al) (by simp only [maxLen]; omega) (by omega) bW1.size ?_
  intro v2 w5 hown2 hgr2 _
  have bW2 : Below w4.heap.size w4 w5 := bW1.grown hgr2 bW1.size (fun q hq => (own_lt hown1 q hq).1)
  refine hK _ _ (fun _ => HC6.out _ bW2) ?_
  clear hK K
  have hl : 0 + bl.length + al.length = (bl ++ al).length := by rw [List.length_append]; omega
  have hown : w5.ownsRow w4.heap.size 3 1 v2 (bl ++ al).length ((bl ++ al).map (.int .i64)) := by
    rw [List.map_append, ← hl]
    simpa using hown2
  have hn11 : (bl ++ al).length ≤ 2000 := by rw [List.length_append]; omega
  have bG5 := bG4.belowAll bW2
  have B5 := B4.trans (bW2.mono B4.size)
  have HL : Hid (v.all = bl ++ al) := HALL
  generalize bl ++ al = l at hown hn11 HL
  obtain ⟨a2, cc, rfl⟩ := own_slice hown
  have hRl := Reads.of_own hown
  (refine mixT_take (by rfl) ?_ (fun w' hw' => ?_) ?_; rotate_left; (focus (go_simp; (try with_reducible rfl))); (try simp only [Act.put, List.setIfInBounds_toArray, List.set_cons_zero, List.set_cons_succ]))
  refine mixT_nil ?_
  have hG : ∀ W, Below w5.heap.size w5 W → W.cell? ⟨N2, 4, none⟩ = some (.int .i64 (rgB s j i)) := fun W hW => ((bG5.belowAll hW).cells 4).trans rfl
  have HG4 := Lib.hid hG
  have hb := rgB_bds s j i
  have hwr : IntKind.i64.wrap (rgB s j i - 1) = rgB s j i - 1 := by rw [IntKind.wrap_i64]; omega
  have HWR := Lib.hid hwr
  have HRL := Lib.hid hRl
  rw [HL.out] at HI2
  clear HL HALL HC6 hown hown1 hown2 hgr1 hgr2 bW1 bW2 bX oX hone r1 r2 hA1 hA2 hi hz0 hz1 hz2 hG bG4 bG5 hwr hb hl B4 n1 n2 hRl
  go_wp2_with fail
  go_loopw [8] (fun q wr => ∃ k : Nat, k ≤ l.length ∧ q = .int .i64 k ∧ (∀ b ∈ l.take k, 0 ≤ b ∧ b < rgB s j i) ∧ Below w5.heap.size w5 wr) (fun q _ => l.length - (RowKit.intOf q).toNat)
  case atStart => exact ⟨0, Nat.zero_le _, rfl, fun b hb => absurd hb (by simp), Below.refl _ _⟩
  case round =>
    obtain ⟨k, hk, rfl, hrn, hnx⟩ := hrel
    have HRN := Lib.hid hrn
    clear hrn
    by_cases hlt : k < l.length
    · have d1 : (k : Int) < l.length := by omega
      obtain ⟨g, o, rfl, -, -⟩ := HRL.out.at_ (k := k) (by simpa using hlt)
      have hcx : ∀ W, Below w5.heap.size w5 W → W.cell? ⟨g, o + k, none⟩ = some (.int .i64 l[k]) ∧ W.cell? ⟨N2, 4, none⟩ = some (.int .i64 (rgB s j i)) := fun W hW => by
        obtain ⟨g', o', e, -, hc⟩ := (HRL.out.below hW).at_ (k := k) (by simpa using hlt)
        cases e
        rw [List.getElem_map] at hc
        exact ⟨hc, HG4.out W hW⟩
      have hs1 := Lib.hid (List.take_succ_eq_append_getElem hlt)
      have hmem := Lib.hid (List.getElem_mem hlt)
      have HCX := Lib.hid hcx
      generalize l[k] = x at hs1 hmem HCX
      have hwr := HWR.out
      clear hcx hk
      go_upto_region 14 with fail
      refine wp_region_mix [.take 0, .take 1, .take 2, .take 3, .take 4, .take 5, .take 6, .one 7, .take 8] 9 (fun W => W.cell? ⟨g, o + k, none⟩ = some (.int .i64 x) ∧ W.cell? ⟨N2, 4, none⟩ = some (.int .i64 (rgB s j i))) (by kernel_rfl) (by kernel_rfl) (fun _ _ _ _ _ h => h) (HCX.out _ hnx.drew) ?_
      simp only [List.map_cons, List.map_nil, Ms.fill, List.getD_cons_zero, List.getD_cons_succ]
      iterate 7 (refine mixT_take (by rfl) ?_ (fun w' hw' => ?_) ?_; rotate_left; (focus (go_simp; (try with_reducible rfl))); (try simp only [Act.put, List.setIfInBounds_toArray, List.set_cons_zero, List.set_cons_succ]))
      refine mixT_step (by rfl) fun K hK => ?_
      go_simp
      refine (in11_any x 0 (rgB s j i - 1) wr.drew).mono ?_
      rintro e wq ⟨rfl, hw⟩
      replace hw := hw.symm
      subst hw
      refine hK _ _ (fun _ => HCX.out _ hnx.drew) ?_
      clear hK K
      (refine mixT_take (by rfl) ?_ (fun w' hw' => ?_) ?_; rotate_left; (focus (go_simp; (try with_reducible rfl))); (try simp only [Act.put, List.setIfInBounds_toArray, List.set_cons_zero, List.set_cons_succ]))
      refine mixT_nil ?_
      have hnd : Below w5.heap.size w5 wr.drew := hnx.drew
      by_cases hx : 0 ≤ x ∧ x < rgB s j i
      · have hib : inB x 0 (rgB s j i - 1) = true := by simp [inB]; omega
        rw [hib]
        have HX := Lib.hid hx
        clear hib hx hwr
        go_wp2_with fail
        go_roundw
        case rel => exact ⟨k + 1, by omega, by go_num, fun b hb => by
          rw [hs1.out] at hb
          rcases List.mem_append.1 hb with hb | hb
          · exact HRN.out b hb
          · rw [List.mem_singleton] at hb
            subst hb
            exact HX.out, hnd⟩
        case measure => simp [RowKit.intOf]; omega
      · have hib : inB x 0 (rgB s j i - 1) = false := by simp [inB]; omega
        rw [hib]
        have HG : Hid (inoE s j i v = 7) := Lib.hid (by rw [HI2.out, if_pos ⟨x, hmem.out, by omega⟩])
        clear hib hx hwr
        go_wp2_with fail
        go_ret
        rw [HG.out]
        exact ⟨rfl, B5.trans (hnd.mono B5.size)⟩
    · obtain rfl : k = l.length := by omega
      have HI3 : Hid (inoE s j i v = if ¬ l.Nodup then 8 else 0) := Lib.hid (by
        have h := HRN.out
        rw [List.take_length] at h
        rw [HI2.out, if_neg]
        rintro ⟨b, hb, hc⟩
        have := h b hb
        omega)
      clear HRN HI2 hk HWR HG4
      go_wp2_with fail
      go_loopw [9] (fun q wr => ∃ k : Nat, k ≤ l.length ∧ q = .int .i64 k ∧ (l.take k).Nodup ∧ Below w5.heap.size w5 wr) (fun q _ => l.length - (RowKit.intOf q).toNat)
      case atStart => exact ⟨0, Nat.zero_le _, rfl, by simp, hnx⟩
      case round =>
        obtain ⟨k, hk, rfl, hnd, hnx2⟩ := hrel
        clear hnx
        have HND := Lib.hid hnd
        clear hnd
        by_cases hlt2 : k < l.length
        · have d1 : (k : Int) < l.length := by omega
          go_wp2_with fail
          go_loopw [10] (fun q wr => ∃ m : Nat, m ≤ k ∧ q = .int .i64 m ∧ (∀ a, a < m → l[a]? ≠ l[k]?) ∧ Below w5.heap.size w5 wr) (fun q _ => k - (RowKit.intOf q).toNat)
          case atStart => exact ⟨0, Nat.zero_le _, rfl, fun a ha => absurd ha (by omega), hnx2⟩
          case round =>
            obtain ⟨m, hm, rfl, hne, hnx3⟩ := hrel
            clear hnx2
            have HNE := Lib.hid hne
            clear hne
            by_cases hmk : m < k
            · have d2 : (m : Int) < k := by omega
              have d3 : (m : Int) < l.length := by omega
              have hml : m < l.length := by omega
              obtain ⟨g, o, rfl, -, hc1⟩ := (HRL.out.below hnx3).at_ (k := k) (by simpa using hlt2)
              obtain ⟨g2, o2, e2, -, hc2⟩ := (HRL.out.below hnx3).at_ (k := m) (by simpa using hml)
              cases e2
              rw [List.getElem_map] at hc1 hc2
              by_cases hxy : l[k] = l[m]
              · have HG : Hid (inoE s j i v = 8) := Lib.hid (by rw [HI3.out, if_pos (nodup_not hlt2 hmk hxy)])
                rw [hxy] at hc1
                generalize l[m] = x at hc1 hc2
                have d4 : (x == x) = true := by simp
                clear hxy
                go_wp2_with fail
                go_quiet (fail)
                go_wp2_with fail
                go_ret
                rw [HG.out]
                exact ⟨rfl, by have := B5.trans (hnx3.mono B5.size); (repeat' (first | (with_reducible exact Below.refl _ _) | (with_reducible assumption) | (with_reducible refine Below.alloc ?_ ?_ _) | (with_reducible refine Below.drew ?_) | (with_reducible refine below_drewN' ?_ _) | (with_reducible refine Below.setCell ?_ ?_ _) | (with_reducible exact Nat.le_refl _) | omega | (simp; done) | (simp; omega)))⟩
              · have d4 : (l[k] == l[m]) = false := by simpa using hxy
                have HX : Hid (l[m]? ≠ l[k]?) := Lib.hid (by rw [List.getElem?_eq_getElem hml, List.getElem?_eq_getElem hlt2]; intro e; exact hxy (Option.some.inj e).symm)
                generalize l[k] = x at hc1 d4
                generalize l[m] = y at hc2 d4
                clear hxy
                go_wp2_with fail
                go_quiet (fail)
                go_wp2_with fail
                go_roundw
                case rel => exact ⟨m + 1, by omega, by go_num, fun a ha => by
                  by_cases e : a = m
                  · subst e; exact HX.out
                  · exact HNE.out a (by omega), by (repeat' (first | (with_reducible exact Below.refl _ _) | (with_reducible assumption) | (with_reducible refine Below.alloc ?_ ?_ _) | (with_reducible refine Below.drew ?_) | (with_reducible refine below_drewN' ?_ _) | (with_reducible refine Below.setCell ?_ ?_ _) | (with_reducible exact Nat.le_refl _) | omega | (simp; done) | (simp; omega)))⟩
                case measure => simp [RowKit.intOf]; omega
            · obtain rfl : m = k := by omega
              have HS : Hid ((l.take (m + 1)).Nodup) := Lib.hid (nodup_step' hlt2 HND.out HNE.out)
              go_wp2_with fail
              go_roundw
              case rel => exact ⟨m + 1, by omega, by go_num, HS.out, hnx3⟩
              case measure => simp [RowKit.intOf]; omega
        · obtain rfl : k = l.length := by omega
          have HG : Hid (inoE s j i v = 0) := Lib.hid (by
            have h := HND.out
            rw [List.take_length] at h
            rw [HI3.out, if_neg (by simpa using h)])
          go_wp2_with fail
          go_ret
          rw [HG.out]
          exact ⟨rfl, B5.trans (hnx2.mono B5.size)⟩
end Go.Proofs.YtjocnooekgnedaaGreatDoor
/- Layer 11: the reference's records: low, width, groups of a small number. -/
namespace Go.Proofs.YtjocnooekgnedaaGreatDoor
open Go.RowKit Go.Maps

attribute [local go_sem] Oper.semAt_some

theorem ediv_step (n : Int) (k : Nat) : n / 256 ^ k / 256 = n / 256 ^ (k + 1) := by
  rw [Int.ediv_ediv_of_nonneg (Int.le_of_lt (Int.pow_pos (by decide))), Int.pow_succ]
theorem ediv_bd {n : Int} (hn : 0 ≤ n ∧ n < 18446744073709551616) (k : Nat) : 0 ≤ n / 256 ^ k ∧ n / 256 ^ k < 18446744073709551616 := by
  have hp : (0 : Int) < 256 ^ k := Int.pow_pos (by decide)
  exact ⟨Int.ediv_nonneg hn.1 (Int.le_of_lt hp), Int.lt_of_le_of_lt (Int.ediv_le_self _ hn.1) hn.2⟩
set_option maxRecDepth 100000 in
set_option maxHeartbeats 4000000 in
theorem rlow_any (n : Int) (hn : 0 ≤ n ∧ n < 18446744073709551616) (m : Nat) (hm : m ≤ 8) (w : World) :
    Calls Tryz.prog 91 #[.int .u64 n, .int .i64 m] w fun e w' => ∃ A c, e = .returned (.slice A m c) ∧ w'.ownsRow w.heap.size 5 1 (.slice A m c) m ((lowL n m).map (.int .u8)) ∧ Below w.heap.size w w' := by
  obtain ⟨i0, hi, hz0, hz1, hz2⟩ := info_parts Tryz.infoByte
  have HN := Lib.hid hn
  clear hn
  go_enter Tryz.func91, Tryz.ntmps91
  go_wp2_with fail
  go_loopw [0, 5, 6] (fun q0 v q wr => ∃ k : Nat, k ≤ m ∧ q0 = .int .u64 (n / 256 ^ k) ∧ q = .int .i64 k ∧ wr.ownsRow w.heap.size 5 1 v k ((lowL n k).map (.int .u8)) ∧ Below w.heap.size w wr) (fun _ _ q _ => m - (RowKit.intOf q).toNat)
  case atStart => exact ⟨0, Nat.zero_le _, by simp, rfl, World.ownsRow_nil _ _ _ _, Below.refl _ _⟩
  case round =>
    obtain ⟨k, hk, rfl, rfl, hown, hB⟩ := hrel
    obtain ⟨fa, fc, rfl⟩ := own_slice hown
    by_cases hlt : k < m
    · have d1 : (k : Int) < m := by omega
      have hV := ediv_bd HN.out k
      have HS := Lib.hid (ediv_step n k)
      have HL : Hid (lowL n (k + 1) = lowL n k ++ [n / 256 ^ k % 256]) := Lib.hid rfl
      generalize n / 256 ^ k = V at hV HS HL ⊢
      obtain ⟨b, hb⟩ : ∃ b, b = V % 256 := ⟨_, rfl⟩
      have e1 : V.tmod 256 = b := by rw [hb]; exact Int.tmod_eq_emod_of_nonneg hV.1
      have e2 : IntKind.u64.wrap b = b := by rw [IntKind.wrap_u64]; omega
      have e3 : IntKind.u8.wrap b = b := by rw [IntKind.wrap_u8]; omega
      have e4 : V.tdiv 256 = V / 256 := Int.tdiv_eq_ediv_of_nonneg hV.1
      have e5 : IntKind.u64.wrap (V / 256) = V / 256 := by rw [IntKind.wrap_u64]; omega
      rw [← hb] at HL
      obtain ⟨X, hX⟩ : ∃ X, X = wr.alloc (.cells #[.int .u8 b] 5) := ⟨_, rfl⟩
      have bX : Below wr.heap.size wr X := by rw [hX]; exact (Below.refl _ _).alloc (Nat.le_refl _) _
      have rX : Reads X (some ⟨wr.heap.size, 0, none⟩) [.int .u8 b] := by
        have := Blk.new wr 5 #[.int .u8 b]
        rw [hX]
        exact .inr ⟨_, 0, rfl, this.lt, fun j u hu => by rw [Nat.zero_add]; exact (this.cells j).trans (by simpa using hu)⟩
      have HX := Lib.hid hX
      have hoX := own_below hown bX
      have hBX := hB.trans (bX.mono hB.size)
      have hbs : w.heap.size ≤ X.heap.size := hBX.size
      clear hb hX hV hown hB bX
      go_wp2_with (at_builtin; rw [← HX.out]; refine wpList_append_any _ rfl (.tmp 12) (.tmp 16) _ rfl w.heap.size 5 i0 (.int .u8 0) 1 Tryz.underlying29 hi hz0 hz1 hz2 rfl (.slice fa k fc) _ _ rfl hoX (some ⟨wr.heap.size, 0, none⟩) 1 1 [.int .u8 b] rfl rfl (fun h => by cases h) rX (by simp [Value.oneCell']) (by simp only [maxLen]; omega) (by omega) hbs ?_; intro v' w4 hown hgrow hat; have hB4 := hBX.grown hgrow hbs (fun q hq => (own_lt hoX q hq).1))
      go_roundw
      case rel => exact ⟨k + 1, by omega, by rw [HS.out], by go_num, by rw [HL.out, List.map_append]; exact hown, hB4⟩
      case measure => simp [RowKit.intOf]; omega
    · obtain rfl : k = m := by omega
      go_wp2_with fail
      go_ret
      exact ⟨fa, fc, rfl, hown, hB⟩
/-- How many bytes a number of a kind has. -/
def widV (c : Int) : Int := if c = 98 then 1 else if c = 119 then 2 else 0
set_option maxRecDepth 100000 in
theorem rwidth_any (c : Int) (hc : c = 98 ∨ c = 119 ∨ c = 108) (w : World) : Calls Tryz.prog 89 #[.int .u8 c] w fun e w' => e = .returned (.int .i64 (widV c)) ∧ w' = w := by
  rcases hc with rfl | rfl | rfl
  all_goals
    go_enter Tryz.func89, Tryz.ntmps89
    go_wp2_with fail
    go_ret
    exact ⟨rfl, rfl⟩
theorem own_one8 (w : World) (n : Int) : (w.alloc (.cells #[.int .u8 n] 5)).ownsRow w.heap.size 5 1 (.slice (some ⟨w.heap.size, 0, none⟩) 1 1) 1 [.int .u8 n] :=
  ⟨rfl, .inr ⟨w.heap.size, 1, #[.int .u8 n], rfl, Nat.le_refl _, Blk.new _ _ _, Nat.le_refl _, by simp [maxLen], rfl, rfl⟩⟩
set_option maxRecDepth 100000 in
theorem rgroups_small (n : Int) (hn : 0 ≤ n ∧ n < 128) (w : World) : Calls Tryz.prog 90 #[.int .u64 n] w fun e w' => ∃ A c, e = .returned (.slice A 1 c) ∧ w'.ownsRow w.heap.size 5 1 (.slice A 1 c) 1 [.int .u8 n] ∧ Below w.heap.size w w' := by
  have d1 : n < 128 := hn.2
  have e1 : IntKind.u8.wrap n = n := by rw [IntKind.wrap_u8]; omega
  clear hn
  go_enter Tryz.func90, Tryz.ntmps90
  go_wp2_with fail
  go_ret
  exact ⟨_, _, rfl, own_one8 w n, (Below.refl _ _).alloc (Nat.le_refl _) _⟩
end Go.Proofs.YtjocnooekgnedaaGreatDoor
/- Layer 11: the reference's records: the bytes of a value. -/
namespace Go.Proofs.YtjocnooekgnedaaGreatDoor
open Go.RowKit Go.Maps

attribute [local go_sem] Oper.semAt_some

def RvPost (bs : List Int) (w : World) (e : Ending) (w' : World) : Prop :=
  ∃ A c, e = .returned (.tuple #[.slice A bs.length c, .int .i64 0]) ∧ w'.ownsRow w.heap.size 5 1 (.slice A bs.length c) bs.length (bs.map (.int .u8)) ∧ Below w.heap.size w w'
set_option maxRecDepth 100000 in
set_option maxHeartbeats 4000000 in
theorem rvalue_b (n : Int) (hn : 0 ≤ n ∧ n < 256) (w : World) :
    Calls Tryz.prog 61 #[.int .u8 98, .agg #[.int .u64 n, .string ⟨#[]⟩, .slice none 0 0]] w (RvPost (lowL n 1) w) := by
  obtain ⟨wA, hA⟩ : ∃ wA, wA = w.alloc (.cells #[.int .u64 n, .string ⟨#[]⟩, .slice none 0 0] 79) := ⟨_, rfl⟩
  have bX : Blk wA w.heap.size 79 #[.int .u64 n, .string ⟨#[]⟩, .slice none 0 0] := by rw [hA]; exact Blk.new _ _ _
  have BA : Below w.heap.size w wA := by rw [hA]; exact (Below.refl _ _).alloc (Nat.le_refl _) _
  have hlow : ∀ V, Calls Tryz.prog 91 #[.int .u64 n, .int .i64 1] V fun e w' => ∃ A c, e = .returned (.slice A 1 c) ∧ w'.ownsRow V.heap.size 5 1 (.slice A 1 c) 1 ((lowL n 1).map (.int .u8)) ∧ Below V.heap.size V w' := fun V => rlow_any n (by omega) 1 (by omega) V
  have HLL := Lib.hid (lowL_len n 1)
  have hw : Calls Tryz.prog 89 #[.int .u8 98] wA fun e w' => e = .returned (.int .i64 1) ∧ w' = wA := rwidth_any 98 (by decide) wA
  have d1 : ¬ (256 : Int) ≤ n := by omega
  have HLOW := Lib.hid hlow
  clear hn hlow
  go_enter Tryz.func61, Tryz.ntmps61
  go_upto_region 1 with fail
  rw [← hA]
  clear hA
  have cX := bX.cells
  have lX := bX.lt
  go_wp2_with fail
  refine hw.mono ?_
  rintro e wq ⟨rfl, hw⟩
  replace hw := hw.symm
  subst hw
  go_wp2_with fail
  go_quiet (fail)
  go_wp2_with fail
  refine (HLOW.out (wA.drewN nq)).mono ?_
  rintro e w3 ⟨A, c, rfl, ho, hb3⟩
  have B3 : Below w.heap.size w w3 := (below_drewN' BA nq).trans (hb3.mono BA.size)
  have ho3 := own_base ho (show w.heap.size ≤ (wA.drewN nq).heap.size from BA.size)
  go_wp2_with fail
  go_ret2
  exact ⟨A, c, by rw [HLL.out]; rfl, by rw [HLL.out]; exact ho3, B3⟩
set_option maxRecDepth 100000 in
set_option maxHeartbeats 4000000 in
theorem rvalue_w (n : Int) (hn : 0 ≤ n ∧ n < 65536) (w : World) :
    Calls Tryz.prog 61 #[.int .u8 119, .agg #[.int .u64 n, .string ⟨#[]⟩, .slice none 0 0]] w (RvPost (lowL n 2) w) := by
  obtain ⟨wA, hA⟩ : ∃ wA, wA = w.alloc (.cells #[.int .u64 n, .string ⟨#[]⟩, .slice none 0 0] 79) := ⟨_, rfl⟩
  have bX : Blk wA w.heap.size 79 #[.int .u64 n, .string ⟨#[]⟩, .slice none 0 0] := by rw [hA]; exact Blk.new _ _ _
  have BA : Below w.heap.size w wA := by rw [hA]; exact (Below.refl _ _).alloc (Nat.le_refl _) _
  have hlow : ∀ V, Calls Tryz.prog 91 #[.int .u64 n, .int .i64 2] V fun e w' => ∃ A c, e = .returned (.slice A 2 c) ∧ w'.ownsRow V.heap.size 5 1 (.slice A 2 c) 2 ((lowL n 2).map (.int .u8)) ∧ Below V.heap.size V w' := fun V => rlow_any n (by omega) 2 (by omega) V
  have HLL := Lib.hid (lowL_len n 2)
  have hw : Calls Tryz.prog 89 #[.int .u8 119] wA fun e w' => e = .returned (.int .i64 2) ∧ w' = wA := rwidth_any 119 (by decide) wA
  have d1 : ¬ (65536 : Int) ≤ n := by omega
  have HLOW := Lib.hid hlow
  clear hn hlow
  go_enter Tryz.func61, Tryz.ntmps61
  go_upto_region 1 with fail
  rw [← hA]
  clear hA
  have cX := bX.cells
  have lX := bX.lt
  go_wp2_with fail
  refine hw.mono ?_
  rintro e wq ⟨rfl, hw⟩
  replace hw := hw.symm
  subst hw
  go_wp2_with fail
  go_quiet (fail)
  go_wp2_with fail
  refine (HLOW.out (wA.drewN nq)).mono ?_
  rintro e w3 ⟨A, c, rfl, ho, hb3⟩
  have B3 : Below w.heap.size w w3 := (below_drewN' BA nq).trans (hb3.mono BA.size)
  have ho3 := own_base ho (show w.heap.size ≤ (wA.drewN nq).heap.size from BA.size)
  go_wp2_with fail
  go_ret2
  exact ⟨A, c, by rw [HLL.out]; rfl, by rw [HLL.out]; exact ho3, B3⟩
set_option maxRecDepth 100000 in
set_option maxHeartbeats 4000000 in
theorem rvalue_l (l : List Int) (A : Option Addr) (c : Nat) (w : World) (hR : Reads w A (l.map (.int .u32))) (hl : l.length ≤ 60) (hr : ∀ n ∈ l, 0 ≤ n ∧ n < 4294967296) :
    Calls Tryz.prog 61 #[.int .u8 108, .agg #[.int .u64 0, .string ⟨#[]⟩, .slice A l.length c]] w (RvPost ((l.length : Int) :: l.flatMap le4) w) := by
  obtain ⟨wA, hA⟩ : ∃ wA, wA = w.alloc (.cells #[.int .u64 0, .string ⟨#[]⟩, .slice A l.length c] 79) := ⟨_, rfl⟩
  have bX : Blk wA w.heap.size 79 #[.int .u64 0, .string ⟨#[]⟩, .slice A l.length c] := by rw [hA]; exact Blk.new _ _ _
  have BA : Below w.heap.size w wA := by rw [hA]; exact (Below.refl _ _).alloc (Nat.le_refl _) _
  have hw : Calls Tryz.prog 89 #[.int .u8 108] wA fun e w' => e = .returned (.int .i64 0) ∧ w' = wA := rwidth_any 108 (by decide) wA
  have hgr := fun V => rgroups_small (l.length : Int) (by omega) V
  have d1 : ¬ (60 : Int) < l.length := by omega
  have e1 : IntKind.u64.wrap (l.length : Int) = l.length := by rw [IntKind.wrap_u64]; omega
  obtain ⟨i0, hi, hz0, hz1, hz2⟩ := info_parts Tryz.infoByte
  have HGR := Lib.hid hgr
  have HR := Lib.hid hR
  have HRR := Lib.hid hr
  have HL := Lib.hid hl
  clear hgr hR hr hl
  go_enter Tryz.func61, Tryz.ntmps61
  go_upto_region 1 with fail
  rw [← hA]
  clear hA
  have cX := bX.cells
  have lX := bX.lt
  go_wp2_with fail
  refine hw.mono ?_
  rintro e wq ⟨rfl, hw⟩
  replace hw := hw.symm
  subst hw
  go_wp2_with fail
  go_quiet (fail)
  go_wp2_with fail
  refine (HGR.out (wA.drewN nq)).mono ?_
  rintro e w3 ⟨ga, gc, rfl, ho, hb3⟩
  have B3 : Below wA.heap.size wA w3 := (below_drewN' (Below.refl _ _) nq).trans hb3
  have ho3 : w3.ownsRow wA.heap.size 5 1 (.slice ga 1 gc) 1 [.int .u8 (l.length : Int)] := ho
  clear HGR ho hb3 cX lX e1
  go_wp2_with fail
  go_loopw [7, 8] (fun v q wr => ∃ k : Nat, k ≤ l.length ∧ q = .int .i64 k ∧ wr.ownsRow wA.heap.size 5 1 v (1 + 4 * k) (((l.length : Int) :: (l.take k).flatMap le4).map (.int .u8)) ∧ Below wA.heap.size wA wr) (fun _ q _ => l.length - (RowKit.intOf q).toNat)
  case atStart => exact ⟨0, Nat.zero_le _, rfl, ho3, B3⟩
  case round =>
    obtain ⟨k, hk, rfl, hown, hB⟩ := hrel
    clear ho3 B3
    obtain ⟨fa, fc, rfl⟩ := own_slice hown
    have hbx := bX.belowAll hB
    have cX := hbx.cells
    have lX := hbx.lt
    have HOWN := Lib.hid hown
    have HB := Lib.hid hB
    clear hown hB
    by_cases hlt : k < l.length
    · have d2 : (k : Int) < l.length := by omega
      have BW := BA.trans (HB.out.mono BA.size)
      obtain ⟨g, o, rfl, -, hc⟩ := (HR.out.below BW).at_ (k := k) (by simpa using hlt)
      rw [List.getElem_map] at hc
      have hs1 := Lib.hid (take_le4 hlt)
      have hx := HRR.out _ (List.getElem_mem hlt)
      generalize l[k] = x at hc hs1 hx
      have e2 : IntKind.u64.wrap x = x := by rw [IntKind.wrap_u64]; omega
      have hlow : Calls Tryz.prog 91 #[.int .u64 x, .int .i64 4] wr fun e w' => ∃ A c, e = .returned (.slice A 4 c) ∧ w'.ownsRow wr.heap.size 5 1 (.slice A 4 c) 4 ((lowL x 4).map (.int .u8)) ∧ Below wr.heap.size wr w' := rlow_any x (by omega) 4 (by omega) wr
      rw [lowL_4] at hlow
      have hl60 := HL.out
      clear BW
      go_wp2_with fail
      refine hlow.mono ?_
      rintro e w4 ⟨La, Lc, rfl, ho4, hb4⟩
      have hoX := own_below HOWN.out hb4
      have BX := HB.out.trans (hb4.mono HB.out.size)
      have rX := Reads.of_own ho4
      clear hlow cX lX hc
      go_wp2_with (at_builtin; refine wpList_append_any _ rfl (.tmp 95) (.tmp 102) _ rfl wA.heap.size 5 i0 (.int .u8 0) 1 Tryz.underlying29 hi hz0 hz1 hz2 rfl (.slice fa (1 + 4 * k) fc) _ _ rfl hoX La 4 Lc ((le4 x).map (.int .u8)) rfl rfl (fun h => by subst h; exact absurd (Reads.none_ rX) (by simp [le4])) rX (by simp [le4, Value.oneCell']) (by simp only [maxLen]; omega) (by omega) BX.size ?_; intro v' w5 hown hgrow hat; have hB5 := BX.grown hgrow BX.size (fun q hq => (own_lt hoX q hq).1))
      go_roundw
      case rel => exact ⟨k + 1, by omega, by go_num, by
        rw [hs1.out, show 1 + 4 * (k + 1) = 1 + 4 * k + 4 by omega, ← List.cons_append, List.map_append]
        exact hown, hB5⟩
      case measure => simp [RowKit.intOf]; omega
    · obtain rfl : k = l.length := by omega
      have hlen : ((l.length : Int) :: l.flatMap le4).length = 1 + 4 * l.length := by rw [List.length_cons, le4s_length]; omega
      have HLE := Lib.hid hlen
      have ho := HOWN.out
      rw [List.take_length] at ho
      have HO := Lib.hid ho
      clear hlen ho HOWN
      go_wp2_with fail
      go_ret2
      exact ⟨fa, fc, by rw [HLE.out]; rfl, by rw [HLE.out]; exact own_base HO.out BA.size, BA.trans (HB.out.mono BA.size)⟩
end Go.Proofs.YtjocnooekgnedaaGreatDoor
/- Layer 11: the reference's records.Encode at the form of inodes. -/
namespace Go.Proofs.YtjocnooekgnedaaGreatDoor
open Go.RowKit Go.Maps

attribute [local go_sem] Oper.semAt_some

theorem frm_let (k : Nat) (hk : k < 8) : ∃ c : Int, (c = 98 ∨ c = 119 ∨ c = 108) ∧ kdLet (frmP k) = c := by
  have h1 : k = 0 ∨ k = 1 ∨ k = 2 ∨ k = 3 ∨ k = 4 ∨ k = 5 ∨ k = 6 ∨ k = 7 := by omega
  rcases h1 with rfl | rfl | rfl | rfl | rfl | rfl | rfl | rfl
  all_goals exact ⟨_, by decide, rfl⟩
set_option maxRecDepth 100000 in
set_option maxHeartbeats 4000000 in
theorem rform_any (w : World) : Calls Tryz.prog 60 #[.string frm] w fun e w' => e = .returned (.int .i64 0) ∧ w' = w := by
  go_enter Tryz.func60, Tryz.ntmps60
  go_wp2_with fail
  go_loopw [3] (fun q wr => ∃ k : Nat, k ≤ 8 ∧ q = .int .i64 k ∧ wr = w) (fun q _ => 8 - (RowKit.intOf q).toNat)
  case atStart => exact ⟨0, by omega, rfl, rfl⟩
  case round =>
    obtain ⟨k, hk, rfl, hw⟩ := hrel
    subst hw
    by_cases hlt : k < 8
    · have d1 : (k : Int) < 8 := by omega
      have hix := frm_at k hlt
      obtain ⟨c, hc, hkc⟩ := frm_let k hlt
      rw [hkc] at hix
      clear hkc
      have hwd := rwidth_any c hc wr
      rcases hc with rfl | rfl | rfl
      all_goals
        as_aux_lemma =>
          go_wp2_with fail
          refine hwd.mono ?_
          rintro e wq ⟨rfl, hw⟩
          replace hw := hw.symm
          subst hw
          simp only [widV]
          clear hwd
          go_wp2_with fail
          go_roundw
          case rel => exact ⟨k + 1, by omega, by go_num, by first | rfl | trivial⟩
          case measure => simp [RowKit.intOf]; omega
    · obtain rfl : k = 8 := by omega
      go_wp2_with fail
      go_ret
      exact ⟨rfl, rfl⟩

theorem encP_step (v : Ino) (k : Nat) (bs : List Int) (h : (encPs v)[k]? = some bs) : encP v (k + 1) = encP v k ++ bs := by
  unfold encP
  rw [List.take_add_one, h, List.flatten_append]; simp
theorem low_1 {n : Int} (h : 0 ≤ n ∧ n < 256) : lowL n 1 = [n] := by simp [lowL]; omega
theorem low_2 {n : Int} (h : 0 ≤ n ∧ n < 65536) : lowL n 2 = [n % 256, n / 256] := by simp [lowL]; omega
/-- What value makes of each of an inode's values. -/
theorem rval_at (v : Ino) (hb : (0 ≤ v.kind ∧ v.kind ≤ 4) ∧ (0 ≤ v.links ∧ v.links ≤ 120) ∧ (0 ≤ v.size ∧ v.size ≤ 384) ∧ (0 ≤ v.major ∧ v.major ≤ 255) ∧ (0 ≤ v.minor ∧ v.minor ≤ 255) ∧ (0 ≤ v.parent ∧ v.parent ≤ 60))
    (hl : v.blocks.length ≤ 8 ∧ v.attrs.length ≤ 3) (hr : ∀ n ∈ v.all, 0 ≤ n ∧ n < 4294967296) (A : Option Addr) (c : Nat) (A2 : Option Addr) (c2 : Nat) (w : World) (hA : Reads w A (v.blocks.map (.int .u32))) (hA2 : Reads w A2 (v.attrs.map (.int .u32))) (k : Nat) (hk : k < 8) :
    ∃ (x0 : Int) (X2 : Value) (bs : List Int), rcAt v (.slice A v.blocks.length c) (.slice A2 v.attrs.length c2) k = [.int .u64 x0, .string ⟨#[]⟩, X2] ∧
      (∀ W, Below w.heap.size w W → Calls Tryz.prog 61 #[.int .u8 (kdLet (frmP k)), .agg #[.int .u64 x0, .string ⟨#[]⟩, X2]] W (RvPost bs W)) ∧ encP v (k + 1) = encP v k ++ bs ∧ bs.length ≤ 300 := by
  obtain ⟨b1, b2, b3, b4, b5, b6⟩ := hb
  have h1 : k = 0 ∨ k = 1 ∨ k = 2 ∨ k = 3 ∨ k = 4 ∨ k = 5 ∨ k = 6 ∨ k = 7 := by omega
  rcases h1 with rfl | rfl | rfl | rfl | rfl | rfl | rfl | rfl
  · exact ⟨v.kind, .slice none 0 0, [v.kind], rfl, fun W _ => low_1 (n := v.kind) (by omega) ▸ rvalue_b v.kind (by omega) W, encP_step v 0 _ rfl, by simp⟩
  · exact ⟨v.links, .slice none 0 0, [v.links], rfl, fun W _ => low_1 (n := v.links) (by omega) ▸ rvalue_b v.links (by omega) W, encP_step v 1 _ rfl, by simp⟩
  · exact ⟨v.size, .slice none 0 0, [v.size % 256, v.size / 256], rfl, fun W _ => low_2 (n := v.size) (by omega) ▸ rvalue_w v.size (by omega) W, encP_step v 2 _ rfl, by simp⟩
  · exact ⟨v.major, .slice none 0 0, [v.major], rfl, fun W _ => low_1 (n := v.major) (by omega) ▸ rvalue_b v.major (by omega) W, encP_step v 3 _ rfl, by simp⟩
  · exact ⟨v.minor, .slice none 0 0, [v.minor], rfl, fun W _ => low_1 (n := v.minor) (by omega) ▸ rvalue_b v.minor (by omega) W, encP_step v 4 _ rfl, by simp⟩
  · exact ⟨v.parent, .slice none 0 0, [v.parent], rfl, fun W _ => low_1 (n := v.parent) (by omega) ▸ rvalue_b v.parent (by omega) W, encP_step v 5 _ rfl, by simp⟩
  · exact ⟨0, .slice A v.blocks.length c, (v.blocks.length : Int) :: v.blocks.flatMap le4, rfl, fun W hW => rvalue_l v.blocks A c W (hA.below hW) (by omega) (fun n hn => hr n (List.mem_append_left _ hn)), encP_step v 6 _ rfl, by rw [List.length_cons, le4s_length]; omega⟩
  · exact ⟨0, .slice A2 v.attrs.length c2, (v.attrs.length : Int) :: v.attrs.flatMap le4, rfl, fun W hW => rvalue_l v.attrs A2 c2 W (hA2.below hW) (by omega) (fun n hn => hr n (List.mem_append_right _ hn)), encP_step v 7 _ rfl, by rw [List.length_cons, le4s_length]; omega⟩

set_option maxRecDepth 100000 in
set_option maxHeartbeats 4000000 in
theorem rencode5_form (v : Ino) (hb : (0 ≤ v.kind ∧ v.kind ≤ 4) ∧ (0 ≤ v.links ∧ v.links ≤ 120) ∧ (0 ≤ v.size ∧ v.size ≤ 384) ∧ (0 ≤ v.major ∧ v.major ≤ 255) ∧ (0 ≤ v.minor ∧ v.minor ≤ 255) ∧ (0 ≤ v.parent ∧ v.parent ≤ 60))
    (hl : v.blocks.length ≤ 8 ∧ v.attrs.length ≤ 3) (hr : ∀ n ∈ v.all, 0 ≤ n ∧ n < 4294967296) (B : Nat) (A : Option Addr) (c : Nat) (A2 : Option Addr) (c2 : Nat) (w : World)
    (bB : Blk w B 79 (rcC v (.slice A v.blocks.length c) (.slice A2 v.attrs.length c2))) (hA : Reads w A (v.blocks.map (.int .u32))) (hA2 : Reads w A2 (v.attrs.map (.int .u32))) :
    Calls Tryz.prog 30 #[.string frm, .slice (some ⟨B, 0, none⟩) 8 8] w (RencPost w v) := by
  have hp := rform_any w
  obtain ⟨i0, hi, hz0, hz1, hz2⟩ := info_parts Tryz.infoByte
  have HL := Lib.hid hl
  have hval := fun k hk => rval_at v hb hl hr A c A2 c2 w hA hA2 k hk
  have HVAL := Lib.hid hval
  have HBB := Lib.hid bB
  clear hb hl hr hA hA2 hval bB
  go_enter Tryz.func30, Tryz.ntmps30
  go_wp2_with fail
  refine hp.mono ?_
  rintro e wq ⟨rfl, hw⟩
  replace hw := hw.symm
  subst hw
  clear hp
  go_wp2_with fail
  go_loopw [7, 8] (fun u q wr => ∃ k : Nat, k ≤ 8 ∧ q = .int .i64 k ∧ wr.ownsRow w.heap.size 5 1 u (encP v k).length ((encP v k).map (.int .u8)) ∧ Below w.heap.size w wr) (fun _ q _ => 8 - (RowKit.intOf q).toNat)
  case atStart => exact ⟨0, by omega, rfl, World.ownsRow_nil _ _ _ _, Below.refl _ _⟩
  case round =>
    obtain ⟨k, hk, rfl, hown, hB⟩ := hrel
    obtain ⟨fa, fc, rfl⟩ := own_slice hown
    have hlen := encPs_len v k HL.out
    by_cases hlt : k < 8
    · have d1 : (k : Int) < 8 := by omega
      have hix := frm_at k hlt
      obtain ⟨x0, X2, bs, hrc, hcl, hst, hbl⟩ := HVAL.out k hlt
      have hxc : ∀ W, Below w.heap.size w W → W.cell? ⟨B, k * 3, none⟩ = some (.int .u64 x0) ∧ W.cell? ⟨B, k * 3 + 1, none⟩ = some (.string ⟨#[]⟩) ∧ W.cell? ⟨B, k * 3 + 2, none⟩ = some X2 := fun W hW => by
        have hb := HBB.out.belowAll hW
        have hg : ∀ i, i < 3 → W.cell? ⟨B, k * 3 + i, none⟩ = ([.int .u64 x0, .string ⟨#[]⟩, X2] : List Value)[i]? := fun i hi => by rw [hb.cells, rc_cells v _ _ k i hlt hi, hrc]
        exact ⟨hg 0 (by omega), hg 1 (by omega), hg 2 (by omega)⟩
      have HXC := Lib.hid hxc
      have HCL := Lib.hid hcl
      have HST := Lib.hid hst
      have HOWN := Lib.hid hown
      have HB := Lib.hid hB
      generalize kdLet (frmP k) = cc at hix HCL
      clear hrc hcl hst hxc hown hB
      go_upto_region 10 with fail
      refine wp_region_mix [.take 0, .take 1, .take 2, .take 3, .take 4, .take 5, .take 6, .one 7, .take 8, .take 9, .take 10, .take 11, .take 12] 13 (fun W => W.cell? ⟨B, k * 3, none⟩ = some (.int .u64 x0) ∧ W.cell? ⟨B, k * 3 + 1, none⟩ = some (.string ⟨#[]⟩) ∧ W.cell? ⟨B, k * 3 + 2, none⟩ = some X2) (by kernel_rfl) (by kernel_rfl) (fun _ _ _ _ _ h => h) (HXC.out _ HB.out.drew) ?_
      simp only [List.map_cons, List.map_nil, Ms.fill, List.getD_cons_zero, List.getD_cons_succ]
      iterate 7 (refine mixT_take (by rfl) ?_ (fun w' hw' => ?_) ?_; rotate_left; (focus (go_simp; (try with_reducible rfl))); (try simp only [Act.put, List.setIfInBounds_toArray, List.set_cons_zero, List.set_cons_succ]))
      refine mixT_step (by rfl) fun K hK => ?_
      go_simp
      refine (HCL.out wr.drew HB.out.drew).mono ?_
      rintro e w4 ⟨La, Lc, rfl, ho4, hb4⟩
      have BX := HB.out.drew.trans (hb4.mono HB.out.size)
      refine hK _ _ (fun _ => HXC.out _ BX) ?_
      clear hK K
      iterate 5 (refine mixT_take (by rfl) ?_ (fun w' hw' => ?_) ?_; rotate_left; (focus (go_simp; (try with_reducible rfl))); (try simp only [Act.put, List.setIfInBounds_toArray, List.set_cons_zero, List.set_cons_succ]))
      refine mixT_nil ?_
      have hoX : w4.ownsRow w.heap.size 5 1 (.slice fa (encP v k).length fc) (encP v k).length ((encP v k).map (.int .u8)) := own_below HOWN.out ((Below.refl _ _).drew.trans hb4)
      have rX := Reads.of_own ho4
      have hone : ∀ u ∈ bs.map (Value.int .u8), u.oneCell' = true := fun u hu => by
        obtain ⟨q, -, rfl⟩ := List.mem_map.1 hu
        rfl
      have hN : La = none → bs.length = 0 := fun h => by subst h; simpa using Reads.none_ rX
      clear hix HCL HXC
      go_wp2_with (at_builtin; refine wpList_append_any _ rfl (.tmp 45) (.tmp 46) _ rfl w.heap.size 5 i0 (.int .u8 0) 1 Tryz.underlying29 hi hz0 hz1 hz2 rfl (.slice fa (encP v k).length fc) _ _ rfl hoX La bs.length Lc (bs.map (.int .u8)) rfl (by simp) hN rX hone (by simp only [maxLen]; omega) (by omega) BX.size ?_; intro v' w5 hown hgrow hat; have hB5 := BX.grown hgrow BX.size (fun q hq => (own_lt hoX q hq).1))
      go_roundw
      case rel => exact ⟨k + 1, by omega, by go_num, by rw [HST.out, List.length_append, List.map_append]; exact hown, hB5⟩
      case measure => simp [RowKit.intOf]; omega
    · obtain rfl : k = 8 := by omega
      rw [encP_8] at hown hlen
      have d2 : ¬ (4000 : Int) < (encI v).length := by omega
      have HE := Lib.hid (encP_8 v)
      have HO := Lib.hid hown
      clear hown hlen
      rw [HE.out]
      go_wp2_with fail
      go_ret2
      exact ⟨fa, fc, rfl, hB, Reads.of_own HO.out, own_cap HO.out⟩
end Go.Proofs.YtjocnooekgnedaaGreatDoor
/- Layer 11: the reference's Encode. -/
namespace Go.Proofs.YtjocnooekgnedaaGreatDoor
open Go.RowKit Go.Maps

attribute [local go_sem] Oper.semAt_some

abbrev rcZ11 : Array Value := #[.int .u64 0, .string ⟨#[]⟩, .slice none 0 0]
set_option maxRecDepth 100000 in
set_option maxHeartbeats 2000000 in
theorem num11_any (n : Int) (hn : 0 ≤ n ∧ n ≤ 1000000) (w : World) :
    Calls Tryz.prog 31 #[.int .i64 n] w fun e w' => e = .returned (.agg #[.int .u64 n, .string ⟨#[]⟩, .slice none 0 0]) ∧ Below w.heap.size w w' := by
  obtain ⟨wA, hA⟩ : ∃ wA, wA = w.alloc (.cells rcZ11 79) := ⟨_, rfl⟩
  have bX : Blk wA w.heap.size 79 rcZ11 := by rw [hA]; exact Blk.new _ _ _
  have BA : Below w.heap.size w wA := by rw [hA]; exact (Below.refl _ _).alloc (Nat.le_refl _) _
  have e1 : IntKind.u64.wrap n = n := by rw [IntKind.wrap_u64]; omega
  clear hn
  go_enter Tryz.func31, Tryz.ntmps31
  go_upto_region 1 with fail
  rw [← hA]
  clear hA
  have cX := bX.cells
  have lX := bX.lt
  have fX := bX.free
  go_wp2_with fail
  have bF := ((bX.set_ 0 (.int .u64 n)).set_ 1 (.string ⟨#[]⟩)).set_ 2 (.slice none 0 0)
  have cF := bF.cells
  refine bodyPost_ret (v := .agg #[.int .u64 n, .string ⟨#[]⟩, .slice none 0 0]) (by simp [results, Tryz.results31, go_sem, cF]) rfl ?_
  exact ⟨rfl, ((BA.setCell (p := ⟨w.heap.size, 0, none⟩) (Nat.le_refl _) _).setCell (p := ⟨w.heap.size, 1, none⟩) (Nat.le_refl _) _).setCell (p := ⟨w.heap.size, 2, none⟩) (Nat.le_refl _) _⟩

def List11Post (l : List Int) (w : World) (e : Ending) (w' : World) : Prop :=
  ∃ A c, e = .returned (.agg #[.int .u64 0, .string ⟨#[]⟩, .slice A l.length c]) ∧ w'.ownsRow w.heap.size 81 1 (.slice A l.length c) l.length (l.map (.int .u32)) ∧ Below w.heap.size w w'
set_option maxRecDepth 100000 in
set_option maxHeartbeats 4000000 in
theorem list11_any (l : List Int) (A : Option Addr) (c : Nat) (w : World) (hR : Reads w A (l.map (.int .i64))) (hl : l.length ≤ 1000) (hr : ∀ n ∈ l, 0 ≤ n ∧ n < 4294967296) :
    Calls Tryz.prog 32 #[.slice A l.length c] w (List11Post l w) := by
  obtain ⟨i0, hi, hz0, hz1, hz2⟩ := info_parts Tryz.infoU32
  obtain ⟨wA, hA⟩ : ∃ wA, wA = (w.alloc (.cells rcZ11 79)).alloc (.cells rcZ11 79) := ⟨_, rfl⟩
  have bR : Blk wA w.heap.size 79 rcZ11 := by rw [hA]; exact (Blk.new _ _ _).alloc _
  have bX : Blk wA (w.heap.size + 1) 79 rcZ11 := by rw [hA]; exact Blk.new' (by simp)
  have BA : Below w.heap.size w wA := by rw [hA]; (repeat' (first | (with_reducible exact Below.refl _ _) | (with_reducible assumption) | (with_reducible refine Below.alloc ?_ ?_ _) | (with_reducible refine Below.drew ?_) | (with_reducible refine below_drewN' ?_ _) | (with_reducible refine Below.setCell ?_ ?_ _) | (with_reducible exact Nat.le_refl _) | omega | (simp; done) | (simp; omega)))
  have zA : wA.heap.size = w.heap.size + 2 := by rw [hA]; simp
  have HR := Lib.hid hR
  have HRR := Lib.hid hr
  have HL := Lib.hid hl
  have HZ := Lib.hid zA
  clear hR hr hl zA
  go_enter Tryz.func32, Tryz.ntmps32
  go_wp2_with fail
  rw [← hA]
  clear hA
  go_loopw [4] (fun q wr => ∃ (k : Nat) (ga : Option Addr) (gc : Nat), k ≤ l.length ∧ q = .int .i64 k ∧ Blk wr w.heap.size 79 rcZ11 ∧ Blk wr (w.heap.size + 1) 79 #[.int .u64 0, .string ⟨#[]⟩, .slice ga k gc] ∧ wr.ownsRow (w.heap.size + 2) 81 1 (.slice ga k gc) k ((l.take k).map (.int .u32)) ∧ Below w.heap.size w wr ∧ w.heap.size + 2 ≤ wr.heap.size) (fun q _ => l.length - (RowKit.intOf q).toNat)
  case atStart => exact ⟨0, none, 0, Nat.zero_le _, rfl, bR, bX, World.ownsRow_nil _ _ _ _, BA, by rw [HZ.out]; exact Nat.le_refl _⟩
  case round =>
    obtain ⟨k, ga, gc, hk, rfl, hbR, hbX, hown, hB, hsz⟩ := hrel
    clear bR bX BA
    by_cases hlt : k < l.length
    · have d1 : (k : Int) < l.length := by omega
      obtain ⟨ab, ao, rfl, hab, hc⟩ := HR.out.at_ (k := k) (by simpa using hlt)
      rw [List.getElem_map] at hc
      have hs1 := Lib.hid (take_map hlt (Value.int .u32))
      have hx := HRR.out _ (List.getElem_mem hlt)
      generalize l[k] = x at hc hs1 hx
      have e2 : IntKind.u32.wrap x = x := by rw [IntKind.wrap_u32]; omega
      have hsc : ∀ W, Below w.heap.size w W → Blk W (w.heap.size + 1) 79 #[.int .u64 0, .string ⟨#[]⟩, .slice ga k gc] → W.cell? ⟨w.heap.size + 1, 2, none⟩ = some (.slice ga k gc) ∧ W.cell? ⟨ab, ao + k, none⟩ = some (.int .i64 x) := fun W hW hb => ⟨(hb.cells 2).trans rfl, (hW.cell (p := ⟨ab, ao + k, none⟩) hab).trans hc⟩
      have HSC := Lib.hid hsc
      have hl1 := HL.out
      obtain ⟨X, hX⟩ : ∃ X, X = (wr.alloc (.cells #[.int .u32 x] 81)).drew := ⟨_, rfl⟩
      have bXX : Below wr.heap.size wr X := by rw [hX]; exact ((Below.refl _ _).alloc (Nat.le_refl _) _).drew
      have rX : Reads X (some ⟨wr.heap.size, 0, none⟩) [.int .u32 x] := by
        rw [hX]
        exact .inr ⟨wr.heap.size, 0, rfl, by simp, fun j u hu => by
          rw [Nat.zero_add]
          exact ((Blk.new wr 81 #[.int .u32 x]).drew.cells j).trans (by simpa using hu)⟩
      have hoX := own_below hown bXX
      have hbXX := hbX.belowAll bXX
      have hbRX := hbR.belowAll bXX
      have BX := hB.trans (bXX.mono hB.size)
      have hszX : w.heap.size + 2 ≤ X.heap.size := Nat.le_trans hsz bXX.size
      have HX := Lib.hid hX
      have HB := Lib.hid (And.intro hB hbX)
      clear hc hx hsc hX hk hbR hbX hown hB bXX
      go_upto_region 5 with fail
      refine wp_region_mix [.take 0, .take 1, .take 2, .take 3, .take 4, .take 5, .take 6, .one 7, .one 8, .one 9, .one 10] 9 (fun W => W.cell? ⟨w.heap.size + 1, 2, none⟩ = some (.slice ga k gc) ∧ W.cell? ⟨ab, ao + k, none⟩ = some (.int .i64 x)) (by kernel_rfl) (by kernel_rfl) (fun _ _ _ _ _ h => h) (HSC.out _ HB.out.1.drew HB.out.2.drew) ?_
      simp only [List.map_cons, List.map_nil, Ms.fill, List.getD_cons_zero, List.getD_cons_succ]
      iterate 7 (refine mixT_take (by rfl) ?_ (fun w' hw' => ?_) ?_; rotate_left; (focus (go_simp; (try with_reducible rfl))); (try simp only [Act.put, List.setIfInBounds_toArray, List.set_cons_zero, List.set_cons_succ]))
      refine mixT_step (by rfl) fun K hK => ?_
      go_simp
      rw [← HX.out]
      refine hK _ _ (fun _ => HSC.out _ BX hbXX) ?_
      clear hK K
      refine mixT_step (by rfl) fun K hK => ?_
      refine wp_append_any (w := X) _ _ 77 rfl (w.heap.size + 2) 81 i0 (.int .u32 0) 4 Tryz.underlying77 hi hz0 hz1 hz2 rfl (.slice ga k gc) _ _ rfl hoX (some ⟨wr.heap.size, 0, none⟩) 1 1 [.int .u32 x] rfl rfl (fun h => by cases h) rX (by simp [Value.oneCell']) (by simp only [maxLen]; omega) (by omega) hszX ?_
      intro v' w4 hown' hgrow _
      have hfar : ∀ q, (Value.slice ga k gc).ownBlock = some q → w.heap.size + 2 ≤ q := fun q hq => (own_lt hoX q hq).1
      have hbX4 := hbXX.grown hgrow (fun e => by have := hfar _ e.symm; omega)
      have hbR4 := hbRX.grown hgrow (fun e => by have := hfar _ e.symm; omega)
      have B4 := BX.grown hgrow BX.size (fun q hq => by have := hfar q hq; omega)
      have hsz4 : w.heap.size + 2 ≤ w4.heap.size := Nat.le_trans hszX hgrow.size
      obtain ⟨av, cv, rfl⟩ := own_slice hown'
      refine hK _ _ (fun _ => HSC.out _ B4 hbX4) ?_
      clear hK K
      refine mixT_step (by rfl) fun K hK => ?_
      go_simp
      refine hK _ _ (fun h => absurd h (by decide)) ?_
      clear hK K
      have cX4 := hbX4.cells
      have lX4 := hbX4.lt
      have fX4 := hbX4.free
      refine mixT_step (by rfl) fun K hK => ?_
      go_simp
      refine hK _ _ (fun h => absurd h (by decide)) ?_
      clear hK K
      refine mixT_nil ?_
      have hbX5 := hbX4.set_ 2 (.slice av (k + 1) cv)
      have hbR5 := hbR4.far (p := ⟨w.heap.size + 1, 2, none⟩) (by show w.heap.size ≠ w.heap.size + 1; omega) (.slice av (k + 1) cv)
      have B5 := B4.setCell (p := ⟨w.heap.size + 1, 2, none⟩) (by show w.heap.size ≤ w.heap.size + 1; omega) (.slice av (k + 1) cv)
      have ho5 : (w4.setCell ⟨w.heap.size + 1, 2, none⟩ (.slice av (k + 1) cv)).ownsRow (w.heap.size + 2) 81 1 (.slice av (k + 1) cv) (k + 1) ((l.take (k + 1)).map (.int .u32)) := by
        rw [← hs1.out]
        exact ownsRow_setCell_below hown' (by show w.heap.size + 1 < w.heap.size + 2; omega) _
      have hsz5 : w.heap.size + 2 ≤ (w4.setCell ⟨w.heap.size + 1, 2, none⟩ (.slice av (k + 1) cv)).heap.size := by simpa using hsz4
      generalize w4.setCell ⟨w.heap.size + 1, 2, none⟩ (.slice av (k + 1) cv) = w5 at *
      clear cX4 lX4 fX4 hbX4 hbR4 B4 hown' hgrow hoX hbXX hbRX BX rX HX HB HSC
      go_wp2_with fail
      go_roundw
      case rel => exact ⟨k + 1, av, cv, by omega, by go_num, hbR5, hbX5, ho5, B5, hsz5⟩
      case measure => simp [RowKit.intOf]; omega
    · obtain rfl : k = l.length := by omega
      rw [List.take_length] at hown
      have cX := hbX.cells
      have lX := hbX.lt
      have cR := hbR.cells
      have lR := hbR.lt
      have fR := hbR.free
      have HO := Lib.hid hown
      clear hown
      go_wp2_with fail
      have bF := ((hbR.set_ 0 (.int .u64 0)).set_ 1 (.string ⟨#[]⟩)).set_ 2 (.slice ga l.length gc)
      have cF := bF.cells
      refine bodyPost_ret (v := .agg #[.int .u64 0, .string ⟨#[]⟩, .slice ga l.length gc]) (by simp [results, Tryz.results32, go_sem, cF]) rfl ?_
      refine ⟨ga, gc, rfl, own_base (ownsRow_setCell_below (ownsRow_setCell_below (ownsRow_setCell_below HO.out (by show w.heap.size < _; omega) _) (by show w.heap.size < _; omega) _) (by show w.heap.size < _; omega) _) (by omega), ((hB.setCell (p := ⟨w.heap.size, 0, none⟩) (Nat.le_refl _) _).setCell (p := ⟨w.heap.size, 1, none⟩) (Nat.le_refl _) _).setCell (p := ⟨w.heap.size, 2, none⟩) (Nat.le_refl _) _⟩
end Go.Proofs.YtjocnooekgnedaaGreatDoor
/- P11: InodesNone, walked. -/
namespace Go.Proofs.YtjocnooekgnedaaGreatDoor
open Go.RowKit Go.Maps

attribute [local go_sem] Oper.semAt_some

abbrev tx0 : Array Value := #[.pointer none, .int .i64 0, .int .i64 0, .int .i64 0, .int .i64 0, .int .i64 0, .int .i64 0, .int .i64 0, .int .i64 0, .int .i64 0, .int .i64 0, .int .i64 0, .slice none 0 0, .int .i64 0, .int .i64 0, .int .i64 0, .slice none 0 0, .map none, .bool false, .bool false, .bool false]

set_option maxRecDepth 100000 in
theorem wide_any (v : Ino) (A : Option Addr) (n c : Nat) (A2 : Option Addr) (n2 c2 : Nat) (w : World) :
    Calls Tryz.prog 10 #[.agg (inoC v (.slice A n c) (.slice A2 n2 c2))] w fun e w' => e = .returned (.bool (decide (100 < n) || decide (100 < n2))) ∧ Below w.heap.size w w' := by
  obtain ⟨wA, hA⟩ : ∃ wA, wA = w.alloc (.cells (inoC v (.slice A n c) (.slice A2 n2 c2)) 26) := ⟨_, rfl⟩
  have bV : Blk wA w.heap.size 26 (inoC v (.slice A n c) (.slice A2 n2 c2)) := by rw [hA]; exact Blk.new _ _ _
  have BA : Below w.heap.size w wA := by rw [hA]; exact (Below.refl _ _).alloc (Nat.le_refl _) _
  have c6 : wA.cell? ⟨w.heap.size, 6, none⟩ = some (.slice A n c) := (bV.cells 6).trans rfl
  have c7 : wA.cell? ⟨w.heap.size, 7, none⟩ = some (.slice A2 n2 c2) := (bV.cells 7).trans rfl
  have lV := bV.lt
  by_cases h1 : 100 < n
  · have d1 : (100 : Int) < n := by omega
    have e1 : (decide (100 < n) || decide (100 < n2)) = true := by simp [h1]
    rw [e1]
    clear h1 e1
    go_enter Tryz.func10, Tryz.ntmps10
    go_wp2_with fail
    rw [← hA]
    clear hA
    go_wp2_with fail
    go_ret
    exact ⟨rfl, BA⟩
  · by_cases h2 : 100 < n2
    · have d1 : ¬ (100 : Int) < n := by omega
      have d2 : (100 : Int) < n2 := by omega
      have e1 : (decide (100 < n) || decide (100 < n2)) = true := by simp [h2]
      rw [e1]
      clear h1 h2 e1
      go_enter Tryz.func10, Tryz.ntmps10
      go_wp2_with fail
      rw [← hA]
      clear hA
      go_wp2_with fail
      go_ret
      exact ⟨rfl, BA⟩
    · have d1 : ¬ (100 : Int) < n := by omega
      have d2 : ¬ (100 : Int) < n2 := by omega
      have e1 : (decide (100 < n) || decide (100 < n2)) = false := by simp [h1, h2]
      rw [e1]
      clear h1 h2 e1
      go_enter Tryz.func10, Tryz.ntmps10
      go_wp2_with fail
      rw [← hA]
      clear hA
      go_wp2_with fail
      go_ret
      exact ⟨rfl, BA⟩

set_option maxRecDepth 100000 in
set_option maxHeartbeats 4000000 in
theorem inodesNone_any (n : Int) (v : Ino) (A : Option Addr) (c : Nat) (A2 : Option Addr) (c2 : Nat) (w : World) (hH : HalfAt w) :
    Calls Tryz.prog 8 #[.int .i64 n, .agg (inoC v (.slice A v.blocks.length c) (.slice A2 v.attrs.length c2))] w fun e w' => e = .returned (.bool true) ∧ Below w.heap.size w w' := by
  have hp0 := hH.1
  have HH := Lib.hid hH
  obtain ⟨wA, hA⟩ : ∃ wA, wA = w.alloc (.cells (inoC v (.slice A v.blocks.length c) (.slice A2 v.attrs.length c2)) 26) := ⟨_, rfl⟩
  have bA : Blk wA w.heap.size 26 (inoC v (.slice A v.blocks.length c) (.slice A2 v.attrs.length c2)) := by rw [hA]; exact Blk.new _ _ _
  have BA : Below w.heap.size w wA := by rw [hA]; exact (Below.refl _ _).alloc (Nat.le_refl _) _
  have hwd := wide_any v A v.blocks.length c A2 v.attrs.length c2 wA
  have cA := bA.cells
  have lA := bA.lt
  clear hH
  go_enter Tryz.func8, Tryz.ntmps8
  go_wp2_with fail
  rw [← hA]
  clear hA
  go_wp2_with fail
  refine hwd.mono ?_
  rintro e w1 ⟨rfl, hb1⟩
  have b1 := bA.belowAll hb1
  have B1 := BA.trans (hb1.mono BA.size)
  clear hwd cA lA bA BA hb1
  generalize (decide (100 < v.blocks.length) || decide (100 < v.attrs.length)) = wd
  cases wd
  rotate_left
  · have hs := shown11_any w1 (HH.out.below B1 hp0)
    go_wp2_with fail
    refine hs.mono ?_
    rintro e w2 ⟨rfl, hb2⟩
    go_wp2_with fail
    go_ret
    exact ⟨rfl, B1.trans (hb2.mono B1.size)⟩
  have hsm := small11_any w1
  go_wp2_with fail
  refine hsm.mono ?_
  rintro e w2 ⟨rfl, hb2⟩
  have B2 := B1.trans (hb2.mono B1.size)
  have b2 := b1.belowAll hb2
  have hbg := begun11_fresh 64 8 10 rgSm w2 (HH.out.below B2 hp0)
  clear hsm hb2 b1 B1
  go_wp2_with fail
  refine hbg.mono ?_
  rintro e w3 ⟨D, T, F, Bd, y, rfl, -, htd, hb3, hFl, -⟩
  have B3 := B2.trans (hb3.mono B2.size)
  have b3 := b2.belowAll hb3
  have hT : T ∈ F := by obtain ⟨M, wv, nv, bT, hT, -⟩ := htd.tx.mem; exact hT
  have hT2 := hFl T hT
  have hst : StE (w3.setCell ⟨T, 20, none⟩ (.bool true)) (.pointer (some ⟨T, 0, none⟩)) 9 := htd.tx.ended.st
  have l2 := b2.lt
  have b4 : Blk (w3.setCell ⟨T, 20, none⟩ (.bool true)) w.heap.size 26 (inoC v (.slice A v.blocks.length c) (.slice A2 v.attrs.length c2)) := b3.far (p := ⟨T, 20, none⟩) (by show w.heap.size ≠ T; omega) _
  have B4 : Below w.heap.size w (w3.setCell ⟨T, 20, none⟩ (.bool true)) := B3.setCell (p := ⟨T, 20, none⟩) (by show w.heap.size ≤ T; have := B2.size; omega) _
  have hab := abort_tx T F D (freeTx 64 8 10) w3 htd.tx rfl
  clear hbg htd hb3 hFl b3 B3 b2 B2 hT hT2 l2
  go_wp2_with fail
  refine hab.mono ?_
  rintro e w4 ⟨rfl, hw4⟩
  rw [← hw4] at hst b4 B4
  clear hab hw4
  go_wp2_with fail
  go_loopw [8] (fun q wr => ∃ k : Nat, k ≤ 3 ∧ q = .int .i64 k ∧ Below w.heap.size w wr ∧ Blk wr w.heap.size 26 (inoC v (.slice A v.blocks.length c) (.slice A2 v.attrs.length c2)) ∧ StE wr (.pointer (some ⟨T, 0, none⟩)) 9) (fun q _ => 3 - (RowKit.intOf q).toNat)
  case atStart => exact ⟨0, by omega, rfl, B4, b4, hst⟩
  case round =>
    obtain ⟨k, hk, rfl, hB, hb, hs⟩ := hrel
    clear hst b4 B4
    by_cases hlt : k < 3
    · have d0 : (k : Int) < 3 := by omega
      go_upto_if 39 with fail
      go_cut [9, 10] from 33 to 81 (fun s9 s10 wx => wx = wr ∧ ∃ (tv : Value) (E : Int), tv = s9 ∧ s10 = .int .i64 E ∧ E ≠ 0 ∧ StE wr tv E)
      case first =>
        by_cases h0 : k = 0
        · have d1 : ((k : Int) == 0) = true := by simp; omega
          go_wp2_with fail
          go_meet
          case rel => exact ⟨rfl, _, _, rfl, rfl, by decide, .inl ⟨rfl, rfl⟩⟩
        · have d1 : ((k : Int) == 0) = false := by simp; omega
          go_wp2_with fail
          go_meet
          case rel => exact ⟨rfl, _, _, rfl, rfl, by decide, hs⟩
      case rest =>
        obtain ⟨hwx, tv, E, rfl, rfl, hE, hst⟩ := hcut
        replace hwx := hwx.symm
        subst hwx
        go_upto_if 41 with fail
        go_cut [9, 10] from 33 to 81 (fun s9 s10 wx => ∃ (tv : Value) (E : Int), tv = s9 ∧ s10 = .int .i64 E ∧ E ≠ 0 ∧ StE wx tv E ∧ Below wr.heap.size wr wx)
        case first =>
          by_cases h0 : k = 1
          · have d1 : ((k : Int) == 1) = true := by simp; omega
            go_wp2_with fail
            go_meet
            case rel => exact ⟨_, _, rfl, rfl, by decide, .inr ⟨_, tx0, rfl, Blk.new _ _ _, .inl ⟨rfl, rfl⟩⟩, (Below.refl _ _).alloc (Nat.le_refl _) _⟩
          · have d1 : ((k : Int) == 1) = false := by simp; omega
            go_wp2_with fail
            go_meet
            case rel => exact ⟨_, _, rfl, rfl, hE, hst, Below.refl _ _⟩
        case rest =>
          obtain ⟨tv2, E2, rfl, rfl, hE2, hst2, hb2⟩ := hcut
          have HB2 := hB.trans (hb2.mono hB.size)
          have bb2 := hb.belowAll hb2
          have hs2 := hs.below hb2
          clear hst hE hb hB hs hb2
          have hg := Get_bad tv2 E2 n wc hst2 hE2
          go_wp2_with fail
          refine hg.mono ?_
          rintro e w5 ⟨bv, av, rfl, hob, hoa, hb5⟩
          obtain ⟨Ab, cb, rfl⟩ := own_slice hob
          obtain ⟨Aa, ca, rfl⟩ := own_slice hoa
          simp only
          obtain ⟨w6, hw6⟩ : ∃ W, W = w5.alloc (.cells (inoC ino0 (.slice Ab ino0.blocks.length cb) (.slice Aa ino0.attrs.length ca)) 26) := ⟨_, rfl⟩
          have b56 : Below w5.heap.size w5 w6 := by rw [hw6]; exact (Below.refl _ _).alloc (Nat.le_refl _) _
          have hb6 := hb5.trans (b56.mono hb5.size)
          have hst6 := hst2.below hb6
          have HB6 := HB2.trans (hb6.mono HB2.size)
          have bb6 := bb2.belowAll hb6
          have hs6 := hs2.below hb6
          have HW6 := Lib.hid hw6
          clear hg hb5 b56 hw6 hst2 HB2 bb2 hs2 hb6 hob hoa
          go_upto_region 15 with fail
          have e6 := HW6.out.symm
          simp only [inoC] at e6
          rw [e6]
          clear e6
          have cB := bb6.cells
          have lB := bb6.lt
          have hal := Alloc_bad tv2 E2 v A c A2 c2 w6 hst6 hE2
          go_wp2_with fail
          refine hal.mono ?_
          rintro e w7 ⟨rfl, hb7⟩
          have hst7 := hst6.below hb7
          have HB7 := HB6.trans (hb7.mono HB6.size)
          have bb7 := bb6.belowAll hb7
          have hs7 := hs6.below hb7
          have hall := All_bad tv2 E2 w7 hst7 hE2
          clear hal hb7 hst6 HB6 bb6 hs6 cB lB HW6
          go_wp2_with fail
          refine hall.mono ?_
          rintro e w8 ⟨rfl, hb8⟩
          have hst8 := hst7.below hb8
          have HB8 := HB7.trans (hb8.mono HB7.size)
          have bb8 := bb7.belowAll hb8
          have hs8 := hs7.below hb8
          have cB := bb8.cells
          have lB := bb8.lt
          have hEE : (E2 != E2) = false := by simp
          have hput := Put_bad tv2 E2 n (inoC v (.slice A v.blocks.length c) (.slice A2 v.attrs.length c2)) rfl w8 hst8 hE2
          clear hall hb8 hst7 HB7 bb7 hs7
          go_wp2_with fail
          refine hput.mono ?_
          rintro e w9 ⟨rfl, hb9⟩
          have HB9 := HB8.trans (hb9.mono HB8.size)
          have bb9 := bb8.belowAll hb9
          have hs9 := hs8.below hb9
          clear hput hb9 hst8 HB8 bb8 hs8 cB lB
          go_wp2_with fail
          go_roundw
          case rel => exact ⟨k + 1, by omega, by go_num, HB9, bb9, hs9⟩
          case measure => simp [RowKit.intOf]; omega
    · obtain rfl : k = 3 := by omega
      have hs2 := shown11_any wr (HH.out.below hB hp0)
      go_wp2_with fail
      refine hs2.mono ?_
      rintro e w5 ⟨rfl, hb5⟩
      go_wp2_with fail
      go_ret
      exact ⟨rfl, hB.trans (hb5.mono hB.size)⟩
end Go.Proofs.YtjocnooekgnedaaGreatDoor
/- Layer 11: the reference's Encode; InodesChecks, walked. -/
namespace Go.Proofs.YtjocnooekgnedaaGreatDoor
open Go.RowKit Go.Maps

attribute [local go_sem] Oper.semAt_some

set_option maxRecDepth 100000 in
set_option maxHeartbeats 8000000 in
theorem rencode11_any (s j i : Int) (v : Ino) (A : Option Addr) (c : Nat) (A2 : Option Addr) (c2 : Nat) (w : World) (h : InoIn w v A c A2 c2) :
    Calls Tryz.prog 13 #[.agg #[.int .i64 s, .int .i64 j, .int .i64 i], .agg (inoC v (.slice A v.blocks.length c) (.slice A2 v.attrs.length c2))] w (InoEncPost s j i v w) := by
  obtain ⟨wA, hA⟩ : ∃ wA, wA = (w.alloc (.cells #[.int .i64 s, .int .i64 j, .int .i64 i] 23)).alloc (.cells (inoC v (.slice A v.blocks.length c) (.slice A2 v.attrs.length c2)) 26) := ⟨_, rfl⟩
  have bL : Blk wA w.heap.size 23 #[.int .i64 s, .int .i64 j, .int .i64 i] := by rw [hA]; exact (by (repeat' (first | (with_reducible assumption) | exact Blk.new' (by simp) | refine Blk.alloc ?_ _)))
  have bX : Blk wA (w.heap.size + 1) 26 (inoC v (.slice A v.blocks.length c) (.slice A2 v.attrs.length c2)) := by rw [hA]; exact (by (repeat' (first | (with_reducible assumption) | exact Blk.new' (by simp) | refine Blk.alloc ?_ _)))
  have BA : Below w.heap.size w wA := by rw [hA]; (repeat' (first | (with_reducible exact Below.refl _ _) | (with_reducible assumption) | (with_reducible refine Below.alloc ?_ ?_ _) | (with_reducible refine Below.drew ?_) | (with_reducible refine below_drewN' ?_ _) | (with_reducible refine Below.setCell ?_ ?_ _) | (with_reducible exact Nat.le_refl _) | omega | (simp; done) | (simp; omega)))
  have hck := rcheck_any s j i v A c A2 c2 wA (h.below BA)
  have HV := Lib.hid h
  have cL := bL.cells
  have lL := bL.lt
  have cX := bX.cells
  have lX := bX.lt
  clear h
  go_enter Tryz.func13, Tryz.ntmps13
  go_wp2_with fail
  rw [← hA]
  clear hA
  go_wp2_with fail
  refine hck.mono ?_
  rintro e w1 ⟨rfl, hb1⟩
  have B1 := BA.trans (hb1.mono BA.size)
  have bX1 := bX.belowAll hb1
  clear hck cL lL cX lX bL bX BA hb1
  by_cases hE : inoE s j i v = 0
  rotate_left
  · as_aux_lemma =>
      have d1 : (inoE s j i v != 0) = true := by simpa using hE
      have HE := Lib.hid hE
      clear hE
      go_wp2_with fail
      go_ret2
      exact ⟨none, 0, 0, rfl, B1, fun h => absurd h HE.out, fun _ => rfl, Nat.le_refl _⟩
  have hk := inoE_ok.1 hE
  have hsm := hk.small
  have HE := Lib.hid hE
  have hkb : (0 ≤ v.kind ∧ v.kind ≤ 4) ∧ (0 ≤ v.links ∧ v.links ≤ 120) ∧ (0 ≤ v.size ∧ v.size ≤ 384) ∧ (0 ≤ v.major ∧ v.major ≤ 255) ∧ (0 ≤ v.minor ∧ v.minor ≤ 255) ∧ (0 ≤ v.parent ∧ v.parent ≤ 60) := ⟨hk.kind, hsm.2.2.1, hsm.2.2.2.1, hsm.2.2.2.2.1, hsm.2.2.2.2.2.1, hsm.2.2.2.2.2.2⟩
  have hlb : v.blocks.length ≤ 8 ∧ v.attrs.length ≤ 3 := ⟨hsm.1, hsm.2.1⟩
  have hrb : ∀ n ∈ v.all, 0 ≤ n ∧ n < 4294967296 := fun n hn => by have := hk.rng n hn; have := rgB_bds s j i; omega
  have HKB := Lib.hid hkb
  have HLB := Lib.hid hlb
  have HRB := Lib.hid hrb
  have hS : ∀ V, Below w1.heap.size w1 V → (fun W => W.cell? ⟨w.heap.size + 1, 0, none⟩ = some (.int .i64 v.kind) ∧ W.cell? ⟨w.heap.size + 1, 1, none⟩ = some (.int .i64 v.links) ∧ W.cell? ⟨w.heap.size + 1, 2, none⟩ = some (.int .i64 v.size) ∧ W.cell? ⟨w.heap.size + 1, 3, none⟩ = some (.int .i64 v.major) ∧ W.cell? ⟨w.heap.size + 1, 4, none⟩ = some (.int .i64 v.minor) ∧ W.cell? ⟨w.heap.size + 1, 5, none⟩ = some (.int .i64 v.parent) ∧ W.cell? ⟨w.heap.size + 1, 6, none⟩ = some (.slice A v.blocks.length c) ∧ W.cell? ⟨w.heap.size + 1, 7, none⟩ = some (.slice A2 v.attrs.length c2)) V := fun V hV => by
    have b := bX1.belowAll hV
    exact ⟨(b.cells 0).trans rfl, (b.cells 1).trans rfl, (b.cells 2).trans rfl, (b.cells 3).trans rfl, (b.cells 4).trans rfl, (b.cells 5).trans rfl, (b.cells 6).trans rfl, (b.cells 7).trans rfl⟩
  have HS := Lib.hid hS
  rw [hE]
  clear hE hk hsm hkb hlb hrb hS bX1
  go_upto_region 4 with fail
  refine wp_region_mix [.take 0, .take 1, .take 3, .take 4, .take 6, .take 7, .take 9, .take 10, .take 12, .take 13, .take 15, .take 16, .take 18, .take 19, .take 21, .take 22, .one 2, .one 5, .one 8, .one 11, .one 14, .one 17, .one 20, .one 23, .one 24, .one 25, .take 26, .take 27, .take 28, .take 29] 30 (fun W => W.cell? ⟨w.heap.size + 1, 0, none⟩ = some (.int .i64 v.kind) ∧ W.cell? ⟨w.heap.size + 1, 1, none⟩ = some (.int .i64 v.links) ∧ W.cell? ⟨w.heap.size + 1, 2, none⟩ = some (.int .i64 v.size) ∧ W.cell? ⟨w.heap.size + 1, 3, none⟩ = some (.int .i64 v.major) ∧ W.cell? ⟨w.heap.size + 1, 4, none⟩ = some (.int .i64 v.minor) ∧ W.cell? ⟨w.heap.size + 1, 5, none⟩ = some (.int .i64 v.parent) ∧ W.cell? ⟨w.heap.size + 1, 6, none⟩ = some (.slice A v.blocks.length c) ∧ W.cell? ⟨w.heap.size + 1, 7, none⟩ = some (.slice A2 v.attrs.length c2)) (by kernel_rfl) (by kernel_rfl) (fun _ _ _ _ _ h => h) (HS.out _ (Below.refl _ _).drew) ?_
  simp only [List.map_cons, List.map_nil, Ms.fill, List.getD_cons_zero, List.getD_cons_succ]
  iterate 16 (refine mixT_take (by rfl) ?_ (fun w' hw' => ?_) ?_; rotate_left; (focus (go_simp; (try with_reducible rfl))); (try simp only [Act.put, List.setIfInBounds_toArray, List.set_cons_zero, List.set_cons_succ]))
  have D0 : Below w1.heap.size w1 w1.drew := (Below.refl _ _).drew
  refine mixT_step (by rfl) fun K hK => ?_
  go_simp
  refine (num11_any v.kind (by have := HKB.out; omega) w1.drew).mono ?_
  rintro e y1 ⟨rfl, hb_1⟩
  have D1 : Below w1.heap.size w1 y1 := D0.trans (hb_1.mono D0.size)
  refine hK _ _ (fun _ => HS.out _ D1) ?_
  clear hK K hb_1
  refine mixT_step (by rfl) fun K hK => ?_
  go_simp
  refine (num11_any v.links (by have := HKB.out; omega) y1).mono ?_
  rintro e y2 ⟨rfl, hb_2⟩
  have D2 : Below w1.heap.size w1 y2 := D1.trans (hb_2.mono D1.size)
  refine hK _ _ (fun _ => HS.out _ D2) ?_
  clear hK K hb_2
  refine mixT_step (by rfl) fun K hK => ?_
  go_simp
  refine (num11_any v.size (by have := HKB.out; omega) y2).mono ?_
  rintro e y3 ⟨rfl, hb_3⟩
  have D3 : Below w1.heap.size w1 y3 := D2.trans (hb_3.mono D2.size)
  refine hK _ _ (fun _ => HS.out _ D3) ?_
  clear hK K hb_3
  refine mixT_step (by rfl) fun K hK => ?_
  go_simp
  refine (num11_any v.major (by have := HKB.out; omega) y3).mono ?_
  rintro e y4 ⟨rfl, hb_4⟩
  have D4 : Below w1.heap.size w1 y4 := D3.trans (hb_4.mono D3.size)
  refine hK _ _ (fun _ => HS.out _ D4) ?_
  clear hK K hb_4
  refine mixT_step (by rfl) fun K hK => ?_
  go_simp
  refine (num11_any v.minor (by have := HKB.out; omega) y4).mono ?_
  rintro e y5 ⟨rfl, hb_5⟩
  have D5 : Below w1.heap.size w1 y5 := D4.trans (hb_5.mono D4.size)
  refine hK _ _ (fun _ => HS.out _ D5) ?_
  clear hK K hb_5
  refine mixT_step (by rfl) fun K hK => ?_
  go_simp
  refine (num11_any v.parent (by have := HKB.out; omega) y5).mono ?_
  rintro e y6 ⟨rfl, hb_6⟩
  have D6 : Below w1.heap.size w1 y6 := D5.trans (hb_6.mono D5.size)
  refine hK _ _ (fun _ => HS.out _ D6) ?_
  clear hK K hb_6
  refine mixT_step (by rfl) fun K hK => ?_
  go_simp
  refine (list11_any v.blocks A c y6 (HV.out.r1.below (B1.trans (D6.mono B1.size))) (by have := HLB.out; omega) (fun n hn => HRB.out n (List.mem_append_left _ hn))).mono ?_
  rintro e y7 ⟨P6, p6, rfl, ho6, hb7⟩
  have D7 : Below w1.heap.size w1 y7 := D6.trans (hb7.mono D6.size)
  refine hK _ _ (fun _ => HS.out _ D7) ?_
  clear hK K
  refine mixT_step (by rfl) fun K hK => ?_
  go_simp
  refine (list11_any v.attrs A2 c2 y7 (HV.out.r2.below (B1.trans (D7.mono B1.size))) (by have := HLB.out; omega) (fun n hn => HRB.out n (List.mem_append_right _ hn))).mono ?_
  rintro e y8 ⟨P7, p7, rfl, ho7, hb8⟩
  have D8 : Below w1.heap.size w1 y8 := D7.trans (hb8.mono D7.size)
  refine hK _ _ (fun _ => HS.out _ D8) ?_
  clear hK K
  obtain ⟨X, hX⟩ : ∃ X, X = y8.alloc (.cells (rcC v (.slice P6 v.blocks.length p6) (.slice P7 v.attrs.length p7)) 79) := ⟨_, rfl⟩
  have bB : Blk X y8.heap.size 79 (rcC v (.slice P6 v.blocks.length p6) (.slice P7 v.attrs.length p7)) := by rw [hX]; exact Blk.new _ _ _
  have b8X : Below y8.heap.size y8 X := by rw [hX]; exact (Below.refl _ _).alloc (Nat.le_refl _) _
  have D9 : Below w1.heap.size w1 X := D8.trans (b8X.mono D8.size)
  have hX2 : y8.alloc (.cells (rcN v.kind ++ rcN v.links ++ rcN v.size ++ rcN v.major ++ rcN v.minor ++ rcN v.parent ++ rcL (.slice P6 v.blocks.length p6) ++ rcL (.slice P7 v.attrs.length p7)).toArray 79) = X := hX.symm
  simp only [List.cons_append, List.nil_append] at hX2
  have HX := Lib.hid hX2
  clear hX hX2
  refine mixT_step (by rfl) fun K hK => ?_
  go_simp
  rw [HX.out]
  refine hK _ _ (fun _ => HS.out _ D9) ?_
  clear hK K
  have hre := rencode5_form v HKB.out HLB.out HRB.out y8.heap.size P6 p6 P7 p7 X bB ((Reads.of_own ho6).below (hb8.trans (b8X.mono hb8.size))) ((Reads.of_own ho7).below b8X)
  refine mixT_step (by rfl) fun K hK => ?_
  go_simp
  refine hre.mono ?_
  rintro e y9 ⟨Ae, ce, rfl, hb9, hre9, hce⟩
  have D10 : Below w1.heap.size w1 y9 := D9.trans (hb9.mono D9.size)
  refine hK _ _ (fun _ => HS.out _ D10) ?_
  clear hK K
  iterate 4 (refine mixT_take (by rfl) ?_ (fun w' hw' => ?_) ?_; rotate_left; (focus (go_simp; (try with_reducible rfl))); (try simp only [Act.put, List.setIfInBounds_toArray, List.set_cons_zero, List.set_cons_succ]))
  refine mixT_nil ?_
  go_wp2_with fail
  go_ret2
  exact ⟨Ae, _, ce, by rw [HE.out]; rfl, B1.trans (D10.mono B1.size), fun _ => ⟨rfl, hre9⟩, fun h => absurd HE.out h, hce⟩
end Go.Proofs.YtjocnooekgnedaaGreatDoor
/- P11.1, P11.2: InodesChecks, walked. -/
namespace Go.Proofs.YtjocnooekgnedaaGreatDoor
open Go.RowKit Go.Maps

attribute [local go_sem] Oper.semAt_some

/-- What Encode answers, with an error or not. -/
def encOr (s j i : Int) (v : Ino) : List Int := if inoE s j i v = 0 then encI v else []
theorem encOr_of {s j i : Int} {v : Ino} {W : World} {B : Option Addr} {n : Nat} (h1 : inoE s j i v = 0 → n = (encI v).length ∧ Reads W B ((encI v).map (.int .u8))) (h2 : inoE s j i v ≠ 0 → n = 0) :
    n = (encOr s j i v).length ∧ Reads W B ((encOr s j i v).map (.int .u8)) := by
  unfold encOr
  by_cases h : inoE s j i v = 0
  · rw [if_pos h]; exact h1 h
  · rw [if_neg h]; exact ⟨h2 h, .inl rfl⟩
set_option maxRecDepth 100000 in
set_option maxHeartbeats 8000000 in
theorem inodesChecks_any (s j i : Int) (v : Ino) (A : Option Addr) (c : Nat) (A2 : Option Addr) (c2 : Nat) (w : World) (hH : HalfAt w) (hv1 : Reads w A (v.blocks.map (.int .i64))) (hv2 : Reads w A2 (v.attrs.map (.int .i64))) :
    Calls Tryz.prog 3 #[.agg #[.int .i64 s, .int .i64 j, .int .i64 i], .agg (inoC v (.slice A v.blocks.length c) (.slice A2 v.attrs.length c2))] w fun e w' => e = .returned (.bool true) ∧ Below w.heap.size w w' := by
  have hp0 := hH.1
  have HH := Lib.hid hH
  have HV := Lib.hid (And.intro hv1 hv2)
  obtain ⟨wA, hA⟩ : ∃ wA, wA = (w.alloc (.cells #[.int .i64 s, .int .i64 j, .int .i64 i] 23)).alloc (.cells (inoC v (.slice A v.blocks.length c) (.slice A2 v.attrs.length c2)) 26) := ⟨_, rfl⟩
  have bL : Blk wA w.heap.size 23 #[.int .i64 s, .int .i64 j, .int .i64 i] := by rw [hA]; exact (by (repeat' (first | (with_reducible assumption) | exact Blk.new' (by simp) | refine Blk.alloc ?_ _)))
  have bV : Blk wA (w.heap.size + 1) 26 (inoC v (.slice A v.blocks.length c) (.slice A2 v.attrs.length c2)) := by rw [hA]; exact (by (repeat' (first | (with_reducible assumption) | exact Blk.new' (by simp) | refine Blk.alloc ?_ _)))
  have BA : Below w.heap.size w wA := by rw [hA]; (repeat' (first | (with_reducible exact Below.refl _ _) | (with_reducible assumption) | (with_reducible refine Below.alloc ?_ ?_ _) | (with_reducible refine Below.drew ?_) | (with_reducible refine below_drewN' ?_ _) | (with_reducible refine Below.setCell ?_ ?_ _) | (with_reducible exact Nat.le_refl _) | omega | (simp; done) | (simp; omega)))
  have hwd := wide_any v A v.blocks.length c A2 v.attrs.length c2 wA
  have cA := bV.cells
  have lA := bV.lt
  clear hH hv1 hv2
  go_enter Tryz.func3, Tryz.ntmps3
  go_wp2_with fail
  rw [← hA]
  clear hA
  go_wp2_with fail
  refine hwd.mono ?_
  rintro e w1 ⟨rfl, hb1⟩
  have bL1 := bL.belowAll hb1
  have bV1 := bV.belowAll hb1
  have B1 := BA.trans (hb1.mono BA.size)
  clear hwd cA lA bV bL BA hb1
  have hshow : ∀ V, Below w.heap.size w V → Calls Tryz.prog 11 #[] V fun e w' => e = .returned (.bool true) ∧ Below V.heap.size V w' := fun V hV => shown11_any V (HH.out.below hV hp0)
  have HSH := Lib.hid hshow
  clear hshow
  obtain ⟨wd, hwd⟩ : ∃ wd, wd = (decide (100 < v.blocks.length) || decide (100 < v.attrs.length)) := ⟨_, rfl⟩
  rw [← hwd]
  cases wd
  rotate_left
  · as_aux_lemma =>
      have hs := HSH.out w1 B1
      clear hwd
      go_wp2_with fail
      refine hs.mono ?_
      rintro e w2 ⟨rfl, hb2⟩
      go_wp2_with fail
      go_ret
      exact ⟨rfl, B1.trans (hb2.mono B1.size)⟩
  have hsm : v.blocks.length ≤ 100 ∧ v.attrs.length ≤ 100 := by
    have := hwd.symm
    simp at this
    omega
  clear hwd
  have hin : ∀ V, Below w.heap.size w V → InoIn V v A c A2 c2 := fun V hV => ⟨HV.out.1.below hV, HV.out.2.below hV, by omega, by omega⟩
  have HIN := Lib.hid hin
  have hen := encode_ino s j i v A c A2 c2 w1 (hin w1 B1)
  have cL := bL1.cells
  have lL := bL1.lt
  have cV := bV1.cells
  have lV := bV1.lt
  clear hin hsm
  go_wp2_with fail
  refine hen.mono ?_
  rintro e w2 ⟨B1s, n, c3, rfl, hb2, hen1, hen2, -⟩
  obtain ⟨hn, hr1⟩ := encOr_of hen1 hen2
  have bL2 := bL1.belowAll hb2
  have bV2 := bV1.belowAll hb2
  have B2 := B1.trans (hb2.mono B1.size)
  have hren := rencode11_any s j i v A c A2 c2 w2 (HIN.out w2 B2)
  clear hen cL lL cV lV bL1 bV1 hb2 B1 hen1 hen2
  have cL := bL2.cells
  have lL := bL2.lt
  have cV := bV2.cells
  have lV := bV2.lt
  subst hn
  go_wp2_with fail
  refine hren.mono ?_
  rintro e w3 ⟨B2s, n, c4, rfl, hb3, hen1, hen2, -⟩
  obtain ⟨hn, hr2⟩ := encOr_of hen1 hen2
  subst hn
  have bL3 := bL2.belowAll hb3
  have bV3 := bV2.belowAll hb3
  have B3 := B2.trans (hb3.mono B2.size)
  have hr13 := hr1.below hb3
  generalize encOr s j i v = bs at *
  clear hren cL lL cV lV bL2 bV2 hb3 B2 hen1 hen2 hr1
  generalize B1s = B1 at *
  generalize B2s = B2 at *
  have hS : ∀ V, Below w3.heap.size w3 V → (fun W => W.cell? ⟨w.heap.size, 0, none⟩ = some (.int .i64 s) ∧ W.cell? ⟨w.heap.size, 1, none⟩ = some (.int .i64 j) ∧ W.cell? ⟨w.heap.size, 2, none⟩ = some (.int .i64 i) ∧ W.cell? ⟨w.heap.size + 1, 0, none⟩ = some (.int .i64 v.kind) ∧ W.cell? ⟨w.heap.size + 1, 1, none⟩ = some (.int .i64 v.links) ∧ W.cell? ⟨w.heap.size + 1, 2, none⟩ = some (.int .i64 v.size) ∧ W.cell? ⟨w.heap.size + 1, 3, none⟩ = some (.int .i64 v.major) ∧ W.cell? ⟨w.heap.size + 1, 4, none⟩ = some (.int .i64 v.minor) ∧ W.cell? ⟨w.heap.size + 1, 5, none⟩ = some (.int .i64 v.parent) ∧ W.cell? ⟨w.heap.size + 1, 6, none⟩ = some (.slice A v.blocks.length c) ∧ W.cell? ⟨w.heap.size + 1, 7, none⟩ = some (.slice A2 v.attrs.length c2) ∧ (convert 29 9 (.slice B1 bs.length c3)).run Tryz.prog W = .ok (.string (strOfNums bs)) W ∧ (convert 29 9 (.slice B2 bs.length c4)).run Tryz.prog W = .ok (.string (strOfNums bs)) W) V := fun V hV => by
    have bl := bL3.belowAll hV
    have bv := bV3.belowAll hV
    exact ⟨(bl.cells 0).trans rfl, (bl.cells 1).trans rfl, (bl.cells 2).trans rfl, (bv.cells 0).trans rfl, (bv.cells 1).trans rfl, (bv.cells 2).trans rfl, (bv.cells 3).trans rfl, (bv.cells 4).trans rfl, (bv.cells 5).trans rfl, (bv.cells 6).trans rfl, (bv.cells 7).trans rfl, conv_bytes B1 bs.length c3 bs rfl V (hr13.below hV), conv_bytes B2 bs.length c4 bs rfl V (hr2.below hV)⟩
  have HS := Lib.hid hS
  have d3 : (inoE s j i v == inoE s j i v) = true := by simp
  have hse : ((strOfNums bs).toList == (strOfNums bs).toList) = true := by simp
  clear hS bL3 bV3 hr13 hr2
  go_upto_region 5 with fail
  refine wp_region_mix [.take 0, .take 1, .take 3, .take 4, .one 2, .one 5, .take 6, .take 7, .take 8, .take 9, .take 10, .take 11, .take 12, .take 13, .take 14, .take 15, .take 16, .take 17, .take 18, .take 19, .one 20, .take 21, .take 22] 23 (fun W => W.cell? ⟨w.heap.size, 0, none⟩ = some (.int .i64 s) ∧ W.cell? ⟨w.heap.size, 1, none⟩ = some (.int .i64 j) ∧ W.cell? ⟨w.heap.size, 2, none⟩ = some (.int .i64 i) ∧ W.cell? ⟨w.heap.size + 1, 0, none⟩ = some (.int .i64 v.kind) ∧ W.cell? ⟨w.heap.size + 1, 1, none⟩ = some (.int .i64 v.links) ∧ W.cell? ⟨w.heap.size + 1, 2, none⟩ = some (.int .i64 v.size) ∧ W.cell? ⟨w.heap.size + 1, 3, none⟩ = some (.int .i64 v.major) ∧ W.cell? ⟨w.heap.size + 1, 4, none⟩ = some (.int .i64 v.minor) ∧ W.cell? ⟨w.heap.size + 1, 5, none⟩ = some (.int .i64 v.parent) ∧ W.cell? ⟨w.heap.size + 1, 6, none⟩ = some (.slice A v.blocks.length c) ∧ W.cell? ⟨w.heap.size + 1, 7, none⟩ = some (.slice A2 v.attrs.length c2) ∧ (convert 29 9 (.slice B1 bs.length c3)).run Tryz.prog W = .ok (.string (strOfNums bs)) W ∧ (convert 29 9 (.slice B2 bs.length c4)).run Tryz.prog W = .ok (.string (strOfNums bs)) W) (by kernel_rfl) (by kernel_rfl) (fun _ _ _ _ _ h => h) (HS.out _ (Below.refl _ _).drew) ?_
  simp only [List.map_cons, List.map_nil, Ms.fill, List.getD_cons_zero, List.getD_cons_succ]
  iterate 4 (refine mixT_take (by rfl) ?_ (fun w' hw' => ?_) ?_; rotate_left; (focus (go_simp; (try with_reducible rfl))); (try simp only [Act.put, List.setIfInBounds_toArray, List.set_cons_zero, List.set_cons_succ]))
  have D0 : Below w3.heap.size w3 w3.drew := (Below.refl _ _).drew
  refine mixT_step (by rfl) fun K hK => ?_
  go_simp
  refine (check_ino s j i v A c A2 c2 w3.drew (HIN.out _ B3.drew)).mono ?_
  rintro e y1 ⟨rfl, hb_1⟩
  have D1 := D0.trans (hb_1.mono D0.size)
  refine hK _ _ (fun _ => HS.out _ D1) ?_
  clear hK K hb_1
  refine mixT_step (by rfl) fun K hK => ?_
  go_simp
  refine (rcheck_any s j i v A c A2 c2 y1 (HIN.out _ (B3.trans (D1.mono B3.size)))).mono ?_
  rintro e y2 ⟨rfl, hb_2⟩
  have D2 := D1.trans (hb_2.mono D1.size)
  refine hK _ _ (fun _ => HS.out _ D2) ?_
  clear hK K hb_2
  iterate 14 (refine mixT_take (by rfl) ?_ (fun w' hw' => ?_) ?_; rotate_left; (focus (go_simp; (try with_reducible rfl))); (try simp only [Act.put, List.setIfInBounds_toArray, List.set_cons_zero, List.set_cons_succ]))
  refine mixT_step (by rfl) fun K hK => ?_
  go_simp
  refine (HSH.out y2 (B3.trans (D2.mono B3.size))).mono ?_
  rintro e y3 ⟨rfl, hb_3⟩
  have D3 := D2.trans (hb_3.mono D2.size)
  refine hK _ _ (fun _ => HS.out _ D3) ?_
  clear hK K hb_3
  iterate 2 (refine mixT_take (by rfl) ?_ (fun w' hw' => ?_) ?_; rotate_left; (focus (go_simp; (try with_reducible rfl))); (try simp only [Act.put, List.setIfInBounds_toArray, List.set_cons_zero, List.set_cons_succ]))
  refine mixT_nil ?_
  go_wp2_with fail
  go_ret
  exact ⟨rfl, B3.trans (D3.mono B3.size)⟩
end Go.Proofs.YtjocnooekgnedaaGreatDoor
/- P11.1, P11.2: InodesChecks: the row proved, and its tied card. -/
namespace Go.Proofs.YtjocnooekgnedaaGreatDoor
open Go.ChangeShapes Go.WideShapes Go.ChangeAt Go.RowKit Go.Joins Go.Deep

set_option maxRecDepth 100000 in
theorem inodesChecks_lifted (os : Os) (started : os.Started) (H : Type) (enc : TypeId × Value → H) :
    ReturnsInHanded {} Tryz.checked os 3 .any (fun w args => (Rows.inodesChecksSpec.pre enc Tryz.prog Tryz.f3 [] false w args ∧ laidMetH Tryz.prog half1 w) ∧ sizedMet enc Tryz.prog Tryz.f3 (OpenSpec.ofChange Rows.inodesChecksSpec) false w args)
      (Rows.inodesChecksSpec.post enc Tryz.prog Tryz.f3 false true false false) := by
  refine returnsInHanded_of_change_and (C := Tryz.checked) (X := fun w _ => laidMetH Tryz.prog half1 w) (fun _ _ _ hh h => h.of_heap hh) Tryz.own started (by kernel_rfl) Tryz.func3
    (ChangeSpec.witness_shaped (enc := enc) (C := Tryz.checked) (os := os) (X := fun w _ => laidMetH Tryz.prog half1 w) false (World.doorLaid Tryz.prog 400 os) #[.agg #[.int .i64 0, .int .i64 0, .int .i64 0], .agg #[.int .i64 0, .int .i64 0, .int .i64 0, .int .i64 0, .int .i64 0, .int .i64 0, .slice none 0 0, .slice none 0 0]] 8 rfl (World.shaped_of_RefB (by kernel_rfl) (by kernel_rfl)) (by kernel_rfl) (by kernel_rfl) (by kernel_rfl) (door_met os _)) ?_
  intro W base args ds gs before hval0 hW _ _ hL _
  have hval : ∀ (j : Nat) t v, Tryz.f3.params[j]? = some t → args[j]? = some v → Value.okWide Tryz.prog W .any base t v := hval0
  have hW' := hW
  obtain ⟨p, q, hA0, hV, rfl, hfz, hnd⟩ := hW
  have hA : DataW.TrodAll enc Tryz.prog W 0 (fun _ => true) true Tryz.f3.params.toList args.toList ds p := hA0
  rw [Tryz.params3] at hA hval
  obtain ⟨v0, v1, d0, d1, p0, p1, rfl, rfl, rfl, h0, h1⟩ := trodAll_two hA
  obtain ⟨rfl, rfl⟩ := trodVars_none hV
  have hH := half_of_laid hL
  have h0k := h0
  have h1k := h1
  clear hA0 hval0
  simp only [List.append_nil] at hW'
  have hlt0 : ∀ x ∈ p0, x.block < W.heap.size := fun x hx => by simpa using hW'.lt x (by simp [hx])
  have hlt1 : ∀ x ∈ p1, x.block < W.heap.size := fun x hx => by simpa using hW'.lt x (by simp [hx])
  obtain ⟨ls, lj, li, rfl, hws0, hwj0, hwi0⟩ := open_lay (hval 0 23 v0 rfl rfl) h0
  obtain ⟨a, rfl, hw1⟩ := open_ino (hval 1 26 v1 rfl rfl) h1
  refine (inodesChecks_any ls lj li a.v a.A a.c a.A2 a.c2 W hH hw1.r1 hw1.r2).mono fun e W' ⟨he, hnx⟩ => ?_
  subst he
  refine ⟨_, rfl, _, _, _, [], p0 ++ p1, [], hW', ?_, ?_, rfl, hnx.frame _, fun h => by cases h⟩
  · exact trodAll_mk1 (shut_bool Tryz.underlying4 true)
  · exact trodAll_mk2 (Below.trod Tryz.laidOut (by kernel_rfl) (of_decide_eq_true (by kernel_rfl)) h0k hnx hlt0) (Below.trod Tryz.laidOut (by kernel_rfl) (of_decide_eq_true (by kernel_rfl)) h1k hnx hlt1)

theorem inodesChecks_holds : Rows.InodesChecksSaid :=
  OpenClaim.holds_of_wide 3 Tryz.f3 rfl rfl rfl rfl rfl rfl rfl ⟨rfl, rfl, rfl, rfl, rfl⟩ rfl rfl rfl rfl rfl (by kernel_rfl) Tryz.func3 (by kernel_rfl)
    (of_decide_eq_true (by kernel_rfl)) (by unfold Func.isWrapper; first | (rw [if_pos (by decide +kernel)]; kernel_rfl) | (rw [if_neg (by decide +kernel)]; exact ⟨rfl, rfl⟩))
    (fun os started H enc _ => inodesChecks_lifted os started H enc)

theorem inodesChecksCard_holds : Rows.InodesChecksCardSaid :=
  Claim7.holds_tied_plain_at .later [] [.data] true (true, "e8801c0ce7bc0057fd6b75f0dfacb230b8a5f9fbd5fbfd86fb22cd5818a18b38") false
    inodesChecks_holds (fun _ h => by cases h) (by kernel_rfl) (fun _ h => by cases h) inodesChecks_row_tie rfl ⟨rfl, rfl⟩ (by kernel_rfl) rfl
    (fun f fn hf hfn => by
      obtain rfl : f = 3 := Option.some.inj ((show Tryz.prog.funcNamed "limewash/limewashlaw11.InodesChecks" = some 3 by kernel_rfl).symm.trans hf) |>.symm
      obtain rfl : fn = Tryz.f3 := (Option.some.inj (Tryz.func3.symm.trans hfn)).symm
      exact ⟨by kernel_rfl, fun j t ht => by
        rw [Tryz.params3] at ht
        have hm : t ∈ [23, 26] := by simpa using Array.mem_of_getElem? ht
        have hall : ([23, 26].all fun u => !Tryz.prog.wantsStandIn u) = true := by kernel_rfl
        exact (show Tryz.prog.wantsStandIn t = false by simpa using List.all_eq_true.1 hall t hm)⟩)
    (by kernel_rfl)

#print axioms inodesChecksCard_holds
end Go.Proofs.YtjocnooekgnedaaGreatDoor
