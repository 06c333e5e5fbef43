/- Parts of the proof, put together by program: LU, MF, MG, MH, MI, MJ, MK, LS, ML, MO, MP, X8, MQ, MR, MS, X7, MT, MU, MV. -/
import Derived.Test.YtjocnooekgnedaaGreatDoorPart50
import Derived.Test.YtjocnooekgnedaaGreatDoorPart34
import Derived.ProofKit
import Derived.OpenShut
import Derived.Test.YtjocnooekgnedaaGreatDoorPart36
import Derived.Test.YtjocnooekgnedaaGreatDoorPart49
import Derived.Deep.CutBlock
import Derived.Test.YtjocnooekgnedaaGreatDoorPart01
import Derived.Test.YtjocnooekgnedaaGreatDoorPart39
import Derived.BigQuiet
import Derived.Test.YtjocnooekgnedaaGreatDoorPart47
import Derived.Test.YtjocnooekgnedaaGreatDoorPart45
import Derived.Test.YtjocnooekgnedaaGreatDoorPart23
import Derived.Deep.CutRange
import Derived.Test.YtjocnooekgnedaaGreatDoorPart43
set_option linter.unusedVariables false
set_option linter.unusedSimpArgs false
/- Layer 11: arguments opened: a layout, an inode, a list of inodes with numbers. -/
namespace Go.Proofs.YtjocnooekgnedaaGreatDoor
open Go.ChangeShapes Go.WideShapes Go.ChangeAt Go.RowKit Go.Deep

theorem Tryz.cellsInt : Tryz.prog.cellsOf 3 = 1 := by kernel_rfl
theorem Tryz.cellsInts : Tryz.prog.cellsOf 24 = 1 := by kernel_rfl
theorem Tryz.cellsU8 : Tryz.prog.cellsOf 5 = 1 := by kernel_rfl
theorem Tryz.cellsLayout : Tryz.prog.cellsOf 23 = 3 := by kernel_rfl
theorem Tryz.cellsNode : Tryz.prog.cellsOf 26 = 8 := by kernel_rfl
theorem Tryz.cellsTwo : Tryz.prog.cellsOf 69 = 9 := by kernel_rfl
theorem wf_u8_iff {f : Int} (h : (Lit.int .u8 f).wf = true) : 0 ≤ f ∧ f ≤ 255 := by
  simp [Lit.wf, IntKind.min, IntKind.max, IntKind.bits, IntKind.signed] at h; omega
theorem wf_u64_iff {f : Int} (h : (Lit.int .u64 f).wf = true) : 0 ≤ f ∧ f < 18446744073709551616 := by
  simp [Lit.wf, IntKind.min, IntKind.max, IntKind.bits, IntKind.signed] at h; omega
theorem wf_i64_iff {f : Int} (h : (Lit.int .i64 f).wf = true) : -9223372036854775808 ≤ f ∧ f ≤ 9223372036854775807 := by
  simp [Lit.wf, IntKind.min, IntKind.max, IntKind.bits, IntKind.signed] at h; omega

/-- An inode as it came in. -/
structure InoV where
  v : Ino
  A : Option Addr
  c : Nat
  A2 : Option Addr
  c2 : Nat
def inoL (a : InoV) : List Value := (inoC a.v (.slice a.A a.v.blocks.length a.c) (.slice a.A2 a.v.attrs.length a.c2)).toList
structure InoVOk (W : World) (a : InoV) : Prop where
  r1 : Reads W a.A (a.v.blocks.map (.int .i64))
  r2 : Reads W a.A2 (a.v.attrs.map (.int .i64))
  n1 : a.v.blocks.length ≤ maxLen
  n2 : a.v.attrs.length ≤ maxLen
theorem InoVOk.in_ {W : World} {a : InoV} (h : InoVOk W a) (h1 : a.v.blocks.length ≤ 1000) (h2 : a.v.attrs.length ≤ 1000) : InoIn W a.v a.A a.c a.A2 a.c2 := ⟨h.r1, h.r2, h1, h2⟩

section
variable {H : Type} {enc : TypeId × Value → H} {W : World}
set_option maxRecDepth 100000 in
theorem open_ints' {fuel : Nat} {v : Value} {x : DataW H × List MemPlace} (h : DataW.trod enc Tryz.prog W 0 (fun _ => true) true fuel 24 [v] = some x) :
    ∃ (A : Option Addr) (n c : Nat) (xs : List Int), v = .slice A n c ∧ xs.length = n ∧ Reads W A (xs.map (Value.int .i64)) ∧ n ≤ c ∧ c ≤ maxLen ∧ (A = none → n = 0 ∧ c = 0) :=
  open_cells (Value.int .i64) Tryz.underlying24 Tryz.cellsInt (fun n cs x hx => by obtain ⟨b, rfl, _⟩ := DataW.trod_int Tryz.underlying3 hx; exact ⟨b, rfl⟩) h

set_option maxRecDepth 100000 in
/-- An inode as its cells. -/
theorem open_ino_cells {fuel : Nat} {cs : List Value} (hsz : cs.length = 8) {x : DataW H × List MemPlace} (h : DataW.trod enc Tryz.prog W 0 (fun _ => true) true fuel 26 cs = some x) :
    ∃ a : InoV, cs = inoL a ∧ InoVOk W a := by
  match cs, hsz with
  | [c0, c1, c2, c3, c4, c5, c6, c7], _ =>
    obtain ⟨xs, n, _, _, _, hlen, hg⟩ := DataW.trod_struct Tryz.underlying26 h
    have g0 : DataW.trod enc Tryz.prog W 0 (fun _ => true) true n 3 [c0] = xs[0]? := by have := hg 0 _ rfl; simpa [Tryz.cellsInt, Value.cells] using this
    have g1 : DataW.trod enc Tryz.prog W 0 (fun _ => true) true n 3 [c1] = xs[1]? := by have := hg 1 _ rfl; simpa [Tryz.cellsInt, Value.cells] using this
    have g2 : DataW.trod enc Tryz.prog W 0 (fun _ => true) true n 3 [c2] = xs[2]? := by have := hg 2 _ rfl; simpa [Tryz.cellsInt, Value.cells] using this
    have g3 : DataW.trod enc Tryz.prog W 0 (fun _ => true) true n 3 [c3] = xs[3]? := by have := hg 3 _ rfl; simpa [Tryz.cellsInt, Value.cells] using this
    have g4 : DataW.trod enc Tryz.prog W 0 (fun _ => true) true n 3 [c4] = xs[4]? := by have := hg 4 _ rfl; simpa [Tryz.cellsInt, Value.cells] using this
    have g5 : DataW.trod enc Tryz.prog W 0 (fun _ => true) true n 3 [c5] = xs[5]? := by have := hg 5 _ rfl; simpa [Tryz.cellsInt, Value.cells] using this
    have g6 : DataW.trod enc Tryz.prog W 0 (fun _ => true) true n 24 [c6] = xs[6]? := by have := hg 6 _ rfl; simpa [Tryz.cellsInts, Value.cells] using this
    have g7 : DataW.trod enc Tryz.prog W 0 (fun _ => true) true n 24 [c7] = xs[7]? := by have := hg 7 _ rfl; simpa [Tryz.cellsInts, Value.cells] using this
    clear hg
    match xs, hlen with
    | [y0, y1, y2, y3, y4, y5, y6, y7], _ =>
      simp only [List.getElem?_cons_zero, List.getElem?_cons_succ] at g0 g1 g2 g3 g4 g5 g6 g7
      obtain ⟨a0, e0, _, w0⟩ := DataW.trod_int Tryz.underlying3 g0
      obtain ⟨a1, e1, _, w1⟩ := DataW.trod_int Tryz.underlying3 g1
      obtain ⟨a2, e2, _, w2⟩ := DataW.trod_int Tryz.underlying3 g2
      obtain ⟨a3, e3, _, w3⟩ := DataW.trod_int Tryz.underlying3 g3
      obtain ⟨a4, e4, _, w4⟩ := DataW.trod_int Tryz.underlying3 g4
      obtain ⟨a5, e5, _, w5⟩ := DataW.trod_int Tryz.underlying3 g5
      simp at e0 e1 e2 e3 e4 e5
      subst e0 e1 e2 e3 e4 e5
      obtain ⟨A, m, c, l, rfl, q1, q2, q3, q4, q5⟩ := open_ints' g6
      obtain ⟨A2, m2, c2, l2, rfl, p1, p2, p3, p4, p5⟩ := open_ints' g7
      subst q1 p1
      exact ⟨⟨⟨a0, a1, a2, a3, a4, a5, l, l2⟩, A, c, A2, c2⟩, rfl, q2, p2, Nat.le_trans q3 q4, Nat.le_trans p3 p4⟩

set_option maxRecDepth 100000 in
/-- An inode that came in. -/
theorem open_ino {r : Reach} {b0 : Nat} {v : Value} {d : DataW H} {p : List MemPlace} (hv : Value.okWide Tryz.prog W r b0 26 v) (h : DataW.Trod enc Tryz.prog W 0 (fun _ => true) true 26 v d p) :
    ∃ a : InoV, v = .agg (inoC a.v (.slice a.A a.v.blocks.length a.c) (.slice a.A2 a.v.attrs.length a.c2)) ∧ InoVOk W a := by
  obtain ⟨cs, rfl, hsz⟩ := okWide_struct Tryz.underlying26 hv
  rw [Tryz.cellsNode] at hsz
  obtain ⟨l0⟩ := cs
  obtain ⟨fuel, hf⟩ := h
  obtain ⟨a, e, ha⟩ := open_ino_cells (cs := l0) hsz (by simpa [Value.cells] using hf)
  exact ⟨a, by rw [e]; rfl, ha⟩

set_option maxRecDepth 100000 in
/-- A layout that came in. -/
theorem open_lay {r : Reach} {b0 : Nat} {v : Value} {d : DataW H} {p : List MemPlace} (hv : Value.okWide Tryz.prog W r b0 23 v) (h : DataW.Trod enc Tryz.prog W 0 (fun _ => true) true 23 v d p) :
    ∃ s j i : Int, v = .agg #[.int .i64 s, .int .i64 j, .int .i64 i] ∧ (-9223372036854775808 ≤ s ∧ s ≤ 9223372036854775807) ∧ (-9223372036854775808 ≤ j ∧ j ≤ 9223372036854775807) ∧ (-9223372036854775808 ≤ i ∧ i ≤ 9223372036854775807) := by
  obtain ⟨cs, rfl, hsz⟩ := okWide_struct Tryz.underlying23 hv
  rw [Tryz.cellsLayout] at hsz
  obtain ⟨l0⟩ := cs
  obtain ⟨fuel, hf⟩ := h
  have hf2 : DataW.trod enc Tryz.prog W 0 (fun _ => true) true fuel 23 l0 = some (d, p) := by simpa [Value.cells] using hf
  match l0, hsz with
  | [c0, c1, c2], _ =>
    obtain ⟨xs, n, _, _, _, hlen, hg⟩ := DataW.trod_struct Tryz.underlying23 hf2
    have g0 : DataW.trod enc Tryz.prog W 0 (fun _ => true) true n 3 [c0] = xs[0]? := by have := hg 0 _ rfl; simpa [Tryz.cellsInt, Value.cells] using this
    have g1 : DataW.trod enc Tryz.prog W 0 (fun _ => true) true n 3 [c1] = xs[1]? := by have := hg 1 _ rfl; simpa [Tryz.cellsInt, Value.cells] using this
    have g2 : DataW.trod enc Tryz.prog W 0 (fun _ => true) true n 3 [c2] = xs[2]? := by have := hg 2 _ rfl; simpa [Tryz.cellsInt, Value.cells] using this
    clear hg
    match xs, hlen with
    | [y0, y1, y2], _ =>
      simp only [List.getElem?_cons_zero, List.getElem?_cons_succ] at g0 g1 g2
      obtain ⟨a0, e0, _, w0⟩ := DataW.trod_int Tryz.underlying3 g0
      obtain ⟨a1, e1, _, w1⟩ := DataW.trod_int Tryz.underlying3 g1
      obtain ⟨a2, e2, _, w2⟩ := DataW.trod_int Tryz.underlying3 g2
      simp at e0 e1 e2
      subst e0 e1 e2
      exact ⟨a0, a1, a2, rfl, wf_i64_iff w0, wf_i64_iff w1, wf_i64_iff w2⟩

/-- An inode with a number. -/
def twoL (a : Int × InoV) : List Value := .int .i64 a.1 :: inoL a.2
set_option maxRecDepth 100000 in
theorem open_two_cells {fuel : Nat} {cs : List Value} (hsz : cs.length = 9) {x : DataW H × List MemPlace} (h : DataW.trod enc Tryz.prog W 0 (fun _ => true) true fuel 69 cs = some x) :
    ∃ a : Int × InoV, cs = twoL a ∧ InoVOk W a.2 := by
  match cs, hsz with
  | [c0, c1, c2, c3, c4, c5, c6, c7, c8], _ =>
    obtain ⟨xs, n, _, _, _, hlen, hg⟩ := DataW.trod_struct Tryz.underlying69 h
    have g0 : DataW.trod enc Tryz.prog W 0 (fun _ => true) true n 3 [c0] = xs[0]? := by have := hg 0 _ rfl; simpa [Tryz.cellsInt, Value.cells] using this
    have g1 : DataW.trod enc Tryz.prog W 0 (fun _ => true) true n 26 [c1, c2, c3, c4, c5, c6, c7, c8] = xs[1]? := by have := hg 1 _ rfl; simpa [Tryz.cellsInt, Tryz.cellsNode, Value.cells] using this
    clear hg
    match xs, hlen with
    | [y0, y1], _ =>
      simp only [List.getElem?_cons_zero, List.getElem?_cons_succ] at g0 g1
      obtain ⟨a0, e0, _, w0⟩ := DataW.trod_int Tryz.underlying3 g0
      simp at e0
      subst e0
      obtain ⟨a, e, ha⟩ := open_ino_cells (by rfl) g1
      exact ⟨(a0, a), by show _ :: _ = _ :: _; rw [e], ha⟩
set_option maxRecDepth 100000 in
theorem open_twos {r : Reach} {b0 : Nat} {v : Value} {d : DataW H} {p : List MemPlace} (hv : Value.okWide Tryz.prog W r b0 67 v) (h : DataW.Trod enc Tryz.prog W 0 (fun _ => true) true 67 v d p) :
    ∃ (A : Option Addr) (c : Nat) (xs : List (Int × InoV)), v = .slice A xs.length c ∧ Reads W A (xs.flatMap twoL) ∧ (∀ a ∈ xs, InoVOk W a.2) ∧ xs.length ≤ maxLen := by
  obtain ⟨a0, l0, c0, rfl⟩ := okWide_slice Tryz.underlying67 hv
  obtain ⟨fuel, hf⟩ := h
  obtain ⟨A, n, c, xs, h1, h2, h3, h4, h5, h6, -⟩ := open_rows twoL (fun a => InoVOk W a.2) 9 (by omega) Tryz.underlying67 Tryz.cellsTwo (fun n cs x hsz hx => open_two_cells hsz hx) (v := .slice a0 l0 c0) (by simpa [Value.cells] using hf)
  subst h2
  exact ⟨A, c, xs, h1, h3, fun a ha => (h4 a ha).2, by omega⟩

end
theorem Tryz.cellsStr : Tryz.prog.cellsOf 9 = 1 := by kernel_rfl
set_option maxRecDepth 100000 in
/-- Bytes that came in. -/
theorem open_bytes11 {H : Type} {enc : TypeId × Value → H} {W : World} {r : Reach} {b0 : Nat} {v : Value} {d : DataW H} {p : List MemPlace} (hv : Value.okWide Tryz.prog W r b0 29 v) (h : DataW.Trod enc Tryz.prog W 0 (fun _ => true) true 29 v d p) :
    ∃ (A : Option Addr) (c : Nat) (xs : List Int), v = .slice A xs.length c ∧ Reads W A (xs.map (.int .u8)) ∧ (∀ x ∈ xs, 0 ≤ x ∧ x < 256) ∧ xs.length ≤ c ∧ c ≤ maxLen := by
  obtain ⟨a0, l0, c0, rfl⟩ := okWide_slice Tryz.underlying29 hv
  obtain ⟨fuel, hf⟩ := h
  obtain ⟨A, n, c, xs, h1, h2, h3, h4, h5, h6, -⟩ := open_rows (fun a : Int => [Value.int .u8 a]) (fun a => 0 ≤ a ∧ a < 256) 1 (by omega) Tryz.underlying29 Tryz.cellsU8 (fun n cs x _ hx => by
    obtain ⟨z, rfl, _, w⟩ := DataW.trod_int Tryz.underlying5 hx
    exact ⟨z, rfl, by have := wf_u8_iff w; omega⟩) (v := .slice a0 l0 c0) (by simpa [Value.cells] using hf)
  subst h2
  have e : xs.flatMap (fun a : Int => [Value.int .u8 a]) = xs.map (.int .u8) := by
    clear h1 h3 h4 h5 h6
    induction xs with
    | nil => rfl
    | cons a t ih => rw [List.flatMap_cons, ih]; rfl
  rw [e] at h3
  exact ⟨A, c, xs, h1, h3, fun a ha => (h4 a ha).2, h5, h6⟩
end Go.Proofs.YtjocnooekgnedaaGreatDoor
/- Layer 11: the reference's numbers, many, in. -/
namespace Go.Proofs.YtjocnooekgnedaaGreatDoor
open Go.RowKit Go.Maps

attribute [local go_sem] Oper.semAt_some

def inB (n lo hi : Int) : Bool := decide (lo ≤ n ∧ n ≤ hi)
theorem in11_any (n lo hi : Int) (w : World) : Calls Tryz.prog 39 #[.int .i64 n, .int .i64 lo, .int .i64 hi] w fun e w' => e = .returned (.bool (inB n lo hi)) ∧ w' = w := by
  by_cases h1 : lo ≤ n
  · by_cases h2 : n ≤ hi
    · have hb : inB n lo hi = true := by simp [inB, h1, h2]
      rw [hb]
      clear hb
      go_enter Tryz.func39, Tryz.ntmps39
      go_wp2_with fail
      go_ret
      exact ⟨rfl, rfl⟩
    · have hb : inB n lo hi = false := by simp [inB, h2]
      rw [hb]
      clear hb
      go_enter Tryz.func39, Tryz.ntmps39
      go_wp2_with fail
      go_ret
      exact ⟨rfl, rfl⟩
  · have hb : inB n lo hi = false := by simp [inB, h1]
    rw [hb]
    clear hb
    go_enter Tryz.func39, Tryz.ntmps39
    go_wp2_with fail
    go_ret
    exact ⟨rfl, rfl⟩
/-- The limits by the kinds: links, size, device, parent. -/
def kindV (i : Int) : Nat → (Int × Int) × (Int × Int) × Int × (Int × Int)
  | 0 => ((0, 0), (0, 0), 0, (0, 0))
  | 1 => ((1, 1), (0, 24), 0, (1, i))
  | 2 => ((1, 120), (0, 384), 0, (0, 0))
  | 3 => ((1, 120), (1, 200), 0, (0, 0))
  | _ => ((1, 120), (0, 0), 255, (0, 0))
theorem nums_kind {v : Ino} {i : Int} {k : Nat} (hk : v.kind = k) (h4 : k ≤ 4) {la lb sa sb dv pa pb : Int} (hv : kindV i k = ((la, lb), (sa, sb), dv, (pa, pb))) :
    decide (v.nums i) = (inB v.links la lb && inB v.size sa sb && inB v.major 0 dv && inB v.minor 0 dv && inB v.parent pa pb) := by
  have h5 : k = 0 ∨ k = 1 ∨ k = 2 ∨ k = 3 ∨ k = 4 := by omega
  rw [Bool.eq_iff_iff]
  rcases h5 with rfl | rfl | rfl | rfl | rfl
  all_goals
    simp only [kindV, Prod.mk.injEq] at hv
    obtain ⟨⟨rfl, rfl⟩, ⟨rfl, rfl⟩, rfl, rfl, rfl⟩ := hv
    simp [inB, Ino.nums, hk]
    omega
set_option maxRecDepth 100000 in
set_option maxHeartbeats 4000000 in
theorem numbers_any (s j i : Int) (v : Ino) (S6 S7 : Value) (k : Nat) (hk : v.kind = k) (h4 : k ≤ 4) (w : World) :
    Calls Tryz.prog 40 #[.agg #[.int .i64 s, .int .i64 j, .int .i64 i], .agg (inoC v S6 S7)] w fun e w' => e = .returned (.bool (decide (v.nums i))) ∧ Below w.heap.size w w' := by
  obtain ⟨kd, lk, sz, mj, mn, pr, bl, al⟩ := v
  simp only at hk
  subst hk
  obtain ⟨wA, hA⟩ : ∃ wA, wA = (w.alloc (.cells #[.int .i64 s, .int .i64 j, .int .i64 i] 23)).alloc (.cells #[.int .i64 k, .int .i64 lk, .int .i64 sz, .int .i64 mj, .int .i64 mn, .int .i64 pr, S6, S7] 26) := ⟨_, rfl⟩
  have bL : Blk wA w.heap.size 23 #[.int .i64 s, .int .i64 j, .int .i64 i] := by rw [hA]; exact (by (repeat' (first | (with_reducible assumption) | exact Blk.new' (by simp) | refine Blk.alloc ?_ _)))
  have bX : Blk wA (w.heap.size + 1) 26 #[.int .i64 k, .int .i64 lk, .int .i64 sz, .int .i64 mj, .int .i64 mn, .int .i64 pr, S6, S7] := by rw [hA]; exact (by (repeat' (first | (with_reducible assumption) | exact Blk.new' (by simp) | refine Blk.alloc ?_ _)))
  have BA : Below w.heap.size w wA := by rw [hA]; (repeat' (first | (with_reducible exact Below.refl _ _) | (with_reducible assumption) | (with_reducible refine Below.alloc ?_ ?_ _) | (with_reducible refine Below.drew ?_) | (with_reducible refine below_drewN' ?_ _) | (with_reducible refine Below.setCell ?_ ?_ _) | (with_reducible exact Nat.le_refl _) | omega | (simp; done) | (simp; omega)))
  go_enter Tryz.func40, Tryz.ntmps40
  go_upto_region 1 with fail
  rw [← hA]
  clear hA
  have zA : w.heap.size + 1 < wA.heap.size := bX.lt
  have HX := Lib.hid (And.intro bL bX)
  have cX := bX.cells
  have lX := bX.lt
  obtain ⟨w2, hw2⟩ : ∃ w2, w2 = ((wA.alloc (.cells #[.int .i64 1, .int .i64 120] 87)).alloc (.cells #[.int .i64 0, .int .i64 0] 87)).alloc (.cells #[.int .i64 0, .int .i64 0] 87) := ⟨_, rfl⟩
  obtain ⟨N, hN⟩ : ∃ N, N = wA.heap.size := ⟨_, rfl⟩
  have b5 : Blk w2 N 87 #[.int .i64 1, .int .i64 120] := by rw [hw2, hN]; exact (by (repeat' (first | (with_reducible assumption) | exact Blk.new' (by simp) | refine Blk.alloc ?_ _)))
  have b6 : Blk w2 (N + 1) 87 #[.int .i64 0, .int .i64 0] := by rw [hw2, hN]; exact Blk.alloc (Blk.new' (by simp)) _
  have b8 : Blk w2 (N + 1 + 1) 87 #[.int .i64 0, .int .i64 0] := by rw [hw2, hN]; exact (by (repeat' (first | (with_reducible assumption) | exact Blk.new' (by simp) | refine Blk.alloc ?_ _)))
  have bA2 : Below wA.heap.size wA w2 := by rw [hw2]; (repeat' (first | (with_reducible exact Below.refl _ _) | (with_reducible assumption) | (with_reducible refine Below.alloc ?_ ?_ _) | (with_reducible refine Below.drew ?_) | (with_reducible refine below_drewN' ?_ _) | (with_reducible refine Below.setCell ?_ ?_ _) | (with_reducible exact Nat.le_refl _) | omega | (simp; done) | (simp; omega)))
  have B2 := BA.trans (bA2.mono (by have := BA.size; omega))
  have bL2 := bL.belowAll bA2
  have bX2 := bX.belowAll bA2
  rw [← hN] at zA
  have HW := Lib.hid hw2.symm
  have HN := Lib.hid hN.symm
  clear hw2 hN bA2 bL bX BA HX
  go_upto_region 2 with fail
  rw [HW.out, HN.out]
  clear HW HN cX lX
  have cX := bX2.cells
  have lX := bX2.lt
  go_upto_block 0 with fail
  clear cX lX
  go_cut [7] from 12 to 31 (fun s7 wx => ∃ (la lb sa sb dv pa pb : Int), s7 = .int .i64 dv ∧ kindV i k = ((la, lb), (sa, sb), dv, (pa, pb)) ∧ Below w.heap.size w wx ∧ Blk wx (w.heap.size + 1) 26 #[.int .i64 k, .int .i64 lk, .int .i64 sz, .int .i64 mj, .int .i64 mn, .int .i64 pr, S6, S7] ∧ Blk wx N 87 #[.int .i64 la, .int .i64 lb] ∧ Blk wx (N + 1) 87 #[.int .i64 sa, .int .i64 sb] ∧ Blk wx (N + 1 + 1) 87 #[.int .i64 pa, .int .i64 pb])
  case first =>
    have cX := bX2.cells
    have lX := bX2.lt
    have cL := bL2.cells
    have lL := bL2.lt
    have c5 := b5.cells
    have l5 := b5.lt
    have f5 := b5.free
    have c6 := b6.cells
    have l6 := b6.lt
    have f6 := b6.free
    have c8 := b8.cells
    have l8 := b8.lt
    have f8 := b8.free
    have n5 : w.heap.size + 1 ≠ N := by omega
    have n6 : w.heap.size + 1 ≠ N + 1 := by omega
    have n8 : w.heap.size + 1 ≠ N + 1 + 1 := by omega
    have g5 : w.heap.size ≤ N := by omega
    have g6 : w.heap.size ≤ N + 1 := by omega
    have g8 : w.heap.size ≤ N + 1 + 1 := by omega
    have h5 : k = 0 ∨ k = 1 ∨ k = 2 ∨ k = 3 ∨ k = 4 := by omega
    rcases h5 with rfl | rfl | rfl | rfl | rfl
    · as_aux_lemma =>
        go_wp2_with fail
        go_meet
        case rel => exact ⟨_, _, _, _, _, _, _, rfl, rfl, (B2.setCell (p := ⟨N, 0, none⟩) g5 _).setCell (p := ⟨N, 1, none⟩) g5 _, (bX2.far (p := ⟨N, 0, none⟩) n5 _).far (p := ⟨N, 1, none⟩) n5 _, (b5.set_ 0 _).set_ 1 _, (b6.far (p := ⟨N, 0, none⟩) (by simp) _).far (p := ⟨N, 1, none⟩) (by simp) _, (b8.far (p := ⟨N, 0, none⟩) (by show N + 1 + 1 ≠ N; omega) _).far (p := ⟨N, 1, none⟩) (by show N + 1 + 1 ≠ N; omega) _⟩
    · as_aux_lemma =>
        go_upto_region 6 with fail
        clear c5 l5 f5 c6 l6 f6 c8 l8 f8 cX lX cL lL
        refine wp_region_mix [.take 0, .take 1, .take 2, .take 3, .take 4, .one 5, .one 6, .one 7] 8 (fun W => Blk W w.heap.size 23 #[.int .i64 s, .int .i64 j, .int .i64 i] ∧ W.cell? ⟨w.heap.size, 2, none⟩ = some (.int .i64 i)) (by kernel_rfl) (by kernel_rfl) (fun _ _ _ _ _ h => h) ⟨bL2.drew, (bL2.drew.cells 2).trans rfl⟩ ?_
        simp only [List.map_cons, List.map_nil, Ms.fill, List.getD_cons_zero, List.getD_cons_succ]
        iterate 5 (refine mixT_take (by rfl) ?_ (fun w' hw' => ?_) ?_; rotate_left; (focus (go_simp; (try with_reducible rfl))); (try simp only [Act.put, List.setIfInBounds_toArray, List.set_cons_zero, List.set_cons_succ]))
        have bL0 := bL2.drew
        have q5 := storeRow (ty := 87) (vs := #[.int .i64 1, .int .i64 1]) b5.drew rfl (by simp [Value.oneCell']) (by kernel_rfl)
        have q6 := storeRow (ty := 87) (vs := #[.int .i64 0, .int .i64 24]) (b6.drew.rowFar (k := N) (cs' := #[.int .i64 1, .int .i64 1]) (by omega)) rfl (by simp [Value.oneCell']) (by kernel_rfl)
        have q8 := storeRow (ty := 87) (vs := #[.int .i64 1, .int .i64 i]) ((b8.drew.rowFar (k := N) (cs' := #[.int .i64 1, .int .i64 1]) (by omega)).rowFar (k := N + 1) (cs' := #[.int .i64 0, .int .i64 24]) (by omega)) rfl (by simp [Value.oneCell']) (by kernel_rfl)
        have bL1 := bL0.rowFar (k := N) (cs' := #[.int .i64 1, .int .i64 1]) (by omega)
        have bL6 := bL1.rowFar (k := N + 1) (cs' := #[.int .i64 0, .int .i64 24]) (by omega)
        have bL8 := bL6.rowFar (k := N + 1 + 1) (cs' := #[.int .i64 1, .int .i64 i]) (by omega)
        refine mixT_step (by rfl) fun K hK => ?_
        refine op_storeBy _ _ _ rfl _ _ rfl rfl q5 ?_
        refine hK _ _ (fun _ => ⟨bL1, (bL1.cells 2).trans rfl⟩) ?_
        clear hK K
        refine mixT_step (by rfl) fun K hK => ?_
        refine op_storeBy _ _ _ rfl _ _ rfl rfl q6 ?_
        refine hK _ _ (fun _ => ⟨bL6, (bL6.cells 2).trans rfl⟩) ?_
        clear hK K
        refine mixT_step (by rfl) fun K hK => ?_
        refine op_storeBy _ _ _ rfl _ _ rfl rfl q8 ?_
        refine hK _ _ (fun _ => ⟨bL8, (bL8.cells 2).trans rfl⟩) ?_
        clear hK K
        refine mixT_nil ?_
        go_wp2_with fail
        go_meet
        case rel => exact ⟨_, _, _, _, _, _, _, rfl, rfl, Below.setRow (Below.setRow (Below.setRow B2.drew g5 _) g6 _) g8 _, ((bX2.drew.rowFar n5).rowFar n6).rowFar n8, ((b5.drew.setRow).rowFar (by omega)).rowFar (by omega), ((b6.drew.rowFar (by omega)).setRow).rowFar (by omega), ((b8.drew.rowFar (by omega)).rowFar (by omega)).setRow⟩
    · as_aux_lemma =>
        go_wp2_with fail
        go_meet
        case rel => exact ⟨_, _, _, _, _, _, _, rfl, rfl, (B2.setCell (p := ⟨N + 1, 0, none⟩) g6 _).setCell (p := ⟨N + 1, 1, none⟩) g6 _, (bX2.far (p := ⟨N + 1, 0, none⟩) n6 _).far (p := ⟨N + 1, 1, none⟩) n6 _, (b5.far (p := ⟨N + 1, 0, none⟩) (by simp) _).far (p := ⟨N + 1, 1, none⟩) (by simp) _, (b6.set_ 0 _).set_ 1 _, (b8.far (p := ⟨N + 1, 0, none⟩) (by simp) _).far (p := ⟨N + 1, 1, none⟩) (by simp) _⟩
    · as_aux_lemma =>
        go_wp2_with fail
        go_meet
        case rel => exact ⟨_, _, _, _, _, _, _, rfl, rfl, (B2.setCell (p := ⟨N + 1, 0, none⟩) g6 _).setCell (p := ⟨N + 1, 1, none⟩) g6 _, (bX2.far (p := ⟨N + 1, 0, none⟩) n6 _).far (p := ⟨N + 1, 1, none⟩) n6 _, (b5.far (p := ⟨N + 1, 0, none⟩) (by simp) _).far (p := ⟨N + 1, 1, none⟩) (by simp) _, (b6.set_ 0 _).set_ 1 _, (b8.far (p := ⟨N + 1, 0, none⟩) (by simp) _).far (p := ⟨N + 1, 1, none⟩) (by simp) _⟩
    · as_aux_lemma =>
        go_wp2_with fail
        go_meet
        case rel => exact ⟨_, _, _, _, _, _, _, rfl, rfl, B2, bX2, b5, b6, b8⟩
  case rest =>
    as_aux_lemma =>
      obtain ⟨la, lb, sa, sb, dv, pa, pb, rfl, hkv, BC, bX, b5, b6, b8⟩ := hcut
      have HNK := Lib.hid (nums_kind (v := ⟨k, lk, sz, mj, mn, pr, bl, al⟩) rfl h4 hkv)
      clear hkv bX2 bL2 B2
      have cX := bX.cells
      have lX := bX.lt
      have c5 := b5.cells
      have l5 := b5.lt
      have c6 := b6.cells
      have l6 := b6.lt
      have c8 := b8.cells
      have l8 := b8.lt
      go_wp2_with fail
      refine (in11_any lk la lb wc).mono ?_
      rintro e wq ⟨rfl, hw⟩
      replace hw := hw.symm
      subst hw
      cases h1 : inB lk la lb
      · go_wp2_with fail
        go_ret
        exact ⟨bret (by rw [HNK.out]; simp [h1]), BC⟩
      go_wp2_with fail
      refine (in11_any sz sa sb wc).mono ?_
      rintro e wq ⟨rfl, hw⟩
      replace hw := hw.symm
      subst hw
      cases h2 : inB sz sa sb
      · go_wp2_with fail
        go_ret
        exact ⟨bret (by rw [HNK.out]; simp [h2]), BC⟩
      go_wp2_with fail
      refine (in11_any mj 0 dv wc).mono ?_
      rintro e wq ⟨rfl, hw⟩
      replace hw := hw.symm
      subst hw
      cases h3 : inB mj 0 dv
      · go_wp2_with fail
        go_ret
        exact ⟨bret (by rw [HNK.out]; simp [h3]), BC⟩
      go_wp2_with fail
      refine (in11_any mn 0 dv wc).mono ?_
      rintro e wq ⟨rfl, hw⟩
      replace hw := hw.symm
      subst hw
      cases h4 : inB mn 0 dv
      · go_wp2_with fail
        go_ret
        exact ⟨bret (by rw [HNK.out]; simp [h4]), BC⟩
      go_wp2_with fail
      refine (in11_any pr pa pb wc).mono ?_
      rintro e wq ⟨rfl, hw⟩
      replace hw := hw.symm
      subst hw
      cases h5 : inB pr pa pb
      · go_wp2_with fail
        go_ret
        exact ⟨bret (by rw [HNK.out]; simp [h5]), BC⟩
      go_wp2_with fail
      go_ret
      exact ⟨bret (by rw [HNK.out]; simp [h1, h2, h3, h4, h5]), BC⟩

set_option maxRecDepth 100000 in
set_option maxHeartbeats 4000000 in
theorem many_any (v : Ino) (A : Option Addr) (c : Nat) (A2 : Option Addr) (c2 : Nat) (k : Nat) (hk : v.kind = k) (h4 : k ≤ 4) (hz : 0 ≤ v.size ∧ v.size ≤ 1000) (hl : v.blocks.length ≤ 1000 ∧ v.attrs.length ≤ 1000) (w : World) :
    Calls Tryz.prog 41 #[.agg (inoC v (.slice A v.blocks.length c) (.slice A2 v.attrs.length c2))] w fun e w' => e = .returned (.bool (decide v.many)) ∧ Below w.heap.size w w' := by
  obtain ⟨kd, lk, sz, mj, mn, pr, bl, al⟩ := v
  simp only at hk hz hl ⊢
  subst hk
  obtain ⟨wA, hA⟩ : ∃ wA, wA = w.alloc (.cells #[.int .i64 k, .int .i64 lk, .int .i64 sz, .int .i64 mj, .int .i64 mn, .int .i64 pr, .slice A bl.length c, .slice A2 al.length c2] 26) := ⟨_, rfl⟩
  have bX : Blk wA w.heap.size 26 #[.int .i64 k, .int .i64 lk, .int .i64 sz, .int .i64 mj, .int .i64 mn, .int .i64 pr, .slice A bl.length c, .slice A2 al.length c2] := by rw [hA]; exact Blk.new _ _ _
  have BA : Below w.heap.size w wA := by rw [hA]; exact (Below.refl _ _).alloc (Nat.le_refl _) _
  have HM : Hid ((⟨k, lk, sz, mj, mn, pr, bl, al⟩ : Ino).many ↔ (al.length ≤ 3 ∧ (k = 0 → al = []) ∧ (if k = 1 then bl.length ≤ 8 ∧ (bl.length = 0 ↔ sz = 0) else if k = 2 ∨ k = 3 then (bl.length : Int) = (sz + 95) / 96 else bl.length = 0))) := Lib.hid (by
    unfold Ino.many
    simp only
    have e1 : ((k : Int) = 1) ↔ k = 1 := by omega
    have e2 : ((k : Int) = 2 ∨ (k : Int) = 3) ↔ (k = 2 ∨ k = 3) := by omega
    have e0 : ((k : Int) = 0) ↔ k = 0 := by omega
    simp only [e0, e1, e2, List.length_eq_zero_iff])
  go_enter Tryz.func41, Tryz.ntmps41
  go_upto_region 1 with fail
  rw [← hA]
  clear hA
  have cX := bX.cells
  have lX := bX.lt
  by_cases ha : al.length ≤ 3
  rotate_left
  · as_aux_lemma =>
      have d1 : (3 : Int) < al.length := by omega
      have HG : Hid (decide (⟨k, lk, sz, mj, mn, pr, bl, al⟩ : Ino).many = false) := Lib.hid (by rw [decide_eq_false_iff_not, HM.out]; omega)
      clear ha
      go_wp2_with fail
      go_ret
      exact ⟨bret HG.out.symm, BA⟩
  have d1 : ¬ (3 : Int) < al.length := by omega
  by_cases h0 : k = 0 ∧ 0 < al.length
  · as_aux_lemma =>
      obtain ⟨rfl, h0⟩ := h0
      have d2 : (0 : Int) < al.length := by omega
      have HG : Hid (decide (⟨(0 : Nat), lk, sz, mj, mn, pr, bl, al⟩ : Ino).many = false) := Lib.hid (by
        rw [decide_eq_false_iff_not, HM.out]
        rintro ⟨-, h, -⟩
        rw [h rfl] at h0
        exact absurd h0 (by simp))
      clear ha h0
      go_wp2_with fail
      go_ret
      exact ⟨bret HG.out.symm, BA⟩
  have h5 : k = 0 ∨ k = 1 ∨ k = 2 ∨ k = 3 ∨ k = 4 := by omega
  rcases h5 with rfl | rfl | hk23 | hk23 | rfl
  · as_aux_lemma =>
      have d2 : ¬ (0 : Int) < al.length := by omega
      have hal : al = [] := List.eq_nil_of_length_eq_zero (by omega)
      have HG : Hid (decide (⟨(0 : Nat), lk, sz, mj, mn, pr, bl, al⟩ : Ino).many = ((bl.length : Int) == 0)) := Lib.hid (by
        rw [Bool.eq_iff_iff, decide_eq_true_iff, HM.out]
        simp [hal])
      clear ha h0 hal
      go_wp2_with fail
      go_ret
      exact ⟨bret HG.out.symm, BA⟩
  · as_aux_lemma =>
      have d2 : ((1 : Int) == 0) = false := by decide
      by_cases h8 : bl.length ≤ 8
      rotate_left
      · have d3 : ¬ (bl.length : Int) ≤ 8 := by omega
        have HG : Hid (decide (⟨(1 : Nat), lk, sz, mj, mn, pr, bl, al⟩ : Ino).many = false) := Lib.hid (by
          rw [decide_eq_false_iff_not, HM.out]
          rintro ⟨-, -, h⟩
          rw [if_pos rfl] at h
          omega)
        clear ha h0 h8
        go_wp2_with fail
        go_ret
        exact ⟨bret HG.out.symm, BA⟩
      have d3 : (bl.length : Int) ≤ 8 := by omega
      have HG : Hid (decide (⟨(1 : Nat), lk, sz, mj, mn, pr, bl, al⟩ : Ino).many = (((bl.length : Int) == 0) == (sz == 0))) := Lib.hid (by
        rw [Bool.eq_iff_iff, decide_eq_true_iff, HM.out, if_pos rfl, beq_iff_eq, Bool.eq_iff_iff, beq_iff_eq, beq_iff_eq]
        omega)
      clear ha h0 h8
      obtain ⟨q1, hq1⟩ : ∃ q1, ((bl.length : Int) == 0) = q1 := ⟨_, rfl⟩
      obtain ⟨q2, hq2⟩ : ∃ q2, (sz == 0) = q2 := ⟨_, rfl⟩
      go_wp2_with fail
      go_ret
      have hg := HG.out
      rw [hq1, hq2] at hg
      exact ⟨bret hg.symm, BA⟩
  iterate 2
    · as_aux_lemma =>
        have e1 : IntKind.i64.wrap (sz + 96) = sz + 96 := by rw [IntKind.wrap_i64]; omega
        have e2 : IntKind.i64.wrap (sz + 96 - 1) = sz + 96 - 1 := by rw [IntKind.wrap_i64]; omega
        have e3 : (sz + 96 - 1).tdiv 96 = (sz + 95) / 96 := by rw [Int.tdiv_eq_ediv_of_nonneg (by omega)]; congr 1; omega
        have e4 : IntKind.i64.wrap ((sz + 95) / 96) = (sz + 95) / 96 := by rw [IntKind.wrap_i64]; omega
        have HG : Hid (decide (⟨k, lk, sz, mj, mn, pr, bl, al⟩ : Ino).many = ((bl.length : Int) == (sz + 95) / 96)) := Lib.hid (by
          rw [Bool.eq_iff_iff, decide_eq_true_iff, HM.out, if_neg (by omega), if_pos (by omega), beq_iff_eq]
          omega)
        subst hk23
        clear ha h0
        go_wp2_with fail
        go_ret
        exact ⟨bret HG.out.symm, BA⟩
  · as_aux_lemma =>
      have HG : Hid (decide (⟨(4 : Nat), lk, sz, mj, mn, pr, bl, al⟩ : Ino).many = ((bl.length : Int) == 0)) := Lib.hid (by
        rw [Bool.eq_iff_iff, decide_eq_true_iff, HM.out, if_neg (by omega), if_neg (by omega), beq_iff_eq]
        omega)
      clear ha h0
      go_wp2_with fail
      go_ret
      exact ⟨bret HG.out.symm, BA⟩
end Go.Proofs.YtjocnooekgnedaaGreatDoor
/- Layer 11: the reference's Check. -/
namespace Go.Proofs.YtjocnooekgnedaaGreatDoor
open Go.RowKit Go.Maps

attribute [local go_sem] Oper.semAt_some

theorem Reads.none_ {w : World} {xs : List Value} (h : Reads w none xs) : xs = [] := by
  rcases h with h | ⟨b, o, h, -⟩
  · exact h
  · cases h
/-- The reference's list of blocks holds no number twice, as far as it was looked at. -/
theorem nodup_step {l : List Int} {i : Nat} (hi : i < l.length) (h : (l.take i).Nodup) (hn : ∀ a, (ha : a < i) → l[a] ≠ l[i]) : (l.take (i + 1)).Nodup := by
  rw [List.take_succ_eq_append_getElem hi, List.nodup_append]
  refine ⟨h, by simp, fun x hx y hy e => ?_⟩
  rw [List.mem_singleton] at hy
  subst hy e
  obtain ⟨a, ha, e⟩ := List.mem_iff_getElem.1 hx
  rw [List.length_take] at ha
  rw [List.getElem_take] at e
  exact hn a (by omega) e
theorem nodup_step' {l : List Int} {i : Nat} (hi : i < l.length) (h : (l.take i).Nodup) (hn : ∀ a, a < i → l[a]? ≠ l[i]?) : (l.take (i + 1)).Nodup :=
  nodup_step hi h fun a ha e => hn a ha (by rw [List.getElem?_eq_getElem (by omega), List.getElem?_eq_getElem hi, e])
theorem nodup_not {l : List Int} {i a : Nat} (hi : i < l.length) (ha : a < i) (e : l[i] = l[a]) : ¬ l.Nodup := fun h => by
  have := (List.pairwise_iff_getElem.1 h) a i (by omega) hi ha
  exact this e.symm
set_option maxRecDepth 100000 in
set_option maxHeartbeats 8000000 in
theorem rcheck_any (s j i : Int) (v : Ino) (A : Option Addr) (c : Nat) (A2 : Option Addr) (c2 : Nat) (w : World) (h : InoIn w v A c A2 c2) :
    Calls Tryz.prog 15 #[.agg #[.int .i64 s, .int .i64 j, .int .i64 i], .agg (inoC v (.slice A v.blocks.length c) (.slice A2 v.attrs.length c2))] w fun e w' => e = .returned (.int .i64 (inoE s j i v)) ∧ Below w.heap.size w w' := by
  obtain ⟨wA, hA⟩ : ∃ wA, wA = (w.alloc (.cells #[.int .i64 s, .int .i64 j, .int .i64 i] 23)).alloc (.cells (inoC v (.slice A v.blocks.length c) (.slice A2 v.attrs.length c2)) 26) := ⟨_, rfl⟩
  have bL : Blk wA w.heap.size 23 #[.int .i64 s, .int .i64 j, .int .i64 i] := by rw [hA]; exact (by (repeat' (first | (with_reducible assumption) | exact Blk.new' (by simp) | refine Blk.alloc ?_ _)))
  have bX : Blk wA (w.heap.size + 1) 26 (inoC v (.slice A v.blocks.length c) (.slice A2 v.attrs.length c2)) := by rw [hA]; exact (by (repeat' (first | (with_reducible assumption) | exact Blk.new' (by simp) | refine Blk.alloc ?_ _)))
  have BA : Below w.heap.size w wA := by rw [hA]; (repeat' (first | (with_reducible exact Below.refl _ _) | (with_reducible assumption) | (with_reducible refine Below.alloc ?_ ?_ _) | (with_reducible refine Below.drew ?_) | (with_reducible refine below_drewN' ?_ _) | (with_reducible refine Below.setCell ?_ ?_ _) | (with_reducible exact Nat.le_refl _) | omega | (simp; done) | (simp; omega)))
  have hrc := regionsR_any s j i wA
  unfold RgPost rgV at hrc
  have HV := Lib.hid h
  have HI : Hid (inoE s j i v = if rgE s j i ≠ 0 then rgE s j i else if v.kind < 0 ∨ 4 < v.kind then 14 else if ¬ v.nums i then 7 else if ¬ v.many then 6
  else if ∃ b ∈ v.all, b < 0 ∨ rgB s j i ≤ b then 7 else if ¬ v.all.Nodup then 8 else 0) := Lib.hid rfl
  clear h
  have cL := bL.cells
  have lL := bL.lt
  go_enter Tryz.func15, Tryz.ntmps15
  go_wp2_with fail
  rw [← hA]
  clear hA
  go_wp2_with fail
  refine hrc.mono ?_
  rintro e w1 ⟨rfl, hb1⟩
  obtain ⟨w2, hw2⟩ : ∃ w2, w1.alloc (.cells #[.int .i64 (rgJ s j i), .int .i64 (rgM s j i), .int .i64 (rgT s j i), .int .i64 (rgD s j i), .int .i64 (rgB s j i)] 53) = w2 := ⟨_, rfl⟩
  obtain ⟨N2, hN2⟩ : ∃ N2, w1.heap.size = N2 := ⟨_, rfl⟩
  have bG : Blk w2 N2 53 #[.int .i64 (rgJ s j i), .int .i64 (rgM s j i), .int .i64 (rgT s j i), .int .i64 (rgD s j i), .int .i64 (rgB s j i)] := by rw [← hw2, ← hN2]; exact Blk.new _ _ _
  have b12 : Below w1.heap.size w1 w2 := by rw [← hw2]; exact (Below.refl _ _).alloc (Nat.le_refl _) _
  have B1 := BA.trans (hb1.mono BA.size)
  have B2 := B1.trans (b12.mono B1.size)
  have bL2 := (bL.belowAll hb1).belowAll b12
  have bX2 := (bX.belowAll hb1).belowAll b12
  have HW := Lib.hid hw2
  have HN := Lib.hid hN2
  clear hw2 hN2 hrc cL lL bL bX BA hb1 b12 B1
  go_upto_region 2 with fail
  rw [HW.out, HN.out]
  by_cases hrg : rgE s j i = 0
  rotate_left
  · as_aux_lemma =>
      have HG : Hid (inoE s j i v = rgE s j i) := Lib.hid (by rw [HI.out, if_pos hrg])
      have hE' : (rgE s j i != 0) = true := by simpa using hrg
      clear hrg HI
      go_wp2_with fail
      go_ret
      rw [HG.out]
      exact ⟨rfl, B2⟩
  have cX := bX2.cells
  have lX := bX2.lt
  have cL := bL2.cells
  have lL := bL2.lt
  rw [hrg]
  have hin := in11_any v.kind 0 4 w2
  by_cases hkd : v.kind < 0 ∨ 4 < v.kind
  · as_aux_lemma =>
      have HG : Hid (inoE s j i v = 14) := Lib.hid (by rw [HI.out, if_neg (by simpa using hrg), if_pos hkd])
      rw [show inB v.kind 0 4 = false by simp [inB]; omega] at hin
      clear hkd HI hrg
      go_wp2_with fail
      refine hin.mono ?_
      rintro e wq ⟨rfl, hw⟩
      replace hw := hw.symm
      subst hw
      go_wp2_with fail
      go_ret
      rw [HG.out]
      exact ⟨rfl, B2⟩
  rw [show inB v.kind 0 4 = true by simp [inB]; omega] at hin
  obtain ⟨k, hk⟩ : ∃ k : Nat, v.kind = k := ⟨v.kind.toNat, by omega⟩
  have hnu := numbers_any s j i v (.slice A v.blocks.length c) (.slice A2 v.attrs.length c2) k hk (by omega) w2
  have HRG := Lib.hid hrg
  have HKD := Lib.hid hkd
  have HK := Lib.hid (And.intro hk (show k ≤ 4 by omega))
  clear hrg hkd hk
  go_wp2_with fail
  refine hin.mono ?_
  rintro e wq ⟨rfl, hw⟩
  replace hw := hw.symm
  subst hw
  clear hin
  go_wp2_with fail
  refine hnu.mono ?_
  rintro e w3 ⟨rfl, hb3⟩
  have B3 := B2.trans (hb3.mono B2.size)
  have bX3 := bX2.belowAll hb3
  have bG3 := bG.belowAll hb3
  clear hnu cX lX cL lL bL2 bX2 bG B2 hb3
  by_cases hn : v.nums i
  rotate_left
  · as_aux_lemma =>
      have HG : Hid (inoE s j i v = 7) := Lib.hid (by rw [HI.out, if_neg (by simpa using HRG.out), if_neg HKD.out, if_pos hn])
      rw [decide_eq_false hn]
      clear hn HI
      go_wp2_with fail
      go_ret
      rw [HG.out]
      exact ⟨rfl, B3⟩
  rw [decide_eq_true hn]
  have hsz : 0 ≤ v.size ∧ v.size ≤ 1000 := by
    have := HKD.out
    unfold Ino.nums at hn
    repeat' split at hn
    all_goals omega
  have hmy := many_any v A c A2 c2 k HK.out.1 HK.out.2 hsz ⟨HV.out.n1, HV.out.n2⟩ w3
  have cX := bX3.cells
  have lX := bX3.lt
  have HNU := Lib.hid hn
  clear hn hsz
  go_wp2_with fail
  refine hmy.mono ?_
  rintro e w4 ⟨rfl, hb4⟩
  have B4 := B3.trans (hb4.mono B3.size)
  have bX4 := bX3.belowAll hb4
  have bG4 := bG3.belowAll hb4
  clear hmy cX lX bX3 bG3 B3 hb4
  by_cases hm : v.many
  rotate_left
  · as_aux_lemma =>
      have HG : Hid (inoE s j i v = 6) := Lib.hid (by rw [HI.out, if_neg (by simpa using HRG.out), if_neg HKD.out, if_neg (by simpa using HNU.out), if_pos hm])
      rw [decide_eq_false hm]
      clear hm HI
      go_wp2_with fail
      go_ret
      rw [HG.out]
      exact ⟨rfl, B4⟩
  rw [decide_eq_true hm]
  have HI2 : Hid (inoE s j i v = if ∃ b ∈ v.all, b < 0 ∨ rgB s j i ≤ b then 7 else if ¬ v.all.Nodup then 8 else 0) := Lib.hid (by
    rw [HI.out, if_neg (by simpa using HRG.out), if_neg HKD.out, if_neg (by simpa using HNU.out), if_neg (by simpa using hm)])
  clear hm HI HRG HKD HNU HK
  obtain ⟨i0, hi, hz0, hz1, hz2⟩ := info_parts Tryz.info3
  have r1 := HV.out.r1
  have r2 := HV.out.r2
  have n1 := HV.out.n1
  have n2 := HV.out.n2
  have hA1 : A = none → v.blocks.length = 0 := fun e => by subst e; simpa using Reads.none_ r1
  have hA2 : A2 = none → v.attrs.length = 0 := fun e => by subst e; simpa using Reads.none_ r2
  clear HV
  obtain ⟨bl, hbl⟩ : ∃ bl, bl = v.blocks := ⟨_, rfl⟩
  obtain ⟨al, hal⟩ : ∃ al, al = v.attrs := ⟨_, rfl⟩
  have HALL : Hid (v.all = bl ++ al) := Lib.hid (by rw [hbl, hal]; rfl)
  rw [← hbl] at r1 n1 hA1
  rw [← hal] at r2 n2 hA2
  have hc6 : ∀ W, Below w4.heap.size w4 W → W.cell? ⟨w.heap.size + 1, 6, none⟩ = some (.slice A bl.length c) ∧ W.cell? ⟨w.heap.size + 1, 7, none⟩ = some (.slice A2 al.length c2) := fun W hW => by
    rw [hbl, hal]
    exact ⟨((bX4.belowAll hW).cells 6).trans rfl, ((bX4.belowAll hW).cells 7).trans rfl⟩
  have HC6 := Lib.hid hc6
  clear hbl hal hc6 bX4
  go_upto_region 10 with fail
  refine wp_region_mix [.take 1, .take 2, .take 4, .take 5, .one 0, .one 3, .one 6, .take 7] 8 (fun W => W.cell? ⟨w.heap.size + 1, 6, none⟩ = some (.slice A bl.length c) ∧ W.cell? ⟨w.heap.size + 1, 7, none⟩ = some (.slice A2 al.length c2)) (by kernel_rfl) (by kernel_rfl) (fun _ _ _ _ _ h => h) (HC6.out _ (Below.refl _ _).drew) ?_
  simp only [List.map_cons, List.map_nil, Ms.fill, List.getD_cons_zero, List.getD_cons_succ]
  iterate 4 (refine mixT_take (by rfl) ?_ (fun w' hw' => ?_) ?_; rotate_left; (focus (go_simp; (try with_reducible rfl))); (try simp only [Act.put, List.setIfInBounds_toArray, List.set_cons_zero, List.set_cons_succ]))
  refine mixT_step (by rfl) fun K hK => ?_
  go_simp
  obtain ⟨X, hX⟩ : ∃ X, X = (w4.alloc (.cells #[] 3)).drew := ⟨_, rfl⟩
  have oX : X.ownsRow w4.heap.size 3 1 (.slice (some ⟨w4.heap.size, 0, none⟩) 0 0) 0 [] := by
    have := World.ownsRow_made (e := 3) (size := 1) (base := w4.heap.size) w4 #[] 0 (by simp) (by simp) rfl
    have h2 : (w4.alloc (.cells #[] 3)).ownsRow w4.heap.size 3 1 (.slice (some ⟨w4.heap.size, 0, none⟩) 0 0) 0 [] := by simpa using this
    rw [hX]
    exact h2
  have bX : Below w4.heap.size w4 X := by rw [hX]; exact ((Below.refl _ _).alloc (Nat.le_refl _) _).drew
  rw [← hX]
  refine hK _ _ (fun _ => HC6.out _ bX) ?_
  clear hK K hX
  have hone : ∀ l : List Int, ∀ u ∈ l.map (Value.int .i64), u.oneCell' = true := fun l u hu => by
    obtain ⟨q, -, rfl⟩ := List.mem_map.1 hu
    rfl
  refine mixT_step (by rfl) fun K hK => ?_
  refine wp_append_any (w := X) _ _ 24 rfl w4.heap.size 3 i0 (.int .i64 0) 8 Tryz.underlying24 hi hz0 hz1 hz2 rfl (.slice (some ⟨w4.heap.size, 0, none⟩) 0 0) 0 [] rfl oX A bl.length c (bl.map (.int .i64)) rfl (by simp) hA1 (r1.below (B4.trans (bX.mono B4.size))) (hone bl) (by simp only [maxLen]; omega) (by omega) bX.size ?_
  intro v1 W1 hown1 hgr1 _
  have bW1 : Below w4.heap.size w4 W1 := bX.grown hgr1 bX.size (fun q hq => by simp [Value.ownBlock] at hq; omega)
  refine hK _ _ (fun _ => HC6.out _ bW1) ?_
  clear hK K
  refine mixT_step (by rfl) fun K hK => ?_
  refine wp_append_any (w := W1) _ _ 24 rfl w4.heap.size 3 i0 (.int .i64 0) 8 Tryz.underlying24 hi hz0 hz1 hz2 rfl v1 _ _ rfl hown1 A2 al.length c2 (al.map (.int .i64)) rfl (by simp) hA2 (r2.below (B4.trans (bW1.mono B4.size))) (hone al) (by simp only [maxLen]; omega) (by omega) bW1.size ?_
  intro v2 w5 hown2 hgr2 _
  have bW2 : Below w4.heap.size w4 w5 := bW1.grown hgr2 bW1.size (fun q hq => (own_lt hown1 q hq).1)
  refine hK _ _ (fun _ => HC6.out _ bW2) ?_
  clear hK K
  have hl : 0 + bl.length + al.length = (bl ++ al).length := by rw [List.length_append]; omega
  have hown : w5.ownsRow w4.heap.size 3 1 v2 (bl ++ al).length ((bl ++ al).map (.int .i64)) := by
    rw [List.map_append, ← hl]
    simpa using hown2
  have hn11 : (bl ++ al).length ≤ 2000 := by rw [List.length_append]; omega
  have bG5 := bG4.belowAll bW2
  have B5 := B4.trans (bW2.mono B4.size)
  have HL : Hid (v.all = bl ++ al) := HALL
  generalize bl ++ al = l at hown hn11 HL
  obtain ⟨a2, cc, rfl⟩ := own_slice hown
  have hRl := Reads.of_own hown
  (refine mixT_take (by rfl) ?_ (fun w' hw' => ?_) ?_; rotate_left; (focus (go_simp; (try with_reducible rfl))); (try simp only [Act.put, List.setIfInBounds_toArray, List.set_cons_zero, List.set_cons_succ]))
  refine mixT_nil ?_
  have hG : ∀ W, Below w5.heap.size w5 W → W.cell? ⟨N2, 4, none⟩ = some (.int .i64 (rgB s j i)) := fun W hW => ((bG5.belowAll hW).cells 4).trans rfl
  have HG4 := Lib.hid hG
  have hb := rgB_bds s j i
  have hwr : IntKind.i64.wrap (rgB s j i - 1) = rgB s j i - 1 := by rw [IntKind.wrap_i64]; omega
  have HWR := Lib.hid hwr
  have HRL := Lib.hid hRl
  rw [HL.out] at HI2
  clear HL HALL HC6 hown hown1 hown2 hgr1 hgr2 bW1 bW2 bX oX hone r1 r2 hA1 hA2 hi hz0 hz1 hz2 hG bG4 bG5 hwr hb hl B4 n1 n2 hRl
  go_wp2_with fail
  go_loopw [8] (fun q wr => ∃ k : Nat, k ≤ l.length ∧ q = .int .i64 k ∧ (∀ b ∈ l.take k, 0 ≤ b ∧ b < rgB s j i) ∧ Below w5.heap.size w5 wr) (fun q _ => l.length - (RowKit.intOf q).toNat)
  case atStart => exact ⟨0, Nat.zero_le _, rfl, fun b hb => absurd hb (by simp), Below.refl _ _⟩
  case round =>
    obtain ⟨k, hk, rfl, hrn, hnx⟩ := hrel
    have HRN := Lib.hid hrn
    clear hrn
    by_cases hlt : k < l.length
    · have d1 : (k : Int) < l.length := by omega
      obtain ⟨g, o, rfl, -, -⟩ := HRL.out.at_ (k := k) (by simpa using hlt)
      have hcx : ∀ W, Below w5.heap.size w5 W → W.cell? ⟨g, o + k, none⟩ = some (.int .i64 l[k]) ∧ W.cell? ⟨N2, 4, none⟩ = some (.int .i64 (rgB s j i)) := fun W hW => by
        obtain ⟨g', o', e, -, hc⟩ := (HRL.out.below hW).at_ (k := k) (by simpa using hlt)
        cases e
        rw [List.getElem_map] at hc
        exact ⟨hc, HG4.out W hW⟩
      have hs1 := Lib.hid (List.take_succ_eq_append_getElem hlt)
      have hmem := Lib.hid (List.getElem_mem hlt)
      have HCX := Lib.hid hcx
      generalize l[k] = x at hs1 hmem HCX
      have hwr := HWR.out
      clear hcx hk
      go_upto_region 14 with fail
      refine wp_region_mix [.take 0, .take 1, .take 2, .take 3, .take 4, .take 5, .take 6, .one 7, .take 8] 9 (fun W => W.cell? ⟨g, o + k, none⟩ = some (.int .i64 x) ∧ W.cell? ⟨N2, 4, none⟩ = some (.int .i64 (rgB s j i))) (by kernel_rfl) (by kernel_rfl) (fun _ _ _ _ _ h => h) (HCX.out _ hnx.drew) ?_
      simp only [List.map_cons, List.map_nil, Ms.fill, List.getD_cons_zero, List.getD_cons_succ]
      iterate 7 (refine mixT_take (by rfl) ?_ (fun w' hw' => ?_) ?_; rotate_left; (focus (go_simp; (try with_reducible rfl))); (try simp only [Act.put, List.setIfInBounds_toArray, List.set_cons_zero, List.set_cons_succ]))
      refine mixT_step (by rfl) fun K hK => ?_
      go_simp
      refine (in11_any x 0 (rgB s j i - 1) wr.drew).mono ?_
      rintro e wq ⟨rfl, hw⟩
      replace hw := hw.symm
      subst hw
      refine hK _ _ (fun _ => HCX.out _ hnx.drew) ?_
      clear hK K
      (refine mixT_take (by rfl) ?_ (fun w' hw' => ?_) ?_; rotate_left; (focus (go_simp; (try with_reducible rfl))); (try simp only [Act.put, List.setIfInBounds_toArray, List.set_cons_zero, List.set_cons_succ]))
      refine mixT_nil ?_
      have hnd : Below w5.heap.size w5 wr.drew := hnx.drew
      by_cases hx : 0 ≤ x ∧ x < rgB s j i
      · have hib : inB x 0 (rgB s j i - 1) = true := by simp [inB]; omega
        rw [hib]
        have HX := Lib.hid hx
        clear hib hx hwr
        go_wp2_with fail
        go_roundw
        case rel => exact ⟨k + 1, by omega, by go_num, fun b hb => by
          rw [hs1.out] at hb
          rcases List.mem_append.1 hb with hb | hb
          · exact HRN.out b hb
          · rw [List.mem_singleton] at hb
            subst hb
            exact HX.out, hnd⟩
        case measure => simp [RowKit.intOf]; omega
      · have hib : inB x 0 (rgB s j i - 1) = false := by simp [inB]; omega
        rw [hib]
        have HG : Hid (inoE s j i v = 7) := Lib.hid (by rw [HI2.out, if_pos ⟨x, hmem.out, by omega⟩])
        clear hib hx hwr
        go_wp2_with fail
        go_ret
        rw [HG.out]
        exact ⟨rfl, B5.trans (hnd.mono B5.size)⟩
    · obtain rfl : k = l.length := by omega
      have HI3 : Hid (inoE s j i v = if ¬ l.Nodup then 8 else 0) := Lib.hid (by
        have h := HRN.out
        rw [List.take_length] at h
        rw [HI2.out, if_neg]
        rintro ⟨b, hb, hc⟩
        have := h b hb
        omega)
      clear HRN HI2 hk HWR HG4
      go_wp2_with fail
      go_loopw [9] (fun q wr => ∃ k : Nat, k ≤ l.length ∧ q = .int .i64 k ∧ (l.take k).Nodup ∧ Below w5.heap.size w5 wr) (fun q _ => l.length - (RowKit.intOf q).toNat)
      case atStart => exact ⟨0, Nat.zero_le _, rfl, by simp, hnx⟩
      case round =>
        obtain ⟨k, hk, rfl, hnd, hnx2⟩ := hrel
        clear hnx
        have HND := Lib.hid hnd
        clear hnd
        by_cases hlt2 : k < l.length
        · have d1 : (k : Int) < l.length := by omega
          go_wp2_with fail
          go_loopw [10] (fun q wr => ∃ m : Nat, m ≤ k ∧ q = .int .i64 m ∧ (∀ a, a < m → l[a]? ≠ l[k]?) ∧ Below w5.heap.size w5 wr) (fun q _ => k - (RowKit.intOf q).toNat)
          case atStart => exact ⟨0, Nat.zero_le _, rfl, fun a ha => absurd ha (by omega), hnx2⟩
          case round =>
            obtain ⟨m, hm, rfl, hne, hnx3⟩ := hrel
            clear hnx2
            have HNE := Lib.hid hne
            clear hne
            by_cases hmk : m < k
            · have d2 : (m : Int) < k := by omega
              have d3 : (m : Int) < l.length := by omega
              have hml : m < l.length := by omega
              obtain ⟨g, o, rfl, -, hc1⟩ := (HRL.out.below hnx3).at_ (k := k) (by simpa using hlt2)
              obtain ⟨g2, o2, e2, -, hc2⟩ := (HRL.out.below hnx3).at_ (k := m) (by simpa using hml)
              cases e2
              rw [List.getElem_map] at hc1 hc2
              by_cases hxy : l[k] = l[m]
              · have HG : Hid (inoE s j i v = 8) := Lib.hid (by rw [HI3.out, if_pos (nodup_not hlt2 hmk hxy)])
                rw [hxy] at hc1
                generalize l[m] = x at hc1 hc2
                have d4 : (x == x) = true := by simp
                clear hxy
                go_wp2_with fail
                go_quiet (fail)
                go_wp2_with fail
                go_ret
                rw [HG.out]
                exact ⟨rfl, by have := B5.trans (hnx3.mono B5.size); (repeat' (first | (with_reducible exact Below.refl _ _) | (with_reducible assumption) | (with_reducible refine Below.alloc ?_ ?_ _) | (with_reducible refine Below.drew ?_) | (with_reducible refine below_drewN' ?_ _) | (with_reducible refine Below.setCell ?_ ?_ _) | (with_reducible exact Nat.le_refl _) | omega | (simp; done) | (simp; omega)))⟩
              · have d4 : (l[k] == l[m]) = false := by simpa using hxy
                have HX : Hid (l[m]? ≠ l[k]?) := Lib.hid (by rw [List.getElem?_eq_getElem hml, List.getElem?_eq_getElem hlt2]; intro e; exact hxy (Option.some.inj e).symm)
                generalize l[k] = x at hc1 d4
                generalize l[m] = y at hc2 d4
                clear hxy
                go_wp2_with fail
                go_quiet (fail)
                go_wp2_with fail
                go_roundw
                case rel => exact ⟨m + 1, by omega, by go_num, fun a ha => by
                  by_cases e : a = m
                  · subst e; exact HX.out
                  · exact HNE.out a (by omega), by (repeat' (first | (with_reducible exact Below.refl _ _) | (with_reducible assumption) | (with_reducible refine Below.alloc ?_ ?_ _) | (with_reducible refine Below.drew ?_) | (with_reducible refine below_drewN' ?_ _) | (with_reducible refine Below.setCell ?_ ?_ _) | (with_reducible exact Nat.le_refl _) | omega | (simp; done) | (simp; omega)))⟩
                case measure => simp [RowKit.intOf]; omega
            · obtain rfl : m = k := by omega
              have HS : Hid ((l.take (m + 1)).Nodup) := Lib.hid (nodup_step' hlt2 HND.out HNE.out)
              go_wp2_with fail
              go_roundw
              case rel => exact ⟨m + 1, by omega, by go_num, HS.out, hnx3⟩
              case measure => simp [RowKit.intOf]; omega
        · obtain rfl : k = l.length := by omega
          have HG : Hid (inoE s j i v = 0) := Lib.hid (by
            have h := HND.out
            rw [List.take_length] at h
            rw [HI3.out, if_neg (by simpa using h)])
          go_wp2_with fail
          go_ret
          rw [HG.out]
          exact ⟨rfl, B5.trans (hnx2.mono B5.size)⟩
end Go.Proofs.YtjocnooekgnedaaGreatDoor
/- Layer 11: the reference's records: low, width, groups of a small number. -/
namespace Go.Proofs.YtjocnooekgnedaaGreatDoor
open Go.RowKit Go.Maps

attribute [local go_sem] Oper.semAt_some

theorem ediv_step (n : Int) (k : Nat) : n / 256 ^ k / 256 = n / 256 ^ (k + 1) := by
  rw [Int.ediv_ediv_of_nonneg (Int.le_of_lt (Int.pow_pos (by decide))), Int.pow_succ]
theorem ediv_bd {n : Int} (hn : 0 ≤ n ∧ n < 18446744073709551616) (k : Nat) : 0 ≤ n / 256 ^ k ∧ n / 256 ^ k < 18446744073709551616 := by
  have hp : (0 : Int) < 256 ^ k := Int.pow_pos (by decide)
  exact ⟨Int.ediv_nonneg hn.1 (Int.le_of_lt hp), Int.lt_of_le_of_lt (Int.ediv_le_self _ hn.1) hn.2⟩
set_option maxRecDepth 100000 in
set_option maxHeartbeats 4000000 in
theorem rlow_any (n : Int) (hn : 0 ≤ n ∧ n < 18446744073709551616) (m : Nat) (hm : m ≤ 8) (w : World) :
    Calls Tryz.prog 91 #[.int .u64 n, .int .i64 m] w fun e w' => ∃ A c, e = .returned (.slice A m c) ∧ w'.ownsRow w.heap.size 5 1 (.slice A m c) m ((lowL n m).map (.int .u8)) ∧ Below w.heap.size w w' := by
  obtain ⟨i0, hi, hz0, hz1, hz2⟩ := info_parts Tryz.infoByte
  have HN := Lib.hid hn
  clear hn
  go_enter Tryz.func91, Tryz.ntmps91
  go_wp2_with fail
  go_loopw [0, 5, 6] (fun q0 v q wr => ∃ k : Nat, k ≤ m ∧ q0 = .int .u64 (n / 256 ^ k) ∧ q = .int .i64 k ∧ wr.ownsRow w.heap.size 5 1 v k ((lowL n k).map (.int .u8)) ∧ Below w.heap.size w wr) (fun _ _ q _ => m - (RowKit.intOf q).toNat)
  case atStart => exact ⟨0, Nat.zero_le _, by simp, rfl, World.ownsRow_nil _ _ _ _, Below.refl _ _⟩
  case round =>
    obtain ⟨k, hk, rfl, rfl, hown, hB⟩ := hrel
    obtain ⟨fa, fc, rfl⟩ := own_slice hown
    by_cases hlt : k < m
    · have d1 : (k : Int) < m := by omega
      have hV := ediv_bd HN.out k
      have HS := Lib.hid (ediv_step n k)
      have HL : Hid (lowL n (k + 1) = lowL n k ++ [n / 256 ^ k % 256]) := Lib.hid rfl
      generalize n / 256 ^ k = V at hV HS HL ⊢
      obtain ⟨b, hb⟩ : ∃ b, b = V % 256 := ⟨_, rfl⟩
      have e1 : V.tmod 256 = b := by rw [hb]; exact Int.tmod_eq_emod_of_nonneg hV.1
      have e2 : IntKind.u64.wrap b = b := by rw [IntKind.wrap_u64]; omega
      have e3 : IntKind.u8.wrap b = b := by rw [IntKind.wrap_u8]; omega
      have e4 : V.tdiv 256 = V / 256 := Int.tdiv_eq_ediv_of_nonneg hV.1
      have e5 : IntKind.u64.wrap (V / 256) = V / 256 := by rw [IntKind.wrap_u64]; omega
      rw [← hb] at HL
      obtain ⟨X, hX⟩ : ∃ X, X = wr.alloc (.cells #[.int .u8 b] 5) := ⟨_, rfl⟩
      have bX : Below wr.heap.size wr X := by rw [hX]; exact (Below.refl _ _).alloc (Nat.le_refl _) _
      have rX : Reads X (some ⟨wr.heap.size, 0, none⟩) [.int .u8 b] := by
        have := Blk.new wr 5 #[.int .u8 b]
        rw [hX]
        exact .inr ⟨_, 0, rfl, this.lt, fun j u hu => by rw [Nat.zero_add]; exact (this.cells j).trans (by simpa using hu)⟩
      have HX := Lib.hid hX
      have hoX := own_below hown bX
      have hBX := hB.trans (bX.mono hB.size)
      have hbs : w.heap.size ≤ X.heap.size := hBX.size
      clear hb hX hV hown hB bX
      go_wp2_with (at_builtin; rw [← HX.out]; refine wpList_append_any _ rfl (.tmp 12) (.tmp 16) _ rfl w.heap.size 5 i0 (.int .u8 0) 1 Tryz.underlying29 hi hz0 hz1 hz2 rfl (.slice fa k fc) _ _ rfl hoX (some ⟨wr.heap.size, 0, none⟩) 1 1 [.int .u8 b] rfl rfl (fun h => by cases h) rX (by simp [Value.oneCell']) (by simp only [maxLen]; omega) (by omega) hbs ?_; intro v' w4 hown hgrow hat; have hB4 := hBX.grown hgrow hbs (fun q hq => (own_lt hoX q hq).1))
      go_roundw
      case rel => exact ⟨k + 1, by omega, by rw [HS.out], by go_num, by rw [HL.out, List.map_append]; exact hown, hB4⟩
      case measure => simp [RowKit.intOf]; omega
    · obtain rfl : k = m := by omega
      go_wp2_with fail
      go_ret
      exact ⟨fa, fc, rfl, hown, hB⟩
/-- How many bytes a number of a kind has. -/
def widV (c : Int) : Int := if c = 98 then 1 else if c = 119 then 2 else 0
set_option maxRecDepth 100000 in
theorem rwidth_any (c : Int) (hc : c = 98 ∨ c = 119 ∨ c = 108) (w : World) : Calls Tryz.prog 89 #[.int .u8 c] w fun e w' => e = .returned (.int .i64 (widV c)) ∧ w' = w := by
  rcases hc with rfl | rfl | rfl
  all_goals
    go_enter Tryz.func89, Tryz.ntmps89
    go_wp2_with fail
    go_ret
    exact ⟨rfl, rfl⟩
theorem own_one8 (w : World) (n : Int) : (w.alloc (.cells #[.int .u8 n] 5)).ownsRow w.heap.size 5 1 (.slice (some ⟨w.heap.size, 0, none⟩) 1 1) 1 [.int .u8 n] :=
  ⟨rfl, .inr ⟨w.heap.size, 1, #[.int .u8 n], rfl, Nat.le_refl _, Blk.new _ _ _, Nat.le_refl _, by simp [maxLen], rfl, rfl⟩⟩
set_option maxRecDepth 100000 in
theorem rgroups_small (n : Int) (hn : 0 ≤ n ∧ n < 128) (w : World) : Calls Tryz.prog 90 #[.int .u64 n] w fun e w' => ∃ A c, e = .returned (.slice A 1 c) ∧ w'.ownsRow w.heap.size 5 1 (.slice A 1 c) 1 [.int .u8 n] ∧ Below w.heap.size w w' := by
  have d1 : n < 128 := hn.2
  have e1 : IntKind.u8.wrap n = n := by rw [IntKind.wrap_u8]; omega
  clear hn
  go_enter Tryz.func90, Tryz.ntmps90
  go_wp2_with fail
  go_ret
  exact ⟨_, _, rfl, own_one8 w n, (Below.refl _ _).alloc (Nat.le_refl _) _⟩
end Go.Proofs.YtjocnooekgnedaaGreatDoor
/- Layer 11: the reference's records: the bytes of a value. -/
namespace Go.Proofs.YtjocnooekgnedaaGreatDoor
open Go.RowKit Go.Maps

attribute [local go_sem] Oper.semAt_some

def RvPost (bs : List Int) (w : World) (e : Ending) (w' : World) : Prop :=
  ∃ A c, e = .returned (.tuple #[.slice A bs.length c, .int .i64 0]) ∧ w'.ownsRow w.heap.size 5 1 (.slice A bs.length c) bs.length (bs.map (.int .u8)) ∧ Below w.heap.size w w'
set_option maxRecDepth 100000 in
set_option maxHeartbeats 4000000 in
theorem rvalue_b (n : Int) (hn : 0 ≤ n ∧ n < 256) (w : World) :
    Calls Tryz.prog 61 #[.int .u8 98, .agg #[.int .u64 n, .string ⟨#[]⟩, .slice none 0 0]] w (RvPost (lowL n 1) w) := by
  obtain ⟨wA, hA⟩ : ∃ wA, wA = w.alloc (.cells #[.int .u64 n, .string ⟨#[]⟩, .slice none 0 0] 79) := ⟨_, rfl⟩
  have bX : Blk wA w.heap.size 79 #[.int .u64 n, .string ⟨#[]⟩, .slice none 0 0] := by rw [hA]; exact Blk.new _ _ _
  have BA : Below w.heap.size w wA := by rw [hA]; exact (Below.refl _ _).alloc (Nat.le_refl _) _
  have hlow : ∀ V, Calls Tryz.prog 91 #[.int .u64 n, .int .i64 1] V fun e w' => ∃ A c, e = .returned (.slice A 1 c) ∧ w'.ownsRow V.heap.size 5 1 (.slice A 1 c) 1 ((lowL n 1).map (.int .u8)) ∧ Below V.heap.size V w' := fun V => rlow_any n (by omega) 1 (by omega) V
  have HLL := Lib.hid (lowL_len n 1)
  have hw : Calls Tryz.prog 89 #[.int .u8 98] wA fun e w' => e = .returned (.int .i64 1) ∧ w' = wA := rwidth_any 98 (by decide) wA
  have d1 : ¬ (256 : Int) ≤ n := by omega
  have HLOW := Lib.hid hlow
  clear hn hlow
  go_enter Tryz.func61, Tryz.ntmps61
  go_upto_region 1 with fail
  rw [← hA]
  clear hA
  have cX := bX.cells
  have lX := bX.lt
  go_wp2_with fail
  refine hw.mono ?_
  rintro e wq ⟨rfl, hw⟩
  replace hw := hw.symm
  subst hw
  go_wp2_with fail
  go_quiet (fail)
  go_wp2_with fail
  refine (HLOW.out (wA.drewN nq)).mono ?_
  rintro e w3 ⟨A, c, rfl, ho, hb3⟩
  have B3 : Below w.heap.size w w3 := (below_drewN' BA nq).trans (hb3.mono BA.size)
  have ho3 := own_base ho (show w.heap.size ≤ (wA.drewN nq).heap.size from BA.size)
  go_wp2_with fail
  go_ret2
  exact ⟨A, c, by rw [HLL.out]; rfl, by rw [HLL.out]; exact ho3, B3⟩
set_option maxRecDepth 100000 in
set_option maxHeartbeats 4000000 in
theorem rvalue_w (n : Int) (hn : 0 ≤ n ∧ n < 65536) (w : World) :
    Calls Tryz.prog 61 #[.int .u8 119, .agg #[.int .u64 n, .string ⟨#[]⟩, .slice none 0 0]] w (RvPost (lowL n 2) w) := by
  obtain ⟨wA, hA⟩ : ∃ wA, wA = w.alloc (.cells #[.int .u64 n, .string ⟨#[]⟩, .slice none 0 0] 79) := ⟨_, rfl⟩
  have bX : Blk wA w.heap.size 79 #[.int .u64 n, .string ⟨#[]⟩, .slice none 0 0] := by rw [hA]; exact Blk.new _ _ _
  have BA : Below w.heap.size w wA := by rw [hA]; exact (Below.refl _ _).alloc (Nat.le_refl _) _
  have hlow : ∀ V, Calls Tryz.prog 91 #[.int .u64 n, .int .i64 2] V fun e w' => ∃ A c, e = .returned (.slice A 2 c) ∧ w'.ownsRow V.heap.size 5 1 (.slice A 2 c) 2 ((lowL n 2).map (.int .u8)) ∧ Below V.heap.size V w' := fun V => rlow_any n (by omega) 2 (by omega) V
  have HLL := Lib.hid (lowL_len n 2)
  have hw : Calls Tryz.prog 89 #[.int .u8 119] wA fun e w' => e = .returned (.int .i64 2) ∧ w' = wA := rwidth_any 119 (by decide) wA
  have d1 : ¬ (65536 : Int) ≤ n := by omega
  have HLOW := Lib.hid hlow
  clear hn hlow
  go_enter Tryz.func61, Tryz.ntmps61
  go_upto_region 1 with fail
  rw [← hA]
  clear hA
  have cX := bX.cells
  have lX := bX.lt
  go_wp2_with fail
  refine hw.mono ?_
  rintro e wq ⟨rfl, hw⟩
  replace hw := hw.symm
  subst hw
  go_wp2_with fail
  go_quiet (fail)
  go_wp2_with fail
  refine (HLOW.out (wA.drewN nq)).mono ?_
  rintro e w3 ⟨A, c, rfl, ho, hb3⟩
  have B3 : Below w.heap.size w w3 := (below_drewN' BA nq).trans (hb3.mono BA.size)
  have ho3 := own_base ho (show w.heap.size ≤ (wA.drewN nq).heap.size from BA.size)
  go_wp2_with fail
  go_ret2
  exact ⟨A, c, by rw [HLL.out]; rfl, by rw [HLL.out]; exact ho3, B3⟩
set_option maxRecDepth 100000 in
set_option maxHeartbeats 4000000 in
theorem rvalue_l (l : List Int) (A : Option Addr) (c : Nat) (w : World) (hR : Reads w A (l.map (.int .u32))) (hl : l.length ≤ 60) (hr : ∀ n ∈ l, 0 ≤ n ∧ n < 4294967296) :
    Calls Tryz.prog 61 #[.int .u8 108, .agg #[.int .u64 0, .string ⟨#[]⟩, .slice A l.length c]] w (RvPost ((l.length : Int) :: l.flatMap le4) w) := by
  obtain ⟨wA, hA⟩ : ∃ wA, wA = w.alloc (.cells #[.int .u64 0, .string ⟨#[]⟩, .slice A l.length c] 79) := ⟨_, rfl⟩
  have bX : Blk wA w.heap.size 79 #[.int .u64 0, .string ⟨#[]⟩, .slice A l.length c] := by rw [hA]; exact Blk.new _ _ _
  have BA : Below w.heap.size w wA := by rw [hA]; exact (Below.refl _ _).alloc (Nat.le_refl _) _
  have hw : Calls Tryz.prog 89 #[.int .u8 108] wA fun e w' => e = .returned (.int .i64 0) ∧ w' = wA := rwidth_any 108 (by decide) wA
  have hgr := fun V => rgroups_small (l.length : Int) (by omega) V
  have d1 : ¬ (60 : Int) < l.length := by omega
  have e1 : IntKind.u64.wrap (l.length : Int) = l.length := by rw [IntKind.wrap_u64]; omega
  obtain ⟨i0, hi, hz0, hz1, hz2⟩ := info_parts Tryz.infoByte
  have HGR := Lib.hid hgr
  have HR := Lib.hid hR
  have HRR := Lib.hid hr
  have HL := Lib.hid hl
  clear hgr hR hr hl
  go_enter Tryz.func61, Tryz.ntmps61
  go_upto_region 1 with fail
  rw [← hA]
  clear hA
  have cX := bX.cells
  have lX := bX.lt
  go_wp2_with fail
  refine hw.mono ?_
  rintro e wq ⟨rfl, hw⟩
  replace hw := hw.symm
  subst hw
  go_wp2_with fail
  go_quiet (fail)
  go_wp2_with fail
  refine (HGR.out (wA.drewN nq)).mono ?_
  rintro e w3 ⟨ga, gc, rfl, ho, hb3⟩
  have B3 : Below wA.heap.size wA w3 := (below_drewN' (Below.refl _ _) nq).trans hb3
  have ho3 : w3.ownsRow wA.heap.size 5 1 (.slice ga 1 gc) 1 [.int .u8 (l.length : Int)] := ho
  clear HGR ho hb3 cX lX e1
  go_wp2_with fail
  go_loopw [7, 8] (fun v q wr => ∃ k : Nat, k ≤ l.length ∧ q = .int .i64 k ∧ wr.ownsRow wA.heap.size 5 1 v (1 + 4 * k) (((l.length : Int) :: (l.take k).flatMap le4).map (.int .u8)) ∧ Below wA.heap.size wA wr) (fun _ q _ => l.length - (RowKit.intOf q).toNat)
  case atStart => exact ⟨0, Nat.zero_le _, rfl, ho3, B3⟩
  case round =>
    obtain ⟨k, hk, rfl, hown, hB⟩ := hrel
    clear ho3 B3
    obtain ⟨fa, fc, rfl⟩ := own_slice hown
    have hbx := bX.belowAll hB
    have cX := hbx.cells
    have lX := hbx.lt
    have HOWN := Lib.hid hown
    have HB := Lib.hid hB
    clear hown hB
    by_cases hlt : k < l.length
    · have d2 : (k : Int) < l.length := by omega
      have BW := BA.trans (HB.out.mono BA.size)
      obtain ⟨g, o, rfl, -, hc⟩ := (HR.out.below BW).at_ (k := k) (by simpa using hlt)
      rw [List.getElem_map] at hc
      have hs1 := Lib.hid (take_le4 hlt)
      have hx := HRR.out _ (List.getElem_mem hlt)
      generalize l[k] = x at hc hs1 hx
      have e2 : IntKind.u64.wrap x = x := by rw [IntKind.wrap_u64]; omega
      have hlow : Calls Tryz.prog 91 #[.int .u64 x, .int .i64 4] wr fun e w' => ∃ A c, e = .returned (.slice A 4 c) ∧ w'.ownsRow wr.heap.size 5 1 (.slice A 4 c) 4 ((lowL x 4).map (.int .u8)) ∧ Below wr.heap.size wr w' := rlow_any x (by omega) 4 (by omega) wr
      rw [lowL_4] at hlow
      have hl60 := HL.out
      clear BW
      go_wp2_with fail
      refine hlow.mono ?_
      rintro e w4 ⟨La, Lc, rfl, ho4, hb4⟩
      have hoX := own_below HOWN.out hb4
      have BX := HB.out.trans (hb4.mono HB.out.size)
      have rX := Reads.of_own ho4
      clear hlow cX lX hc
      go_wp2_with (at_builtin; refine wpList_append_any _ rfl (.tmp 95) (.tmp 102) _ rfl wA.heap.size 5 i0 (.int .u8 0) 1 Tryz.underlying29 hi hz0 hz1 hz2 rfl (.slice fa (1 + 4 * k) fc) _ _ rfl hoX La 4 Lc ((le4 x).map (.int .u8)) rfl rfl (fun h => by subst h; exact absurd (Reads.none_ rX) (by simp [le4])) rX (by simp [le4, Value.oneCell']) (by simp only [maxLen]; omega) (by omega) BX.size ?_; intro v' w5 hown hgrow hat; have hB5 := BX.grown hgrow BX.size (fun q hq => (own_lt hoX q hq).1))
      go_roundw
      case rel => exact ⟨k + 1, by omega, by go_num, by
        rw [hs1.out, show 1 + 4 * (k + 1) = 1 + 4 * k + 4 by omega, ← List.cons_append, List.map_append]
        exact hown, hB5⟩
      case measure => simp [RowKit.intOf]; omega
    · obtain rfl : k = l.length := by omega
      have hlen : ((l.length : Int) :: l.flatMap le4).length = 1 + 4 * l.length := by rw [List.length_cons, le4s_length]; omega
      have HLE := Lib.hid hlen
      have ho := HOWN.out
      rw [List.take_length] at ho
      have HO := Lib.hid ho
      clear hlen ho HOWN
      go_wp2_with fail
      go_ret2
      exact ⟨fa, fc, by rw [HLE.out]; rfl, by rw [HLE.out]; exact own_base HO.out BA.size, BA.trans (HB.out.mono BA.size)⟩
end Go.Proofs.YtjocnooekgnedaaGreatDoor
/- Layer 11: the reference's records.Encode at the form of inodes. -/
namespace Go.Proofs.YtjocnooekgnedaaGreatDoor
open Go.RowKit Go.Maps

attribute [local go_sem] Oper.semAt_some

theorem frm_let (k : Nat) (hk : k < 8) : ∃ c : Int, (c = 98 ∨ c = 119 ∨ c = 108) ∧ kdLet (frmP k) = c := by
  have h1 : k = 0 ∨ k = 1 ∨ k = 2 ∨ k = 3 ∨ k = 4 ∨ k = 5 ∨ k = 6 ∨ k = 7 := by omega
  rcases h1 with rfl | rfl | rfl | rfl | rfl | rfl | rfl | rfl
  all_goals exact ⟨_, by decide, rfl⟩
set_option maxRecDepth 100000 in
set_option maxHeartbeats 4000000 in
theorem rform_any (w : World) : Calls Tryz.prog 60 #[.string frm] w fun e w' => e = .returned (.int .i64 0) ∧ w' = w := by
  go_enter Tryz.func60, Tryz.ntmps60
  go_wp2_with fail
  go_loopw [3] (fun q wr => ∃ k : Nat, k ≤ 8 ∧ q = .int .i64 k ∧ wr = w) (fun q _ => 8 - (RowKit.intOf q).toNat)
  case atStart => exact ⟨0, by omega, rfl, rfl⟩
  case round =>
    obtain ⟨k, hk, rfl, hw⟩ := hrel
    subst hw
    by_cases hlt : k < 8
    · have d1 : (k : Int) < 8 := by omega
      have hix := frm_at k hlt
      obtain ⟨c, hc, hkc⟩ := frm_let k hlt
      rw [hkc] at hix
      clear hkc
      have hwd := rwidth_any c hc wr
      rcases hc with rfl | rfl | rfl
      all_goals
        as_aux_lemma =>
          go_wp2_with fail
          refine hwd.mono ?_
          rintro e wq ⟨rfl, hw⟩
          replace hw := hw.symm
          subst hw
          simp only [widV]
          clear hwd
          go_wp2_with fail
          go_roundw
          case rel => exact ⟨k + 1, by omega, by go_num, by first | rfl | trivial⟩
          case measure => simp [RowKit.intOf]; omega
    · obtain rfl : k = 8 := by omega
      go_wp2_with fail
      go_ret
      exact ⟨rfl, rfl⟩

theorem encP_step (v : Ino) (k : Nat) (bs : List Int) (h : (encPs v)[k]? = some bs) : encP v (k + 1) = encP v k ++ bs := by
  unfold encP
  rw [List.take_add_one, h, List.flatten_append]; simp
theorem low_1 {n : Int} (h : 0 ≤ n ∧ n < 256) : lowL n 1 = [n] := by simp [lowL]; omega
theorem low_2 {n : Int} (h : 0 ≤ n ∧ n < 65536) : lowL n 2 = [n % 256, n / 256] := by simp [lowL]; omega
/-- What value makes of each of an inode's values. -/
theorem rval_at (v : Ino) (hb : (0 ≤ v.kind ∧ v.kind ≤ 4) ∧ (0 ≤ v.links ∧ v.links ≤ 120) ∧ (0 ≤ v.size ∧ v.size ≤ 384) ∧ (0 ≤ v.major ∧ v.major ≤ 255) ∧ (0 ≤ v.minor ∧ v.minor ≤ 255) ∧ (0 ≤ v.parent ∧ v.parent ≤ 60))
    (hl : v.blocks.length ≤ 8 ∧ v.attrs.length ≤ 3) (hr : ∀ n ∈ v.all, 0 ≤ n ∧ n < 4294967296) (A : Option Addr) (c : Nat) (A2 : Option Addr) (c2 : Nat) (w : World) (hA : Reads w A (v.blocks.map (.int .u32))) (hA2 : Reads w A2 (v.attrs.map (.int .u32))) (k : Nat) (hk : k < 8) :
    ∃ (x0 : Int) (X2 : Value) (bs : List Int), rcAt v (.slice A v.blocks.length c) (.slice A2 v.attrs.length c2) k = [.int .u64 x0, .string ⟨#[]⟩, X2] ∧
      (∀ W, Below w.heap.size w W → Calls Tryz.prog 61 #[.int .u8 (kdLet (frmP k)), .agg #[.int .u64 x0, .string ⟨#[]⟩, X2]] W (RvPost bs W)) ∧ encP v (k + 1) = encP v k ++ bs ∧ bs.length ≤ 300 := by
  obtain ⟨b1, b2, b3, b4, b5, b6⟩ := hb
  have h1 : k = 0 ∨ k = 1 ∨ k = 2 ∨ k = 3 ∨ k = 4 ∨ k = 5 ∨ k = 6 ∨ k = 7 := by omega
  rcases h1 with rfl | rfl | rfl | rfl | rfl | rfl | rfl | rfl
  · exact ⟨v.kind, .slice none 0 0, [v.kind], rfl, fun W _ => low_1 (n := v.kind) (by omega) ▸ rvalue_b v.kind (by omega) W, encP_step v 0 _ rfl, by simp⟩
  · exact ⟨v.links, .slice none 0 0, [v.links], rfl, fun W _ => low_1 (n := v.links) (by omega) ▸ rvalue_b v.links (by omega) W, encP_step v 1 _ rfl, by simp⟩
  · exact ⟨v.size, .slice none 0 0, [v.size % 256, v.size / 256], rfl, fun W _ => low_2 (n := v.size) (by omega) ▸ rvalue_w v.size (by omega) W, encP_step v 2 _ rfl, by simp⟩
  · exact ⟨v.major, .slice none 0 0, [v.major], rfl, fun W _ => low_1 (n := v.major) (by omega) ▸ rvalue_b v.major (by omega) W, encP_step v 3 _ rfl, by simp⟩
  · exact ⟨v.minor, .slice none 0 0, [v.minor], rfl, fun W _ => low_1 (n := v.minor) (by omega) ▸ rvalue_b v.minor (by omega) W, encP_step v 4 _ rfl, by simp⟩
  · exact ⟨v.parent, .slice none 0 0, [v.parent], rfl, fun W _ => low_1 (n := v.parent) (by omega) ▸ rvalue_b v.parent (by omega) W, encP_step v 5 _ rfl, by simp⟩
  · exact ⟨0, .slice A v.blocks.length c, (v.blocks.length : Int) :: v.blocks.flatMap le4, rfl, fun W hW => rvalue_l v.blocks A c W (hA.below hW) (by omega) (fun n hn => hr n (List.mem_append_left _ hn)), encP_step v 6 _ rfl, by rw [List.length_cons, le4s_length]; omega⟩
  · exact ⟨0, .slice A2 v.attrs.length c2, (v.attrs.length : Int) :: v.attrs.flatMap le4, rfl, fun W hW => rvalue_l v.attrs A2 c2 W (hA2.below hW) (by omega) (fun n hn => hr n (List.mem_append_right _ hn)), encP_step v 7 _ rfl, by rw [List.length_cons, le4s_length]; omega⟩

set_option maxRecDepth 100000 in
set_option maxHeartbeats 4000000 in
theorem rencode5_form (v : Ino) (hb : (0 ≤ v.kind ∧ v.kind ≤ 4) ∧ (0 ≤ v.links ∧ v.links ≤ 120) ∧ (0 ≤ v.size ∧ v.size ≤ 384) ∧ (0 ≤ v.major ∧ v.major ≤ 255) ∧ (0 ≤ v.minor ∧ v.minor ≤ 255) ∧ (0 ≤ v.parent ∧ v.parent ≤ 60))
    (hl : v.blocks.length ≤ 8 ∧ v.attrs.length ≤ 3) (hr : ∀ n ∈ v.all, 0 ≤ n ∧ n < 4294967296) (B : Nat) (A : Option Addr) (c : Nat) (A2 : Option Addr) (c2 : Nat) (w : World)
    (bB : Blk w B 79 (rcC v (.slice A v.blocks.length c) (.slice A2 v.attrs.length c2))) (hA : Reads w A (v.blocks.map (.int .u32))) (hA2 : Reads w A2 (v.attrs.map (.int .u32))) :
    Calls Tryz.prog 30 #[.string frm, .slice (some ⟨B, 0, none⟩) 8 8] w (RencPost w v) := by
  have hp := rform_any w
  obtain ⟨i0, hi, hz0, hz1, hz2⟩ := info_parts Tryz.infoByte
  have HL := Lib.hid hl
  have hval := fun k hk => rval_at v hb hl hr A c A2 c2 w hA hA2 k hk
  have HVAL := Lib.hid hval
  have HBB := Lib.hid bB
  clear hb hl hr hA hA2 hval bB
  go_enter Tryz.func30, Tryz.ntmps30
  go_wp2_with fail
  refine hp.mono ?_
  rintro e wq ⟨rfl, hw⟩
  replace hw := hw.symm
  subst hw
  clear hp
  go_wp2_with fail
  go_loopw [7, 8] (fun u q wr => ∃ k : Nat, k ≤ 8 ∧ q = .int .i64 k ∧ wr.ownsRow w.heap.size 5 1 u (encP v k).length ((encP v k).map (.int .u8)) ∧ Below w.heap.size w wr) (fun _ q _ => 8 - (RowKit.intOf q).toNat)
  case atStart => exact ⟨0, by omega, rfl, World.ownsRow_nil _ _ _ _, Below.refl _ _⟩
  case round =>
    obtain ⟨k, hk, rfl, hown, hB⟩ := hrel
    obtain ⟨fa, fc, rfl⟩ := own_slice hown
    have hlen := encPs_len v k HL.out
    by_cases hlt : k < 8
    · have d1 : (k : Int) < 8 := by omega
      have hix := frm_at k hlt
      obtain ⟨x0, X2, bs, hrc, hcl, hst, hbl⟩ := HVAL.out k hlt
      have hxc : ∀ W, Below w.heap.size w W → W.cell? ⟨B, k * 3, none⟩ = some (.int .u64 x0) ∧ W.cell? ⟨B, k * 3 + 1, none⟩ = some (.string ⟨#[]⟩) ∧ W.cell? ⟨B, k * 3 + 2, none⟩ = some X2 := fun W hW => by
        have hb := HBB.out.belowAll hW
        have hg : ∀ i, i < 3 → W.cell? ⟨B, k * 3 + i, none⟩ = ([.int .u64 x0, .string ⟨#[]⟩, X2] : List Value)[i]? := fun i hi => by rw [hb.cells, rc_cells v _ _ k i hlt hi, hrc]
        exact ⟨hg 0 (by omega), hg 1 (by omega), hg 2 (by omega)⟩
      have HXC := Lib.hid hxc
      have HCL := Lib.hid hcl
      have HST := Lib.hid hst
      have HOWN := Lib.hid hown
      have HB := Lib.hid hB
      generalize kdLet (frmP k) = cc at hix HCL
      clear hrc hcl hst hxc hown hB
      go_upto_region 10 with fail
      refine wp_region_mix [.take 0, .take 1, .take 2, .take 3, .take 4, .take 5, .take 6, .one 7, .take 8, .take 9, .take 10, .take 11, .take 12] 13 (fun W => W.cell? ⟨B, k * 3, none⟩ = some (.int .u64 x0) ∧ W.cell? ⟨B, k * 3 + 1, none⟩ = some (.string ⟨#[]⟩) ∧ W.cell? ⟨B, k * 3 + 2, none⟩ = some X2) (by kernel_rfl) (by kernel_rfl) (fun _ _ _ _ _ h => h) (HXC.out _ HB.out.drew) ?_
      simp only [List.map_cons, List.map_nil, Ms.fill, List.getD_cons_zero, List.getD_cons_succ]
      iterate 7 (refine mixT_take (by rfl) ?_ (fun w' hw' => ?_) ?_; rotate_left; (focus (go_simp; (try with_reducible rfl))); (try simp only [Act.put, List.setIfInBounds_toArray, List.set_cons_zero, List.set_cons_succ]))
      refine mixT_step (by rfl) fun K hK => ?_
      go_simp
      refine (HCL.out wr.drew HB.out.drew).mono ?_
      rintro e w4 ⟨La, Lc, rfl, ho4, hb4⟩
      have BX := HB.out.drew.trans (hb4.mono HB.out.size)
      refine hK _ _ (fun _ => HXC.out _ BX) ?_
      clear hK K
      iterate 5 (refine mixT_take (by rfl) ?_ (fun w' hw' => ?_) ?_; rotate_left; (focus (go_simp; (try with_reducible rfl))); (try simp only [Act.put, List.setIfInBounds_toArray, List.set_cons_zero, List.set_cons_succ]))
      refine mixT_nil ?_
      have hoX : w4.ownsRow w.heap.size 5 1 (.slice fa (encP v k).length fc) (encP v k).length ((encP v k).map (.int .u8)) := own_below HOWN.out ((Below.refl _ _).drew.trans hb4)
      have rX := Reads.of_own ho4
      have hone : ∀ u ∈ bs.map (Value.int .u8), u.oneCell' = true := fun u hu => by
        obtain ⟨q, -, rfl⟩ := List.mem_map.1 hu
        rfl
      have hN : La = none → bs.length = 0 := fun h => by subst h; simpa using Reads.none_ rX
      clear hix HCL HXC
      go_wp2_with (at_builtin; refine wpList_append_any _ rfl (.tmp 45) (.tmp 46) _ rfl w.heap.size 5 i0 (.int .u8 0) 1 Tryz.underlying29 hi hz0 hz1 hz2 rfl (.slice fa (encP v k).length fc) _ _ rfl hoX La bs.length Lc (bs.map (.int .u8)) rfl (by simp) hN rX hone (by simp only [maxLen]; omega) (by omega) BX.size ?_; intro v' w5 hown hgrow hat; have hB5 := BX.grown hgrow BX.size (fun q hq => (own_lt hoX q hq).1))
      go_roundw
      case rel => exact ⟨k + 1, by omega, by go_num, by rw [HST.out, List.length_append, List.map_append]; exact hown, hB5⟩
      case measure => simp [RowKit.intOf]; omega
    · obtain rfl : k = 8 := by omega
      rw [encP_8] at hown hlen
      have d2 : ¬ (4000 : Int) < (encI v).length := by omega
      have HE := Lib.hid (encP_8 v)
      have HO := Lib.hid hown
      clear hown hlen
      rw [HE.out]
      go_wp2_with fail
      go_ret2
      exact ⟨fa, fc, rfl, hB, Reads.of_own HO.out, own_cap HO.out⟩
end Go.Proofs.YtjocnooekgnedaaGreatDoor
/- Layer 11: the reference's Encode. -/
namespace Go.Proofs.YtjocnooekgnedaaGreatDoor
open Go.RowKit Go.Maps

attribute [local go_sem] Oper.semAt_some

abbrev rcZ11 : Array Value := #[.int .u64 0, .string ⟨#[]⟩, .slice none 0 0]
set_option maxRecDepth 100000 in
set_option maxHeartbeats 2000000 in
theorem num11_any (n : Int) (hn : 0 ≤ n ∧ n ≤ 1000000) (w : World) :
    Calls Tryz.prog 31 #[.int .i64 n] w fun e w' => e = .returned (.agg #[.int .u64 n, .string ⟨#[]⟩, .slice none 0 0]) ∧ Below w.heap.size w w' := by
  obtain ⟨wA, hA⟩ : ∃ wA, wA = w.alloc (.cells rcZ11 79) := ⟨_, rfl⟩
  have bX : Blk wA w.heap.size 79 rcZ11 := by rw [hA]; exact Blk.new _ _ _
  have BA : Below w.heap.size w wA := by rw [hA]; exact (Below.refl _ _).alloc (Nat.le_refl _) _
  have e1 : IntKind.u64.wrap n = n := by rw [IntKind.wrap_u64]; omega
  clear hn
  go_enter Tryz.func31, Tryz.ntmps31
  go_upto_region 1 with fail
  rw [← hA]
  clear hA
  have cX := bX.cells
  have lX := bX.lt
  have fX := bX.free
  go_wp2_with fail
  have bF := ((bX.set_ 0 (.int .u64 n)).set_ 1 (.string ⟨#[]⟩)).set_ 2 (.slice none 0 0)
  have cF := bF.cells
  refine bodyPost_ret (v := .agg #[.int .u64 n, .string ⟨#[]⟩, .slice none 0 0]) (by simp [results, Tryz.results31, go_sem, cF]) rfl ?_
  exact ⟨rfl, ((BA.setCell (p := ⟨w.heap.size, 0, none⟩) (Nat.le_refl _) _).setCell (p := ⟨w.heap.size, 1, none⟩) (Nat.le_refl _) _).setCell (p := ⟨w.heap.size, 2, none⟩) (Nat.le_refl _) _⟩

def List11Post (l : List Int) (w : World) (e : Ending) (w' : World) : Prop :=
  ∃ A c, e = .returned (.agg #[.int .u64 0, .string ⟨#[]⟩, .slice A l.length c]) ∧ w'.ownsRow w.heap.size 81 1 (.slice A l.length c) l.length (l.map (.int .u32)) ∧ Below w.heap.size w w'
set_option maxRecDepth 100000 in
set_option maxHeartbeats 4000000 in
theorem list11_any (l : List Int) (A : Option Addr) (c : Nat) (w : World) (hR : Reads w A (l.map (.int .i64))) (hl : l.length ≤ 1000) (hr : ∀ n ∈ l, 0 ≤ n ∧ n < 4294967296) :
    Calls Tryz.prog 32 #[.slice A l.length c] w (List11Post l w) := by
  obtain ⟨i0, hi, hz0, hz1, hz2⟩ := info_parts Tryz.infoU32
  obtain ⟨wA, hA⟩ : ∃ wA, wA = (w.alloc (.cells rcZ11 79)).alloc (.cells rcZ11 79) := ⟨_, rfl⟩
  have bR : Blk wA w.heap.size 79 rcZ11 := by rw [hA]; exact (Blk.new _ _ _).alloc _
  have bX : Blk wA (w.heap.size + 1) 79 rcZ11 := by rw [hA]; exact Blk.new' (by simp)
  have BA : Below w.heap.size w wA := by rw [hA]; (repeat' (first | (with_reducible exact Below.refl _ _) | (with_reducible assumption) | (with_reducible refine Below.alloc ?_ ?_ _) | (with_reducible refine Below.drew ?_) | (with_reducible refine below_drewN' ?_ _) | (with_reducible refine Below.setCell ?_ ?_ _) | (with_reducible exact Nat.le_refl _) | omega | (simp; done) | (simp; omega)))
  have zA : wA.heap.size = w.heap.size + 2 := by rw [hA]; simp
  have HR := Lib.hid hR
  have HRR := Lib.hid hr
  have HL := Lib.hid hl
  have HZ := Lib.hid zA
  clear hR hr hl zA
  go_enter Tryz.func32, Tryz.ntmps32
  go_wp2_with fail
  rw [← hA]
  clear hA
  go_loopw [4] (fun q wr => ∃ (k : Nat) (ga : Option Addr) (gc : Nat), k ≤ l.length ∧ q = .int .i64 k ∧ Blk wr w.heap.size 79 rcZ11 ∧ Blk wr (w.heap.size + 1) 79 #[.int .u64 0, .string ⟨#[]⟩, .slice ga k gc] ∧ wr.ownsRow (w.heap.size + 2) 81 1 (.slice ga k gc) k ((l.take k).map (.int .u32)) ∧ Below w.heap.size w wr ∧ w.heap.size + 2 ≤ wr.heap.size) (fun q _ => l.length - (RowKit.intOf q).toNat)
  case atStart => exact ⟨0, none, 0, Nat.zero_le _, rfl, bR, bX, World.ownsRow_nil _ _ _ _, BA, by rw [HZ.out]; exact Nat.le_refl _⟩
  case round =>
    obtain ⟨k, ga, gc, hk, rfl, hbR, hbX, hown, hB, hsz⟩ := hrel
    clear bR bX BA
    by_cases hlt : k < l.length
    · have d1 : (k : Int) < l.length := by omega
      obtain ⟨ab, ao, rfl, hab, hc⟩ := HR.out.at_ (k := k) (by simpa using hlt)
      rw [List.getElem_map] at hc
      have hs1 := Lib.hid (take_map hlt (Value.int .u32))
      have hx := HRR.out _ (List.getElem_mem hlt)
      generalize l[k] = x at hc hs1 hx
      have e2 : IntKind.u32.wrap x = x := by rw [IntKind.wrap_u32]; omega
      have hsc : ∀ W, Below w.heap.size w W → Blk W (w.heap.size + 1) 79 #[.int .u64 0, .string ⟨#[]⟩, .slice ga k gc] → W.cell? ⟨w.heap.size + 1, 2, none⟩ = some (.slice ga k gc) ∧ W.cell? ⟨ab, ao + k, none⟩ = some (.int .i64 x) := fun W hW hb => ⟨(hb.cells 2).trans rfl, (hW.cell (p := ⟨ab, ao + k, none⟩) hab).trans hc⟩
      have HSC := Lib.hid hsc
      have hl1 := HL.out
      obtain ⟨X, hX⟩ : ∃ X, X = (wr.alloc (.cells #[.int .u32 x] 81)).drew := ⟨_, rfl⟩
      have bXX : Below wr.heap.size wr X := by rw [hX]; exact ((Below.refl _ _).alloc (Nat.le_refl _) _).drew
      have rX : Reads X (some ⟨wr.heap.size, 0, none⟩) [.int .u32 x] := by
        rw [hX]
        exact .inr ⟨wr.heap.size, 0, rfl, by simp, fun j u hu => by
          rw [Nat.zero_add]
          exact ((Blk.new wr 81 #[.int .u32 x]).drew.cells j).trans (by simpa using hu)⟩
      have hoX := own_below hown bXX
      have hbXX := hbX.belowAll bXX
      have hbRX := hbR.belowAll bXX
      have BX := hB.trans (bXX.mono hB.size)
      have hszX : w.heap.size + 2 ≤ X.heap.size := Nat.le_trans hsz bXX.size
      have HX := Lib.hid hX
      have HB := Lib.hid (And.intro hB hbX)
      clear hc hx hsc hX hk hbR hbX hown hB bXX
      go_upto_region 5 with fail
      refine wp_region_mix [.take 0, .take 1, .take 2, .take 3, .take 4, .take 5, .take 6, .one 7, .one 8, .one 9, .one 10] 9 (fun W => W.cell? ⟨w.heap.size + 1, 2, none⟩ = some (.slice ga k gc) ∧ W.cell? ⟨ab, ao + k, none⟩ = some (.int .i64 x)) (by kernel_rfl) (by kernel_rfl) (fun _ _ _ _ _ h => h) (HSC.out _ HB.out.1.drew HB.out.2.drew) ?_
      simp only [List.map_cons, List.map_nil, Ms.fill, List.getD_cons_zero, List.getD_cons_succ]
      iterate 7 (refine mixT_take (by rfl) ?_ (fun w' hw' => ?_) ?_; rotate_left; (focus (go_simp; (try with_reducible rfl))); (try simp only [Act.put, List.setIfInBounds_toArray, List.set_cons_zero, List.set_cons_succ]))
      refine mixT_step (by rfl) fun K hK => ?_
      go_simp
      rw [← HX.out]
      refine hK _ _ (fun _ => HSC.out _ BX hbXX) ?_
      clear hK K
      refine mixT_step (by rfl) fun K hK => ?_
      refine wp_append_any (w := X) _ _ 77 rfl (w.heap.size + 2) 81 i0 (.int .u32 0) 4 Tryz.underlying77 hi hz0 hz1 hz2 rfl (.slice ga k gc) _ _ rfl hoX (some ⟨wr.heap.size, 0, none⟩) 1 1 [.int .u32 x] rfl rfl (fun h => by cases h) rX (by simp [Value.oneCell']) (by simp only [maxLen]; omega) (by omega) hszX ?_
      intro v' w4 hown' hgrow _
      have hfar : ∀ q, (Value.slice ga k gc).ownBlock = some q → w.heap.size + 2 ≤ q := fun q hq => (own_lt hoX q hq).1
      have hbX4 := hbXX.grown hgrow (fun e => by have := hfar _ e.symm; omega)
      have hbR4 := hbRX.grown hgrow (fun e => by have := hfar _ e.symm; omega)
      have B4 := BX.grown hgrow BX.size (fun q hq => by have := hfar q hq; omega)
      have hsz4 : w.heap.size + 2 ≤ w4.heap.size := Nat.le_trans hszX hgrow.size
      obtain ⟨av, cv, rfl⟩ := own_slice hown'
      refine hK _ _ (fun _ => HSC.out _ B4 hbX4) ?_
      clear hK K
      refine mixT_step (by rfl) fun K hK => ?_
      go_simp
      refine hK _ _ (fun h => absurd h (by decide)) ?_
      clear hK K
      have cX4 := hbX4.cells
      have lX4 := hbX4.lt
      have fX4 := hbX4.free
      refine mixT_step (by rfl) fun K hK => ?_
      go_simp
      refine hK _ _ (fun h => absurd h (by decide)) ?_
      clear hK K
      refine mixT_nil ?_
      have hbX5 := hbX4.set_ 2 (.slice av (k + 1) cv)
      have hbR5 := hbR4.far (p := ⟨w.heap.size + 1, 2, none⟩) (by show w.heap.size ≠ w.heap.size + 1; omega) (.slice av (k + 1) cv)
      have B5 := B4.setCell (p := ⟨w.heap.size + 1, 2, none⟩) (by show w.heap.size ≤ w.heap.size + 1; omega) (.slice av (k + 1) cv)
      have ho5 : (w4.setCell ⟨w.heap.size + 1, 2, none⟩ (.slice av (k + 1) cv)).ownsRow (w.heap.size + 2) 81 1 (.slice av (k + 1) cv) (k + 1) ((l.take (k + 1)).map (.int .u32)) := by
        rw [← hs1.out]
        exact ownsRow_setCell_below hown' (by show w.heap.size + 1 < w.heap.size + 2; omega) _
      have hsz5 : w.heap.size + 2 ≤ (w4.setCell ⟨w.heap.size + 1, 2, none⟩ (.slice av (k + 1) cv)).heap.size := by simpa using hsz4
      generalize w4.setCell ⟨w.heap.size + 1, 2, none⟩ (.slice av (k + 1) cv) = w5 at *
      clear cX4 lX4 fX4 hbX4 hbR4 B4 hown' hgrow hoX hbXX hbRX BX rX HX HB HSC
      go_wp2_with fail
      go_roundw
      case rel => exact ⟨k + 1, av, cv, by omega, by go_num, hbR5, hbX5, ho5, B5, hsz5⟩
      case measure => simp [RowKit.intOf]; omega
    · obtain rfl : k = l.length := by omega
      rw [List.take_length] at hown
      have cX := hbX.cells
      have lX := hbX.lt
      have cR := hbR.cells
      have lR := hbR.lt
      have fR := hbR.free
      have HO := Lib.hid hown
      clear hown
      go_wp2_with fail
      have bF := ((hbR.set_ 0 (.int .u64 0)).set_ 1 (.string ⟨#[]⟩)).set_ 2 (.slice ga l.length gc)
      have cF := bF.cells
      refine bodyPost_ret (v := .agg #[.int .u64 0, .string ⟨#[]⟩, .slice ga l.length gc]) (by simp [results, Tryz.results32, go_sem, cF]) rfl ?_
      refine ⟨ga, gc, rfl, own_base (ownsRow_setCell_below (ownsRow_setCell_below (ownsRow_setCell_below HO.out (by show w.heap.size < _; omega) _) (by show w.heap.size < _; omega) _) (by show w.heap.size < _; omega) _) (by omega), ((hB.setCell (p := ⟨w.heap.size, 0, none⟩) (Nat.le_refl _) _).setCell (p := ⟨w.heap.size, 1, none⟩) (Nat.le_refl _) _).setCell (p := ⟨w.heap.size, 2, none⟩) (Nat.le_refl _) _⟩
end Go.Proofs.YtjocnooekgnedaaGreatDoor
/- P11: InodesNone, walked. -/
namespace Go.Proofs.YtjocnooekgnedaaGreatDoor
open Go.RowKit Go.Maps

attribute [local go_sem] Oper.semAt_some

abbrev tx0 : Array Value := #[.pointer none, .int .i64 0, .int .i64 0, .int .i64 0, .int .i64 0, .int .i64 0, .int .i64 0, .int .i64 0, .int .i64 0, .int .i64 0, .int .i64 0, .int .i64 0, .slice none 0 0, .int .i64 0, .int .i64 0, .int .i64 0, .slice none 0 0, .map none, .bool false, .bool false, .bool false]

set_option maxRecDepth 100000 in
theorem wide_any (v : Ino) (A : Option Addr) (n c : Nat) (A2 : Option Addr) (n2 c2 : Nat) (w : World) :
    Calls Tryz.prog 10 #[.agg (inoC v (.slice A n c) (.slice A2 n2 c2))] w fun e w' => e = .returned (.bool (decide (100 < n) || decide (100 < n2))) ∧ Below w.heap.size w w' := by
  obtain ⟨wA, hA⟩ : ∃ wA, wA = w.alloc (.cells (inoC v (.slice A n c) (.slice A2 n2 c2)) 26) := ⟨_, rfl⟩
  have bV : Blk wA w.heap.size 26 (inoC v (.slice A n c) (.slice A2 n2 c2)) := by rw [hA]; exact Blk.new _ _ _
  have BA : Below w.heap.size w wA := by rw [hA]; exact (Below.refl _ _).alloc (Nat.le_refl _) _
  have c6 : wA.cell? ⟨w.heap.size, 6, none⟩ = some (.slice A n c) := (bV.cells 6).trans rfl
  have c7 : wA.cell? ⟨w.heap.size, 7, none⟩ = some (.slice A2 n2 c2) := (bV.cells 7).trans rfl
  have lV := bV.lt
  by_cases h1 : 100 < n
  · have d1 : (100 : Int) < n := by omega
    have e1 : (decide (100 < n) || decide (100 < n2)) = true := by simp [h1]
    rw [e1]
    clear h1 e1
    go_enter Tryz.func10, Tryz.ntmps10
    go_wp2_with fail
    rw [← hA]
    clear hA
    go_wp2_with fail
    go_ret
    exact ⟨rfl, BA⟩
  · by_cases h2 : 100 < n2
    · have d1 : ¬ (100 : Int) < n := by omega
      have d2 : (100 : Int) < n2 := by omega
      have e1 : (decide (100 < n) || decide (100 < n2)) = true := by simp [h2]
      rw [e1]
      clear h1 h2 e1
      go_enter Tryz.func10, Tryz.ntmps10
      go_wp2_with fail
      rw [← hA]
      clear hA
      go_wp2_with fail
      go_ret
      exact ⟨rfl, BA⟩
    · have d1 : ¬ (100 : Int) < n := by omega
      have d2 : ¬ (100 : Int) < n2 := by omega
      have e1 : (decide (100 < n) || decide (100 < n2)) = false := by simp [h1, h2]
      rw [e1]
      clear h1 h2 e1
      go_enter Tryz.func10, Tryz.ntmps10
      go_wp2_with fail
      rw [← hA]
      clear hA
      go_wp2_with fail
      go_ret
      exact ⟨rfl, BA⟩

set_option maxRecDepth 100000 in
set_option maxHeartbeats 4000000 in
theorem inodesNone_any (n : Int) (v : Ino) (A : Option Addr) (c : Nat) (A2 : Option Addr) (c2 : Nat) (w : World) (hH : HalfAt w) :
    Calls Tryz.prog 8 #[.int .i64 n, .agg (inoC v (.slice A v.blocks.length c) (.slice A2 v.attrs.length c2))] w fun e w' => e = .returned (.bool true) ∧ Below w.heap.size w w' := by
  have hp0 := hH.1
  have HH := Lib.hid hH
  obtain ⟨wA, hA⟩ : ∃ wA, wA = w.alloc (.cells (inoC v (.slice A v.blocks.length c) (.slice A2 v.attrs.length c2)) 26) := ⟨_, rfl⟩
  have bA : Blk wA w.heap.size 26 (inoC v (.slice A v.blocks.length c) (.slice A2 v.attrs.length c2)) := by rw [hA]; exact Blk.new _ _ _
  have BA : Below w.heap.size w wA := by rw [hA]; exact (Below.refl _ _).alloc (Nat.le_refl _) _
  have hwd := wide_any v A v.blocks.length c A2 v.attrs.length c2 wA
  have cA := bA.cells
  have lA := bA.lt
  clear hH
  go_enter Tryz.func8, Tryz.ntmps8
  go_wp2_with fail
  rw [← hA]
  clear hA
  go_wp2_with fail
  refine hwd.mono ?_
  rintro e w1 ⟨rfl, hb1⟩
  have b1 := bA.belowAll hb1
  have B1 := BA.trans (hb1.mono BA.size)
  clear hwd cA lA bA BA hb1
  generalize (decide (100 < v.blocks.length) || decide (100 < v.attrs.length)) = wd
  cases wd
  rotate_left
  · have hs := shown11_any w1 (HH.out.below B1 hp0)
    go_wp2_with fail
    refine hs.mono ?_
    rintro e w2 ⟨rfl, hb2⟩
    go_wp2_with fail
    go_ret
    exact ⟨rfl, B1.trans (hb2.mono B1.size)⟩
  have hsm := small11_any w1
  go_wp2_with fail
  refine hsm.mono ?_
  rintro e w2 ⟨rfl, hb2⟩
  have B2 := B1.trans (hb2.mono B1.size)
  have b2 := b1.belowAll hb2
  have hbg := begun11_fresh 64 8 10 rgSm w2 (HH.out.below B2 hp0)
  clear hsm hb2 b1 B1
  go_wp2_with fail
  refine hbg.mono ?_
  rintro e w3 ⟨D, T, F, Bd, y, rfl, -, htd, hb3, hFl, -⟩
  have B3 := B2.trans (hb3.mono B2.size)
  have b3 := b2.belowAll hb3
  have hT : T ∈ F := by obtain ⟨M, wv, nv, bT, hT, -⟩ := htd.tx.mem; exact hT
  have hT2 := hFl T hT
  have hst : StE (w3.setCell ⟨T, 20, none⟩ (.bool true)) (.pointer (some ⟨T, 0, none⟩)) 9 := htd.tx.ended.st
  have l2 := b2.lt
  have b4 : Blk (w3.setCell ⟨T, 20, none⟩ (.bool true)) w.heap.size 26 (inoC v (.slice A v.blocks.length c) (.slice A2 v.attrs.length c2)) := b3.far (p := ⟨T, 20, none⟩) (by show w.heap.size ≠ T; omega) _
  have B4 : Below w.heap.size w (w3.setCell ⟨T, 20, none⟩ (.bool true)) := B3.setCell (p := ⟨T, 20, none⟩) (by show w.heap.size ≤ T; have := B2.size; omega) _
  have hab := abort_tx T F D (freeTx 64 8 10) w3 htd.tx rfl
  clear hbg htd hb3 hFl b3 B3 b2 B2 hT hT2 l2
  go_wp2_with fail
  refine hab.mono ?_
  rintro e w4 ⟨rfl, hw4⟩
  rw [← hw4] at hst b4 B4
  clear hab hw4
  go_wp2_with fail
  go_loopw [8] (fun q wr => ∃ k : Nat, k ≤ 3 ∧ q = .int .i64 k ∧ Below w.heap.size w wr ∧ Blk wr w.heap.size 26 (inoC v (.slice A v.blocks.length c) (.slice A2 v.attrs.length c2)) ∧ StE wr (.pointer (some ⟨T, 0, none⟩)) 9) (fun q _ => 3 - (RowKit.intOf q).toNat)
  case atStart => exact ⟨0, by omega, rfl, B4, b4, hst⟩
  case round =>
    obtain ⟨k, hk, rfl, hB, hb, hs⟩ := hrel
    clear hst b4 B4
    by_cases hlt : k < 3
    · have d0 : (k : Int) < 3 := by omega
      go_upto_if 39 with fail
      go_cut [9, 10] from 33 to 81 (fun s9 s10 wx => wx = wr ∧ ∃ (tv : Value) (E : Int), tv = s9 ∧ s10 = .int .i64 E ∧ E ≠ 0 ∧ StE wr tv E)
      case first =>
        by_cases h0 : k = 0
        · have d1 : ((k : Int) == 0) = true := by simp; omega
          go_wp2_with fail
          go_meet
          case rel => exact ⟨rfl, _, _, rfl, rfl, by decide, .inl ⟨rfl, rfl⟩⟩
        · have d1 : ((k : Int) == 0) = false := by simp; omega
          go_wp2_with fail
          go_meet
          case rel => exact ⟨rfl, _, _, rfl, rfl, by decide, hs⟩
      case rest =>
        obtain ⟨hwx, tv, E, rfl, rfl, hE, hst⟩ := hcut
        replace hwx := hwx.symm
        subst hwx
        go_upto_if 41 with fail
        go_cut [9, 10] from 33 to 81 (fun s9 s10 wx => ∃ (tv : Value) (E : Int), tv = s9 ∧ s10 = .int .i64 E ∧ E ≠ 0 ∧ StE wx tv E ∧ Below wr.heap.size wr wx)
        case first =>
          by_cases h0 : k = 1
          · have d1 : ((k : Int) == 1) = true := by simp; omega
            go_wp2_with fail
            go_meet
            case rel => exact ⟨_, _, rfl, rfl, by decide, .inr ⟨_, tx0, rfl, Blk.new _ _ _, .inl ⟨rfl, rfl⟩⟩, (Below.refl _ _).alloc (Nat.le_refl _) _⟩
          · have d1 : ((k : Int) == 1) = false := by simp; omega
            go_wp2_with fail
            go_meet
            case rel => exact ⟨_, _, rfl, rfl, hE, hst, Below.refl _ _⟩
        case rest =>
          obtain ⟨tv2, E2, rfl, rfl, hE2, hst2, hb2⟩ := hcut
          have HB2 := hB.trans (hb2.mono hB.size)
          have bb2 := hb.belowAll hb2
          have hs2 := hs.below hb2
          clear hst hE hb hB hs hb2
          have hg := Get_bad tv2 E2 n wc hst2 hE2
          go_wp2_with fail
          refine hg.mono ?_
          rintro e w5 ⟨bv, av, rfl, hob, hoa, hb5⟩
          obtain ⟨Ab, cb, rfl⟩ := own_slice hob
          obtain ⟨Aa, ca, rfl⟩ := own_slice hoa
          simp only
          obtain ⟨w6, hw6⟩ : ∃ W, W = w5.alloc (.cells (inoC ino0 (.slice Ab ino0.blocks.length cb) (.slice Aa ino0.attrs.length ca)) 26) := ⟨_, rfl⟩
          have b56 : Below w5.heap.size w5 w6 := by rw [hw6]; exact (Below.refl _ _).alloc (Nat.le_refl _) _
          have hb6 := hb5.trans (b56.mono hb5.size)
          have hst6 := hst2.below hb6
          have HB6 := HB2.trans (hb6.mono HB2.size)
          have bb6 := bb2.belowAll hb6
          have hs6 := hs2.below hb6
          have HW6 := Lib.hid hw6
          clear hg hb5 b56 hw6 hst2 HB2 bb2 hs2 hb6 hob hoa
          go_upto_region 15 with fail
          have e6 := HW6.out.symm
          simp only [inoC] at e6
          rw [e6]
          clear e6
          have cB := bb6.cells
          have lB := bb6.lt
          have hal := Alloc_bad tv2 E2 v A c A2 c2 w6 hst6 hE2
          go_wp2_with fail
          refine hal.mono ?_
          rintro e w7 ⟨rfl, hb7⟩
          have hst7 := hst6.below hb7
          have HB7 := HB6.trans (hb7.mono HB6.size)
          have bb7 := bb6.belowAll hb7
          have hs7 := hs6.below hb7
          have hall := All_bad tv2 E2 w7 hst7 hE2
          clear hal hb7 hst6 HB6 bb6 hs6 cB lB HW6
          go_wp2_with fail
          refine hall.mono ?_
          rintro e w8 ⟨rfl, hb8⟩
          have hst8 := hst7.below hb8
          have HB8 := HB7.trans (hb8.mono HB7.size)
          have bb8 := bb7.belowAll hb8
          have hs8 := hs7.below hb8
          have cB := bb8.cells
          have lB := bb8.lt
          have hEE : (E2 != E2) = false := by simp
          have hput := Put_bad tv2 E2 n (inoC v (.slice A v.blocks.length c) (.slice A2 v.attrs.length c2)) rfl w8 hst8 hE2
          clear hall hb8 hst7 HB7 bb7 hs7
          go_wp2_with fail
          refine hput.mono ?_
          rintro e w9 ⟨rfl, hb9⟩
          have HB9 := HB8.trans (hb9.mono HB8.size)
          have bb9 := bb8.belowAll hb9
          have hs9 := hs8.below hb9
          clear hput hb9 hst8 HB8 bb8 hs8 cB lB
          go_wp2_with fail
          go_roundw
          case rel => exact ⟨k + 1, by omega, by go_num, HB9, bb9, hs9⟩
          case measure => simp [RowKit.intOf]; omega
    · obtain rfl : k = 3 := by omega
      have hs2 := shown11_any wr (HH.out.below hB hp0)
      go_wp2_with fail
      refine hs2.mono ?_
      rintro e w5 ⟨rfl, hb5⟩
      go_wp2_with fail
      go_ret
      exact ⟨rfl, hB.trans (hb5.mono hB.size)⟩
end Go.Proofs.YtjocnooekgnedaaGreatDoor
/- Layer 11: the reference's Encode; InodesChecks, walked. -/
namespace Go.Proofs.YtjocnooekgnedaaGreatDoor
open Go.RowKit Go.Maps

attribute [local go_sem] Oper.semAt_some

set_option maxRecDepth 100000 in
set_option maxHeartbeats 8000000 in
theorem rencode11_any (s j i : Int) (v : Ino) (A : Option Addr) (c : Nat) (A2 : Option Addr) (c2 : Nat) (w : World) (h : InoIn w v A c A2 c2) :
    Calls Tryz.prog 13 #[.agg #[.int .i64 s, .int .i64 j, .int .i64 i], .agg (inoC v (.slice A v.blocks.length c) (.slice A2 v.attrs.length c2))] w (InoEncPost s j i v w) := by
  obtain ⟨wA, hA⟩ : ∃ wA, wA = (w.alloc (.cells #[.int .i64 s, .int .i64 j, .int .i64 i] 23)).alloc (.cells (inoC v (.slice A v.blocks.length c) (.slice A2 v.attrs.length c2)) 26) := ⟨_, rfl⟩
  have bL : Blk wA w.heap.size 23 #[.int .i64 s, .int .i64 j, .int .i64 i] := by rw [hA]; exact (by (repeat' (first | (with_reducible assumption) | exact Blk.new' (by simp) | refine Blk.alloc ?_ _)))
  have bX : Blk wA (w.heap.size + 1) 26 (inoC v (.slice A v.blocks.length c) (.slice A2 v.attrs.length c2)) := by rw [hA]; exact (by (repeat' (first | (with_reducible assumption) | exact Blk.new' (by simp) | refine Blk.alloc ?_ _)))
  have BA : Below w.heap.size w wA := by rw [hA]; (repeat' (first | (with_reducible exact Below.refl _ _) | (with_reducible assumption) | (with_reducible refine Below.alloc ?_ ?_ _) | (with_reducible refine Below.drew ?_) | (with_reducible refine below_drewN' ?_ _) | (with_reducible refine Below.setCell ?_ ?_ _) | (with_reducible exact Nat.le_refl _) | omega | (simp; done) | (simp; omega)))
  have hck := rcheck_any s j i v A c A2 c2 wA (h.below BA)
  have HV := Lib.hid h
  have cL := bL.cells
  have lL := bL.lt
  have cX := bX.cells
  have lX := bX.lt
  clear h
  go_enter Tryz.func13, Tryz.ntmps13
  go_wp2_with fail
  rw [← hA]
  clear hA
  go_wp2_with fail
  refine hck.mono ?_
  rintro e w1 ⟨rfl, hb1⟩
  have B1 := BA.trans (hb1.mono BA.size)
  have bX1 := bX.belowAll hb1
  clear hck cL lL cX lX bL bX BA hb1
  by_cases hE : inoE s j i v = 0
  rotate_left
  · as_aux_lemma =>
      have d1 : (inoE s j i v != 0) = true := by simpa using hE
      have HE := Lib.hid hE
      clear hE
      go_wp2_with fail
      go_ret2
      exact ⟨none, 0, 0, rfl, B1, fun h => absurd h HE.out, fun _ => rfl, Nat.le_refl _⟩
  have hk := inoE_ok.1 hE
  have hsm := hk.small
  have HE := Lib.hid hE
  have hkb : (0 ≤ v.kind ∧ v.kind ≤ 4) ∧ (0 ≤ v.links ∧ v.links ≤ 120) ∧ (0 ≤ v.size ∧ v.size ≤ 384) ∧ (0 ≤ v.major ∧ v.major ≤ 255) ∧ (0 ≤ v.minor ∧ v.minor ≤ 255) ∧ (0 ≤ v.parent ∧ v.parent ≤ 60) := ⟨hk.kind, hsm.2.2.1, hsm.2.2.2.1, hsm.2.2.2.2.1, hsm.2.2.2.2.2.1, hsm.2.2.2.2.2.2⟩
  have hlb : v.blocks.length ≤ 8 ∧ v.attrs.length ≤ 3 := ⟨hsm.1, hsm.2.1⟩
  have hrb : ∀ n ∈ v.all, 0 ≤ n ∧ n < 4294967296 := fun n hn => by have := hk.rng n hn; have := rgB_bds s j i; omega
  have HKB := Lib.hid hkb
  have HLB := Lib.hid hlb
  have HRB := Lib.hid hrb
  have hS : ∀ V, Below w1.heap.size w1 V → (fun W => W.cell? ⟨w.heap.size + 1, 0, none⟩ = some (.int .i64 v.kind) ∧ W.cell? ⟨w.heap.size + 1, 1, none⟩ = some (.int .i64 v.links) ∧ W.cell? ⟨w.heap.size + 1, 2, none⟩ = some (.int .i64 v.size) ∧ W.cell? ⟨w.heap.size + 1, 3, none⟩ = some (.int .i64 v.major) ∧ W.cell? ⟨w.heap.size + 1, 4, none⟩ = some (.int .i64 v.minor) ∧ W.cell? ⟨w.heap.size + 1, 5, none⟩ = some (.int .i64 v.parent) ∧ W.cell? ⟨w.heap.size + 1, 6, none⟩ = some (.slice A v.blocks.length c) ∧ W.cell? ⟨w.heap.size + 1, 7, none⟩ = some (.slice A2 v.attrs.length c2)) V := fun V hV => by
    have b := bX1.belowAll hV
    exact ⟨(b.cells 0).trans rfl, (b.cells 1).trans rfl, (b.cells 2).trans rfl, (b.cells 3).trans rfl, (b.cells 4).trans rfl, (b.cells 5).trans rfl, (b.cells 6).trans rfl, (b.cells 7).trans rfl⟩
  have HS := Lib.hid hS
  rw [hE]
  clear hE hk hsm hkb hlb hrb hS bX1
  go_upto_region 4 with fail
  refine wp_region_mix [.take 0, .take 1, .take 3, .take 4, .take 6, .take 7, .take 9, .take 10, .take 12, .take 13, .take 15, .take 16, .take 18, .take 19, .take 21, .take 22, .one 2, .one 5, .one 8, .one 11, .one 14, .one 17, .one 20, .one 23, .one 24, .one 25, .take 26, .take 27, .take 28, .take 29] 30 (fun W => W.cell? ⟨w.heap.size + 1, 0, none⟩ = some (.int .i64 v.kind) ∧ W.cell? ⟨w.heap.size + 1, 1, none⟩ = some (.int .i64 v.links) ∧ W.cell? ⟨w.heap.size + 1, 2, none⟩ = some (.int .i64 v.size) ∧ W.cell? ⟨w.heap.size + 1, 3, none⟩ = some (.int .i64 v.major) ∧ W.cell? ⟨w.heap.size + 1, 4, none⟩ = some (.int .i64 v.minor) ∧ W.cell? ⟨w.heap.size + 1, 5, none⟩ = some (.int .i64 v.parent) ∧ W.cell? ⟨w.heap.size + 1, 6, none⟩ = some (.slice A v.blocks.length c) ∧ W.cell? ⟨w.heap.size + 1, 7, none⟩ = some (.slice A2 v.attrs.length c2)) (by kernel_rfl) (by kernel_rfl) (fun _ _ _ _ _ h => h) (HS.out _ (Below.refl _ _).drew) ?_
  simp only [List.map_cons, List.map_nil, Ms.fill, List.getD_cons_zero, List.getD_cons_succ]
  iterate 16 (refine mixT_take (by rfl) ?_ (fun w' hw' => ?_) ?_; rotate_left; (focus (go_simp; (try with_reducible rfl))); (try simp only [Act.put, List.setIfInBounds_toArray, List.set_cons_zero, List.set_cons_succ]))
  have D0 : Below w1.heap.size w1 w1.drew := (Below.refl _ _).drew
  refine mixT_step (by rfl) fun K hK => ?_
  go_simp
  refine (num11_any v.kind (by have := HKB.out; omega) w1.drew).mono ?_
  rintro e y1 ⟨rfl, hb_1⟩
  have D1 : Below w1.heap.size w1 y1 := D0.trans (hb_1.mono D0.size)
  refine hK _ _ (fun _ => HS.out _ D1) ?_
  clear hK K hb_1
  refine mixT_step (by rfl) fun K hK => ?_
  go_simp
  refine (num11_any v.links (by have := HKB.out; omega) y1).mono ?_
  rintro e y2 ⟨rfl, hb_2⟩
  have D2 : Below w1.heap.size w1 y2 := D1.trans (hb_2.mono D1.size)
  refine hK _ _ (fun _ => HS.out _ D2) ?_
  clear hK K hb_2
  refine mixT_step (by rfl) fun K hK => ?_
  go_simp
  refine (num11_any v.size (by have := HKB.out; omega) y2).mono ?_
  rintro e y3 ⟨rfl, hb_3⟩
  have D3 : Below w1.heap.size w1 y3 := D2.trans (hb_3.mono D2.size)
  refine hK _ _ (fun _ => HS.out _ D3) ?_
  clear hK K hb_3
  refine mixT_step (by rfl) fun K hK => ?_
  go_simp
  refine (num11_any v.major (by have := HKB.out; omega) y3).mono ?_
  rintro e y4 ⟨rfl, hb_4⟩
  have D4 : Below w1.heap.size w1 y4 := D3.trans (hb_4.mono D3.size)
  refine hK _ _ (fun _ => HS.out _ D4) ?_
  clear hK K hb_4
  refine mixT_step (by rfl) fun K hK => ?_
  go_simp
  refine (num11_any v.minor (by have := HKB.out; omega) y4).mono ?_
  rintro e y5 ⟨rfl, hb_5⟩
  have D5 : Below w1.heap.size w1 y5 := D4.trans (hb_5.mono D4.size)
  refine hK _ _ (fun _ => HS.out _ D5) ?_
  clear hK K hb_5
  refine mixT_step (by rfl) fun K hK => ?_
  go_simp
  refine (num11_any v.parent (by have := HKB.out; omega) y5).mono ?_
  rintro e y6 ⟨rfl, hb_6⟩
  have D6 : Below w1.heap.size w1 y6 := D5.trans (hb_6.mono D5.size)
  refine hK _ _ (fun _ => HS.out _ D6) ?_
  clear hK K hb_6
  refine mixT_step (by rfl) fun K hK => ?_
  go_simp
  refine (list11_any v.blocks A c y6 (HV.out.r1.below (B1.trans (D6.mono B1.size))) (by have := HLB.out; omega) (fun n hn => HRB.out n (List.mem_append_left _ hn))).mono ?_
  rintro e y7 ⟨P6, p6, rfl, ho6, hb7⟩
  have D7 : Below w1.heap.size w1 y7 := D6.trans (hb7.mono D6.size)
  refine hK _ _ (fun _ => HS.out _ D7) ?_
  clear hK K
  refine mixT_step (by rfl) fun K hK => ?_
  go_simp
  refine (list11_any v.attrs A2 c2 y7 (HV.out.r2.below (B1.trans (D7.mono B1.size))) (by have := HLB.out; omega) (fun n hn => HRB.out n (List.mem_append_right _ hn))).mono ?_
  rintro e y8 ⟨P7, p7, rfl, ho7, hb8⟩
  have D8 : Below w1.heap.size w1 y8 := D7.trans (hb8.mono D7.size)
  refine hK _ _ (fun _ => HS.out _ D8) ?_
  clear hK K
  obtain ⟨X, hX⟩ : ∃ X, X = y8.alloc (.cells (rcC v (.slice P6 v.blocks.length p6) (.slice P7 v.attrs.length p7)) 79) := ⟨_, rfl⟩
  have bB : Blk X y8.heap.size 79 (rcC v (.slice P6 v.blocks.length p6) (.slice P7 v.attrs.length p7)) := by rw [hX]; exact Blk.new _ _ _
  have b8X : Below y8.heap.size y8 X := by rw [hX]; exact (Below.refl _ _).alloc (Nat.le_refl _) _
  have D9 : Below w1.heap.size w1 X := D8.trans (b8X.mono D8.size)
  have hX2 : y8.alloc (.cells (rcN v.kind ++ rcN v.links ++ rcN v.size ++ rcN v.major ++ rcN v.minor ++ rcN v.parent ++ rcL (.slice P6 v.blocks.length p6) ++ rcL (.slice P7 v.attrs.length p7)).toArray 79) = X := hX.symm
  simp only [List.cons_append, List.nil_append] at hX2
  have HX := Lib.hid hX2
  clear hX hX2
  refine mixT_step (by rfl) fun K hK => ?_
  go_simp
  rw [HX.out]
  refine hK _ _ (fun _ => HS.out _ D9) ?_
  clear hK K
  have hre := rencode5_form v HKB.out HLB.out HRB.out y8.heap.size P6 p6 P7 p7 X bB ((Reads.of_own ho6).below (hb8.trans (b8X.mono hb8.size))) ((Reads.of_own ho7).below b8X)
  refine mixT_step (by rfl) fun K hK => ?_
  go_simp
  refine hre.mono ?_
  rintro e y9 ⟨Ae, ce, rfl, hb9, hre9, hce⟩
  have D10 : Below w1.heap.size w1 y9 := D9.trans (hb9.mono D9.size)
  refine hK _ _ (fun _ => HS.out _ D10) ?_
  clear hK K
  iterate 4 (refine mixT_take (by rfl) ?_ (fun w' hw' => ?_) ?_; rotate_left; (focus (go_simp; (try with_reducible rfl))); (try simp only [Act.put, List.setIfInBounds_toArray, List.set_cons_zero, List.set_cons_succ]))
  refine mixT_nil ?_
  go_wp2_with fail
  go_ret2
  exact ⟨Ae, _, ce, by rw [HE.out]; rfl, B1.trans (D10.mono B1.size), fun _ => ⟨rfl, hre9⟩, fun h => absurd HE.out h, hce⟩
end Go.Proofs.YtjocnooekgnedaaGreatDoor
/- Layer 11: the reference's records, read: a number, a number in groups. -/
namespace Go.Proofs.YtjocnooekgnedaaGreatDoor
open Go.RowKit Go.Maps

attribute [local go_sem] Oper.semAt_some

theorem valL_drop {l : List Int} {m : Nat} (h : m < l.length) : valL (l.drop m) = l[m] + 256 * valL (l.drop (m + 1)) := by
  rw [List.drop_eq_getElem_cons h]; rfl
set_option maxRecDepth 100000 in
set_option maxHeartbeats 4000000 in
theorem rnum5_any (l : List Int) (n : Nat) (A : Option Addr) (c : Nat) (w : World) (hR : Reads w A (l.map (.int .u8))) (hn : l.length = n) (h4 : n ≤ 4) (hb : ∀ b ∈ l, 0 ≤ b ∧ b < 256) :
    Calls Tryz.prog 148 #[.slice A n c] w fun e w' => e = .returned (.int .u64 (valL l)) ∧ w' = w := by
  have e0 : IntKind.i64.wrap ((n : Int) - 1) = (n : Int) - 1 := by rw [IntKind.wrap_i64]; omega
  have HR := Lib.hid hR
  have HN := Lib.hid hn
  have HB := Lib.hid hb
  clear hR hn hb
  go_enter Tryz.func148, Tryz.ntmps148
  go_wp2_with fail
  clear e0
  go_loopw [3, 4] (fun q3 q4 wr => ∃ k : Nat, k ≤ n ∧ q4 = .int .i64 ((k : Int) - 1) ∧ q3 = .int .u64 (valL (l.drop k)) ∧ wr = w) (fun _ q4 _ => (RowKit.intOf q4 + 1).toNat)
  case atStart => exact ⟨n, Nat.le_refl _, rfl, by rw [List.drop_of_length_le (by rw [HN.out]; exact Nat.le_refl _)]; rfl, rfl⟩
  case round =>
    obtain ⟨k, hk, rfl, rfl, hw⟩ := hrel
    subst hw
    rcases k with _ | m
    · have d1 : ¬ (0 : Int) ≤ ((0 : Nat) : Int) - 1 := by omega
      rw [List.drop_zero]
      go_wp2_with fail
      go_ret
      exact ⟨rfl, rfl⟩
    · have hml : m < l.length := by rw [HN.out]; omega
      have hm4 : (m : Int) < 4 := by omega
      rw [show (((m + 1 : Nat) : Int) - 1) = (m : Int) by omega]
      have d1 : (0 : Int) ≤ (m : Int) := by omega
      have d2 : (m : Int) < n := by omega
      obtain ⟨g, o, rfl, hg, hc⟩ := HR.out.at_ (k := m) (by simpa using hml)
      rw [List.getElem_map] at hc
      have hbx := HB.out _ (List.getElem_mem hml)
      have HV := Lib.hid (valL_drop hml)
      have hv := valL_bds (l.drop (m + 1)) (fun b hb => HB.out b (List.mem_of_mem_drop hb))
      have hv2 : valL (l.drop (m + 1)) < 16777216 := by
        have h1 : (l.drop (m + 1)).length ≤ 3 := by rw [List.length_drop, HN.out]; omega
        have h2 : (256 : Int) ^ (l.drop (m + 1)).length ≤ 256 ^ 3 := by
          have h5 : (l.drop (m + 1)).length = 0 ∨ (l.drop (m + 1)).length = 1 ∨ (l.drop (m + 1)).length = 2 ∨ (l.drop (m + 1)).length = 3 := by omega
          rcases h5 with h | h | h | h <;> rw [h] <;> decide
        have h3 : (256 : Int) ^ 3 = 16777216 := by decide
        omega
      have hv0 := hv.1
      clear hv
      generalize l[m] = b at hc hbx HV
      generalize valL (l.drop (m + 1)) = X at hv0 hv2 HV ⊢
      have e1 : IntKind.u64.wrap (256 * X) = 256 * X := by rw [IntKind.wrap_u64]; omega
      have e2 : IntKind.u64.wrap b = b := by rw [IntKind.wrap_u64]; omega
      have e3 : IntKind.u64.wrap (256 * X + b) = 256 * X + b := by rw [IntKind.wrap_u64]; omega
      have e4 : IntKind.i64.wrap ((m : Int) - 1) = (m : Int) - 1 := by rw [IntKind.wrap_i64]; omega
      go_wp2_with fail
      go_roundw
      case rel => exact ⟨m, by omega, rfl, by rw [HV.out]; first | done | rw [Int.add_comm], by first | rfl | trivial⟩
      case measure => first | (simp [RowKit.intOf]; done) | (simp [RowKit.intOf]; omega)

/-- What a number in groups is read as. -/
def GrPost (l : List Int) (w : World) (e : Ending) (w' : World) : Prop :=
  ∃ n k E, e = .returned (.tuple #[.int .u64 n, .int .i64 k, .int .i64 E]) ∧ w' = w ∧ ((E ≠ 0 ∧ ¬ (0 < l.length ∧ l.getD 0 0 < 128)) ∨ (E = 0 ∧ 0 < l.length ∧ l.getD 0 0 < 128 ∧ n = l.getD 0 0 ∧ k = 1) ∨ (E = 0 ∧ 128 ≤ n ∧ 128 ≤ l.getD 0 0))
theorem pow7 (i : Nat) (h : i < 10) : (i < 9 ∧ (1 : Int) ≤ 2 ^ (7 * i) ∧ (2 : Int) ^ (7 * i) ≤ 72057594037927936) ∨ (i = 9 ∧ (2 : Int) ^ (7 * i) = 9223372036854775808) := by
  have h1 : i = 0 ∨ i = 1 ∨ i = 2 ∨ i = 3 ∨ i = 4 ∨ i = 5 ∨ i = 6 ∨ i = 7 ∨ i = 8 ∨ i = 9 := by omega
  rcases h1 with rfl | rfl | rfl | rfl | rfl | rfl | rfl | rfl | rfl | rfl
  all_goals decide
theorem pow7_step (i : Nat) : (2 : Int) ^ (7 * (i + 1)) = 128 * 2 ^ (7 * i) := by
  rw [show 7 * (i + 1) = 7 * i + 7 by omega, Int.pow_add, Int.mul_comm]; rfl
theorem pow7_pos (i : Nat) (h : 0 < i) (h10 : i < 10) : (128 : Int) ≤ 2 ^ (7 * i) := by
  have h1 : i = 1 ∨ i = 2 ∨ i = 3 ∨ i = 4 ∨ i = 5 ∨ i = 6 ∨ i = 7 ∨ i = 8 ∨ i = 9 := by omega
  rcases h1 with rfl | rfl | rfl | rfl | rfl | rfl | rfl | rfl | rfl
  all_goals decide
set_option maxRecDepth 100000 in
set_option maxHeartbeats 4000000 in
theorem rgrouped_any (l : List Int) (A : Option Addr) (c : Nat) (w : World) (hR : Reads w A (l.map (.int .u8))) (hl : l.length ≤ 1000) (hb : ∀ b ∈ l, 0 ≤ b ∧ b < 256) :
    Calls Tryz.prog 149 #[.slice A l.length c] w (GrPost l w) := by
  have HR := Lib.hid hR
  have HB := Lib.hid hb
  have HL := Lib.hid hl
  clear hR hb hl
  go_enter Tryz.func149, Tryz.ntmps149
  go_wp2_with fail
  go_loopw [5, 6] (fun q5 q6 wr => ∃ (i : Nat) (N : Int), i ≤ 10 ∧ i ≤ l.length ∧ q6 = .int .i64 i ∧ q5 = .int .u64 N ∧ 0 ≤ N ∧ N < 2 ^ (7 * i) ∧ (0 < i → 128 ≤ l.getD 0 0) ∧ wr = w) (fun _ q6 _ => 10 - (RowKit.intOf q6).toNat)
  case atStart => exact ⟨0, 0, by omega, Nat.zero_le _, rfl, rfl, by omega, by decide, fun h => absurd h (by omega), rfl⟩
  case round =>
    obtain ⟨i, N, hi, hil, rfl, rfl, hN0, hN1, hfst, hw⟩ := hrel
    subst hw
    have HF := Lib.hid hfst
    clear hfst
    by_cases hlt : i < 10
    rotate_left
    · as_aux_lemma =>
        obtain rfl : i = 10 := by omega
        clear hN1
        go_wp2_with fail
        refine bodyPost_ret (v := .tuple #[.int .u64 0, .int .i64 0, .int .i64 6]) (by simp [results, Tryz.results149, go_sem]) rfl ?_
        exact ⟨0, 0, 6, rfl, rfl, .inl ⟨by decide, fun h => by have := HF.out (by omega); omega⟩⟩
    have d1 : (i : Int) < 10 := by omega
    by_cases hie : i = l.length
    · as_aux_lemma =>
        have d2 : ((i : Int) == (l.length : Int)) = true := by simp; omega
        have HIE := Lib.hid hie
        clear hN1 hie
        go_wp2_with fail
        refine bodyPost_ret (v := .tuple #[.int .u64 0, .int .i64 0, .int .i64 10]) (by simp [results, Tryz.results149, go_sem]) rfl ?_
        refine ⟨0, 0, 10, rfl, rfl, .inl ⟨by decide, fun h => ?_⟩⟩
        rcases Nat.eq_zero_or_pos i with h0 | h0
        · have := HIE.out; omega
        · have := HF.out h0; omega
    have d2 : ((i : Int) == (l.length : Int)) = false := by simp; omega
    have hilt : i < l.length := by omega
    have d3 : (i : Int) < l.length := by omega
    obtain ⟨g, o, rfl, hg, hc⟩ := HR.out.at_ (k := i) (by simpa using hilt)
    rw [List.getElem_map] at hc
    have hbx := HB.out _ (List.getElem_mem hilt)
    have H0 : Hid (i = 0 → l.getD 0 0 = l[i]) := Lib.hid (fun h => by subst h; rw [List.getD_eq_getElem?_getD, List.getElem?_eq_getElem hilt]; rfl)
    generalize l[i] = b at hc hbx H0
    obtain ⟨q, hq⟩ : ∃ q, q = b % 128 := ⟨_, rfl⟩
    have e1 : b.tmod 128 = q := by rw [hq]; exact Int.tmod_eq_emod_of_nonneg hbx.1
    have e2 : IntKind.u8.wrap q = q := by rw [IntKind.wrap_u8]; omega
    have e3 : IntKind.u64.wrap q = q := by rw [IntKind.wrap_u64]; omega
    have hq0 : 0 ≤ q ∧ q < 128 := by omega
    obtain ⟨P, hP⟩ : ∃ P : Int, P = 2 ^ (7 * i) := ⟨_, rfl⟩
    have hp7 := pow7 i hlt
    have e4 : IntKind.i64.wrap (7 * (i : Int)) = 7 * i := by rw [IntKind.wrap_i64]; omega
    rw [← hP] at hp7 hN1
    by_cases h9 : i = 9 ∧ 1 < q
    · as_aux_lemma =>
        obtain ⟨rfl, h9⟩ := h9
        have d4 : (1 : Int) < q := h9
        clear hN1 hp7 hP
        go_wp2_with fail
        refine bodyPost_ret (v := .tuple #[.int .u64 0, .int .i64 0, .int .i64 6]) (by simp [results, Tryz.results149, go_sem]) rfl ?_
        exact ⟨0, 0, 6, rfl, rfl, .inl ⟨by decide, fun h => by have := HF.out (by omega); omega⟩⟩
    have hsum : 0 ≤ q * P ∧ N + q * P < 18446744073709551616 ∧ q * P < 18446744073709551616 := by
      rcases hp7 with ⟨-, h1, h2⟩ | ⟨h1, h2⟩
      · have h3 : q * P ≤ 127 * 72057594037927936 := Int.mul_le_mul (by omega) h2 (by omega) (by omega)
        have h4 : 0 ≤ q * P := Int.mul_nonneg hq0.1 (by omega)
        omega
      · have hq1 : q ≤ 1 := by omega
        have h5 : q = 0 ∨ q = 1 := by omega
        rcases h5 with rfl | rfl <;> omega
    obtain ⟨S, hS⟩ : ∃ S, S = q * P := ⟨_, rfl⟩
    rw [← hS] at hsum
    have f1 : IntKind.u64.wrap (q * 2 ^ (7 * i)) = S := by rw [← hP, ← hS, IntKind.wrap_u64]; omega
    have f2 : IntKind.u64.wrap (N + S) = N + S := by rw [IntKind.wrap_u64]; omega
    have hnext : N + S < 2 ^ (7 * (i + 1)) := by
      rw [pow7_step, ← hP, hS]
      have h1 : q * P ≤ 127 * P := Int.mul_le_mul_of_nonneg_right (by omega) (by omega)
      omega
    have hbig : 0 < i → q ≠ 0 → 128 ≤ N + S := fun h0 h1 => by
      have h2 := pow7_pos i h0 hlt
      rw [← hP] at h2
      have h3 : 1 * P ≤ q * P := Int.mul_le_mul_of_nonneg_right (by omega) (by omega)
      omega
    have hfirst : i = 0 → b < 128 → N + S = b := fun h0 h1 => by
      subst h0
      have hP1 : P = 1 := hP
      rw [hS, hP1]
      have : N = 0 := by omega
      omega
    have hnn : 0 ≤ N + S := by omega
    have HQ := Lib.hid hq
    have HNX := Lib.hid (And.intro hnext (And.intro hbig (And.intro hfirst hnn)))
    have hi9' : Hid (i = 9 → ¬ 1 < q) := Lib.hid fun h1 h2 => h9 ⟨h1, h2⟩
    clear hP hS hq hp7 hsum hnext hbig hfirst hnn h9 hie hN1 hN0
    have h99 : i = 9 ∨ i ≠ 9 := by omega
    rcases h99 with h99 | h99
    all_goals
      as_aux_lemma =>
        first
          | (have d4 : ((i : Int) == 9) = true := by
               rw [beq_iff_eq]; omega
             have d5 : ¬ (1 : Int) < q := hi9'.out h99)
          | have d4 : ((i : Int) == 9) = false := by
              rw [beq_eq_false_iff_ne]; omega
        clear h99
        by_cases hb8 : b < 128
        · by_cases h0 : i = 0
          · have d6 : ¬ (0 : Int) < i := by omega
            have e7 : IntKind.i64.wrap ((i : Int) + 1) = (i : Int) + 1 := by rw [IntKind.wrap_i64]; omega
            have H00 := Lib.hid h0
            clear h0
            go_wp2_with fail
            refine bodyPost_ret (v := .tuple #[.int .u64 (N + S), .int .i64 ((i : Int) + 1), .int .i64 0]) (by simp [results, Tryz.results149, go_sem]) rfl ?_
            have hz := H0.out H00.out
            exact ⟨_, _, _, rfl, rfl, .inr (.inl ⟨rfl, by omega, by rw [hz]; exact hb8, by rw [hz]; exact HNX.out.2.2.1 H00.out hb8, by have := H00.out; omega⟩)⟩
          · have d6 : (0 : Int) < i := by omega
            have HI0 : Hid (0 < i) := Lib.hid (by omega)
            clear h0
            by_cases hq0' : q = 0
            · have d7 : (q == 0) = true := by simpa using hq0'
              clear hq0'
              go_wp2_with fail
              refine bodyPost_ret (v := .tuple #[.int .u64 0, .int .i64 0, .int .i64 6]) (by simp [results, Tryz.results149, go_sem]) rfl ?_
              exact ⟨0, 0, 6, rfl, rfl, .inl ⟨by decide, fun h => by have := HF.out HI0.out; omega⟩⟩
            · have d7 : (q == 0) = false := by simpa using hq0'
              have HQ0 := Lib.hid hq0'
              have e7 : IntKind.i64.wrap ((i : Int) + 1) = (i : Int) + 1 := by rw [IntKind.wrap_i64]; omega
              clear hq0'
              go_wp2_with fail
              refine bodyPost_ret (v := .tuple #[.int .u64 (N + S), .int .i64 ((i : Int) + 1), .int .i64 0]) (by simp [results, Tryz.results149, go_sem]) rfl ?_
              exact ⟨_, _, _, rfl, rfl, .inr (.inr ⟨rfl, HNX.out.2.1 HI0.out HQ0.out, HF.out HI0.out⟩)⟩
        · have HB8 : Hid (0 < i + 1 → 128 ≤ l.getD 0 0) := Lib.hid fun _ => by
            rcases Nat.eq_zero_or_pos i with h0 | h0
            · rw [H0.out h0]; omega
            · exact HF.out h0
          go_wp2_with fail
          go_roundw
          case rel => exact ⟨i + 1, N + S, by omega, by omega, by go_num, rfl, HNX.out.2.2.2, HNX.out.1, HB8.out, by first | rfl | trivial⟩
          case measure => simp [RowKit.intOf]; omega
end Go.Proofs.YtjocnooekgnedaaGreatDoor
/- Layer 11: the reference's records: one value read. -/
namespace Go.Proofs.YtjocnooekgnedaaGreatDoor
open Go.RowKit Go.Maps

attribute [local go_sem] Oper.semAt_some

theorem Reads.take_map {w : World} {A : Option Addr} {l : List Int} (h : Reads w A (l.map (.int .u8))) (k : Nat) : Reads w A ((l.take k).map (.int .u8)) := by
  rw [List.map_take]; exact h.take k
/-- A number read. -/
def OneNum (l : List Int) (m : Nat) (w : World) (e : Ending) (w' : World) : Prop :=
  Below w.heap.size w w' ∧ ((m ≤ l.length ∧ e = .returned (.tuple #[.agg #[.int .u64 (valL (l.take m)), .string ⟨#[]⟩, .slice none 0 0], .int .i64 m, .int .i64 0])) ∨ (l.length < m ∧ e = .returned (.tuple #[.agg rcZ11, .int .i64 0, .int .i64 10])))
set_option maxRecDepth 100000 in
set_option maxHeartbeats 4000000 in
theorem rone_num (cc : Int) (m : Nat) (hc : cc = 98 ∨ cc = 119 ∨ cc = 108) (hm : widV cc = m) (hm1 : 1 ≤ m ∧ m ≤ 2) (l : List Int) (A : Option Addr) (c : Nat) (w : World) (hR : Reads w A (l.map (.int .u8))) (hl : l.length ≤ 1000) (hcap : l.length ≤ c) (hb : ∀ b ∈ l, 0 ≤ b ∧ b < 256) :
    Calls Tryz.prog 103 #[.int .u8 cc, .slice A l.length c] w (OneNum l m w) := by
  obtain ⟨wA, hA⟩ : ∃ wA, wA = w.alloc (.cells rcZ11 79) := ⟨_, rfl⟩
  have bX : Blk wA w.heap.size 79 rcZ11 := by rw [hA]; exact Blk.new _ _ _
  have BA : Below w.heap.size w wA := by rw [hA]; exact (Below.refl _ _).alloc (Nat.le_refl _) _
  have hwd := rwidth_any cc hc wA
  rw [hm] at hwd
  have d0 : (0 : Int) < m := by omega
  have cX := bX.cells
  have lX := bX.lt
  have fX := bX.free
  by_cases hle : m ≤ l.length
  rotate_left
  · as_aux_lemma =>
      have d1 : (l.length : Int) < m := by omega
      have HLE := Lib.hid hle
      clear hm hm1 hle
      go_enter Tryz.func103, Tryz.ntmps103
      go_upto_region 1 with fail
      rw [← hA]
      clear hA
      go_wp2_with fail
      refine hwd.mono ?_
      rintro e wq ⟨rfl, hw⟩
      replace hw := hw.symm
      subst hw
      clear hwd
      go_wp2_with fail
      have bF := ((bX.set_ 0 (.int .u64 0)).set_ 1 (.string ⟨#[]⟩)).set_ 2 (.slice none 0 0)
      have cF := bF.cells
      refine bodyPost_ret (v := .tuple #[.agg rcZ11, .int .i64 0, .int .i64 10]) (by simp [results, Tryz.results103, go_sem, cF]) rfl ?_
      exact ⟨((BA.setCell (p := ⟨w.heap.size, 0, none⟩) (Nat.le_refl _) _).setCell (p := ⟨w.heap.size, 1, none⟩) (Nat.le_refl _) _).setCell (p := ⟨w.heap.size, 2, none⟩) (Nat.le_refl _) _, .inr ⟨by have := HLE.out; omega, rfl⟩⟩
  · as_aux_lemma =>
      have d1 : ¬ (l.length : Int) < m := by omega
      have s1 : (0 : Int) ≤ m := by omega
      have s2 : (m : Int) ≤ c := by omega
      have hnum2 : ∀ c', Calls Tryz.prog 148 #[.slice A m c'] wA fun e w' => e = .returned (.int .u64 (valL (l.take m))) ∧ w' = wA := fun c' => rnum5_any (l.take m) m A c' wA ((hR.below BA).take_map m) (by rw [List.length_take]; omega) (by omega) (fun b hb' => hb b (List.mem_of_mem_take hb'))
      obtain ⟨b, o, rfl⟩ : ∃ b o, A = some ⟨b, o, none⟩ := by
        obtain ⟨b, o, e, -⟩ := hR.at_ (k := 0) (by rw [List.length_map]; omega)
        exact ⟨b, o, e⟩
      have HLE := Lib.hid hle
      obtain ⟨X, hX⟩ : ∃ X, X = valL (l.take m) := ⟨_, rfl⟩
      rw [← hX] at hnum2
      have HX := Lib.hid hX
      have HNUM := Lib.hid hnum2
      clear hm hm1 hle hnum2 hX
      go_enter Tryz.func103, Tryz.ntmps103
      go_upto_region 1 with fail
      rw [← hA]
      clear hA
      go_wp2_with fail
      refine hwd.mono ?_
      rintro e wq ⟨rfl, hw⟩
      replace hw := hw.symm
      subst hw
      clear hwd
      go_wp2_with fail
      refine (HNUM.out _).mono ?_
      rintro e wq ⟨rfl, hw⟩
      replace hw := hw.symm
      subst hw
      go_wp2_with fail
      have bF := ((bX.set_ 0 (.int .u64 X)).set_ 1 (.string ⟨#[]⟩)).set_ 2 (.slice none 0 0)
      have cF := bF.cells
      refine bodyPost_ret (v := .tuple #[.agg #[.int .u64 X, .string ⟨#[]⟩, .slice none 0 0], .int .i64 m, .int .i64 0]) (by simp [results, Tryz.results103, go_sem, cF]) rfl ?_
      exact ⟨((BA.setCell (p := ⟨w.heap.size, 0, none⟩) (Nat.le_refl _) _).setCell (p := ⟨w.heap.size, 1, none⟩) (Nat.le_refl _) _).setCell (p := ⟨w.heap.size, 2, none⟩) (Nat.le_refl _) _, .inl ⟨HLE.out, by rw [HX.out]⟩⟩
theorem vals_take : ∀ (k : Nat) (L : List Int), 4 * (k + 1) ≤ L.length → vals (L.take (4 * (k + 1))) = vals (L.take (4 * k)) ++ [valL ((L.drop (4 * k)).take 4)]
  | 0, L, h => by
    match L, h with
    | a :: b :: c :: d :: t, _ =>
      show [a + 256 * b + 65536 * c + 16777216 * d] = [a + 256 * (b + 256 * (c + 256 * (d + 256 * 0)))]
      congr 1
      omega
  | k + 1, L, h => by
    match L, h with
    | a :: b :: c :: d :: t, h =>
      have ih := vals_take k t (by simp at h; omega)
      show (a + 256 * b + 65536 * c + 16777216 * d) :: vals (t.take (4 * (k + 1))) = (a + 256 * b + 65536 * c + 16777216 * d) :: vals (t.take (4 * k)) ++ [valL ((t.drop (4 * k)).take 4)]
      rw [ih]
      rfl
/-- Is a list there? -/
def l1Ok (l : List Int) : Prop := 0 < l.length ∧ l.getD 0 0 ≤ 60 ∧ 1 + 4 * (l.getD 0 0).toNat ≤ l.length
/-- A list read. -/
def OneLis (l : List Int) (w : World) (e : Ending) (w' : World) : Prop :=
  Below w.heap.size w w' ∧ ((l1Ok l ∧ ∃ ga n gc, e = .returned (.tuple #[.agg #[.int .u64 0, .string ⟨#[]⟩, .slice ga n gc], .int .i64 ((1 + 4 * (l.getD 0 0).toNat : Nat) : Int), .int .i64 0]) ∧ w'.ownsRow w.heap.size 81 1 (.slice ga n gc) n ((vals ((l.drop 1).take (4 * (l.getD 0 0).toNat))).map (.int .u32))) ∨
    (¬ l1Ok l ∧ ∃ E, E ≠ 0 ∧ e = .returned (.tuple #[.agg rcZ11, .int .i64 0, .int .i64 E])))
set_option maxRecDepth 100000 in
set_option maxHeartbeats 8000000 in
theorem rone_lis (l : List Int) (A : Option Addr) (c : Nat) (w : World) (hR : Reads w A (l.map (.int .u8))) (hl : l.length ≤ 1000) (hcap : l.length ≤ c) (hb : ∀ b ∈ l, 0 ≤ b ∧ b < 256) :
    Calls Tryz.prog 103 #[.int .u8 108, .slice A l.length c] w (OneLis l w) := by
  obtain ⟨i0, hi, hz0, hz1, hz2⟩ := info_parts Tryz.infoU32
  obtain ⟨wA, hA⟩ : ∃ wA, wA = w.alloc (.cells rcZ11 79) := ⟨_, rfl⟩
  have bX : Blk wA w.heap.size 79 rcZ11 := by rw [hA]; exact Blk.new _ _ _
  have BA : Below w.heap.size w wA := by rw [hA]; exact (Below.refl _ _).alloc (Nat.le_refl _) _
  have hwd : Calls Tryz.prog 89 #[.int .u8 108] wA fun e w' => e = .returned (.int .i64 0) ∧ w' = wA := rwidth_any 108 (by decide) wA
  have hgr := rgrouped_any l A c wA (hR.below BA) hl hb
  have HR := Lib.hid hR
  have HL := Lib.hid (And.intro hl (And.intro hcap hb))
  have hget : ∀ k, 0 ≤ l.getD k 0 ∧ l.getD k 0 < 256 := fun k => by
    rw [List.getD_eq_getElem?_getD]
    cases e : l[k]? with
    | none => exact (by decide : (0 : Int) ≤ 0 ∧ (0 : Int) < 256)
    | some x => exact hb x (List.mem_of_getElem? e)
  have HG := Lib.hid (hget 0)
  have cX := bX.cells
  have lX := bX.lt
  have fX := bX.free
  clear hR hl hcap hb hget
  go_enter Tryz.func103, Tryz.ntmps103
  go_upto_region 1 with fail
  rw [← hA]
  clear hA
  go_wp2_with fail
  refine hwd.mono ?_
  rintro e wq ⟨rfl, hw⟩
  replace hw := hw.symm
  subst hw
  clear hwd
  go_wp2_with fail
  refine hgr.mono ?_
  rintro e wq ⟨n, k, E, rfl, hw, hres⟩
  replace hw := hw.symm
  subst hw
  clear hgr
  have hfail : ∀ W, W = ((wA.setCell ⟨w.heap.size, 0, none⟩ (.int .u64 0)).setCell ⟨w.heap.size, 1, none⟩ (.string ⟨#[]⟩)).setCell ⟨w.heap.size, 2, none⟩ (.slice none 0 0) → Blk W w.heap.size 79 rcZ11 ∧ Below w.heap.size w W := fun W hW => by
    rw [hW]
    exact ⟨((bX.set_ 0 (.int .u64 0)).set_ 1 (.string ⟨#[]⟩)).set_ 2 (.slice none 0 0), ((BA.setCell (p := ⟨w.heap.size, 0, none⟩) (Nat.le_refl _) _).setCell (p := ⟨w.heap.size, 1, none⟩) (Nat.le_refl _) _).setCell (p := ⟨w.heap.size, 2, none⟩) (Nat.le_refl _) _⟩
  have HFAIL := Lib.hid hfail
  clear hfail
  rcases hres with ⟨hE, hno⟩ | ⟨rfl, h0, h128, rfl, rfl⟩ | ⟨rfl, hbig, h128⟩
  · as_aux_lemma =>
      have d1 : (E != 0) = true := by simpa using hE
      have HE := Lib.hid (And.intro hE hno)
      clear hE hno
      go_wp2_with fail
      obtain ⟨bF, BF⟩ := HFAIL.out _ rfl
      have cF := bF.cells
      refine bodyPost_ret (v := .tuple #[.agg rcZ11, .int .i64 0, .int .i64 E]) (by simp [results, Tryz.results103, go_sem, cF]) rfl ?_
      exact ⟨BF, .inr ⟨fun h => HE.out.2 ⟨h.1, by have := h.2.1; omega⟩, E, HE.out.1, rfl⟩⟩
  rotate_left
  · as_aux_lemma =>
      have d1 : (60 : Int) < n := by omega
      have H1 := Lib.hid h128
      clear hbig h128
      go_wp2_with fail
      obtain ⟨bF, BF⟩ := HFAIL.out _ rfl
      have cF := bF.cells
      refine bodyPost_ret (v := .tuple #[.agg rcZ11, .int .i64 0, .int .i64 3]) (by simp [results, Tryz.results103, go_sem, cF]) rfl ?_
      exact ⟨BF, .inr ⟨fun h => by have := h.2.1; have := H1.out; omega, 3, by decide, rfl⟩⟩
  obtain ⟨M, hM⟩ : ∃ M : Nat, l.getD 0 0 = M := ⟨(l.getD 0 0).toNat, by have := HG.out; omega⟩
  rw [hM] at h128 ⊢
  have HM := Lib.hid (And.intro hM h0)
  clear hM
  by_cases h60 : M ≤ 60
  rotate_left
  · as_aux_lemma =>
      have d1 : (60 : Int) < M := by omega
      have H1 := Lib.hid h60
      clear h60
      go_wp2_with fail
      obtain ⟨bF, BF⟩ := HFAIL.out _ rfl
      have cF := bF.cells
      refine bodyPost_ret (v := .tuple #[.agg rcZ11, .int .i64 0, .int .i64 3]) (by simp [results, Tryz.results103, go_sem, cF]) rfl ?_
      exact ⟨BF, .inr ⟨fun h => by have := h.2.1; have := H1.out; have := HM.out.1; omega, 3, by decide, rfl⟩⟩
  have d1 : ¬ (60 : Int) < M := by omega
  have e1 : IntKind.i64.wrap (M : Int) = M := by rw [IntKind.wrap_i64]; omega
  have e2 : IntKind.i64.wrap ((l.length : Int) - 1) = (l.length : Int) - 1 := by have := HL.out.1; rw [IntKind.wrap_i64]; omega
  have e3 : IntKind.i64.wrap (4 * (M : Int)) = 4 * M := by rw [IntKind.wrap_i64]; omega
  by_cases hle : 1 + 4 * M ≤ l.length
  rotate_left
  · as_aux_lemma =>
      have d2 : (l.length : Int) - 1 < 4 * M := by omega
      have H1 := Lib.hid hle
      clear hle h60
      go_wp2_with fail
      obtain ⟨bF, BF⟩ := HFAIL.out _ rfl
      have cF := bF.cells
      refine bodyPost_ret (v := .tuple #[.agg rcZ11, .int .i64 0, .int .i64 10]) (by simp [results, Tryz.results103, go_sem, cF]) rfl ?_
      exact ⟨BF, .inr ⟨fun h => by have h2 := h.2.2; rw [HM.out.1, Int.toNat_natCast] at h2; exact H1.out h2, 10, by decide, rfl⟩⟩
  have d2 : ¬ (l.length : Int) - 1 < 4 * M := by omega
  have bX2 : Blk (wA.alloc (.cells rcZ11 79)) wA.heap.size 79 rcZ11 := Blk.new _ _ _
  have bR2 : Blk (wA.alloc (.cells rcZ11 79)) w.heap.size 79 rcZ11 := bX.alloc _
  have B2 : Below w.heap.size w (wA.alloc (.cells rcZ11 79)) := BA.alloc BA.size _
  obtain ⟨b0, o0, rfl⟩ : ∃ b o, A = some ⟨b, o, none⟩ := by
    obtain ⟨b, o, e, -⟩ := HR.out.at_ (k := 0) (by rw [List.length_map]; omega)
    exact ⟨b, o, e⟩
  obtain ⟨w2, hw2⟩ : ∃ w2, w2 = wA.alloc (.cells rcZ11 79) := ⟨_, rfl⟩
  obtain ⟨V, hV⟩ : ∃ V, V = wA.heap.size := ⟨_, rfl⟩
  have z2 : w2.heap.size = V + 1 := by rw [hw2, hV]; simp
  have hRV : w.heap.size < V := by rw [hV]; exact lX
  rw [← hw2] at bX2 bR2 B2
  rw [← hV] at bX2
  have HW2 := Lib.hid hw2.symm
  have HV := Lib.hid hV.symm
  have HLE := Lib.hid hle
  clear hw2 hV hle cX lX fX bX BA HFAIL
  go_upto_region 21 with fail
  rw [HW2.out, HV.out]
  clear HW2 HV
  go_wp2_with fail
  go_loopw [13] (fun q wr => ∃ (k : Nat) (ga : Option Addr) (gc : Nat), k ≤ M ∧ q = .int .i64 k ∧ Blk wr w.heap.size 79 rcZ11 ∧ Blk wr V 79 #[.int .u64 0, .string ⟨#[]⟩, .slice ga k gc] ∧ wr.ownsRow (V + 1) 81 1 (.slice ga k gc) k ((vals ((l.drop 1).take (4 * k))).map (.int .u32)) ∧ Below w.heap.size w wr ∧ V + 1 ≤ wr.heap.size) (fun q _ => M - (RowKit.intOf q).toNat)
  case atStart => exact ⟨0, none, 0, Nat.zero_le _, rfl, bR2, bX2, World.ownsRow_nil _ _ _ _, B2, by omega⟩
  case round =>
    obtain ⟨k, ga, gc, hk, rfl, hbR, hbX, hown, hB, hsz⟩ := hrel
    clear bR2 bX2 B2
    by_cases hlt : k < M
    · have d3 : (k : Int) < M := by omega
      obtain ⟨p, hp⟩ : ∃ p : Nat, p = 1 + 4 * k := ⟨_, rfl⟩
      have e4 : IntKind.i64.wrap (4 * (k : Int)) = 4 * k := by rw [IntKind.wrap_i64]; omega
      have e5 : IntKind.i64.wrap (1 + 4 * (k : Int)) = (p : Int) := by rw [IntKind.wrap_i64]; omega
      have e6 : IntKind.i64.wrap ((p : Int) + 4) = (p : Int) + 4 := by rw [IntKind.wrap_i64]; omega
      have hpl : p + 4 ≤ l.length := by have := HLE.out; omega
      have s1 : (0 : Int) ≤ p := by omega
      have s2 : (p : Int) ≤ (p : Int) + 4 := by omega
      have s3 : (p : Int) + 4 ≤ c := by have := HL.out.2.1; omega
      have s4 : (0 : Int) ≤ (p : Int) + 4 := by omega
      have hch : ((l.drop p).take 4).length = 4 := by rw [List.length_take, List.length_drop]; omega
      have hvs : vals ((l.drop 1).take (4 * (k + 1))) = vals ((l.drop 1).take (4 * k)) ++ [valL ((l.drop p).take 4)] := by
        rw [vals_take k (l.drop 1) (by rw [List.length_drop]; omega), List.drop_drop, hp]
      have hvb := valL_bds ((l.drop p).take 4) (fun b hb => HL.out.2.2 b (List.mem_of_mem_drop (List.mem_of_mem_take hb)))
      rw [hch] at hvb
      have hvb2 : 0 ≤ valL ((l.drop p).take 4) ∧ valL ((l.drop p).take 4) < 4294967296 := hvb
      have hrd : ∀ W, Below w.heap.size w W → Reads W (some ⟨b0, o0 + p, none⟩) (((l.drop p).take 4).map (.int .u8)) := fun W hW => by
        rcases HR.out.below hW with hr | ⟨b', o', he, hl', hc'⟩
        · rw [List.map_eq_nil_iff] at hr; rw [hr] at hpl; simp at hpl
        · cases he
          refine .inr ⟨b0, o0 + p, rfl, hl', fun j u hu => ?_⟩
          rw [Nat.add_assoc]
          refine hc' (p + j) u ?_
          rw [List.getElem?_map] at hu ⊢
          rw [List.getElem?_take] at hu
          split at hu
          · rw [List.getElem?_drop] at hu; exact hu
          · cases hu
      have hnum : ∀ W c', Below w.heap.size w W → Calls Tryz.prog 148 #[.slice (some ⟨b0, o0 + p, none⟩) 4 c'] W fun e w' => e = .returned (.int .u64 (valL ((l.drop p).take 4))) ∧ w' = W := fun W c' hW =>
        rnum5_any _ 4 _ c' W (hrd W hW) hch (by omega) (fun b hb => HL.out.2.2 b (List.mem_of_mem_drop (List.mem_of_mem_take hb)))
      have HVS := Lib.hid hvs
      generalize valL ((l.drop p).take 4) = x at hvb2 HVS hnum
      have e7 : IntKind.u32.wrap x = x := by rw [IntKind.wrap_u32]; omega
      have HNUM := Lib.hid hnum
      have HP := Lib.hid hp
      have HCP : Hid (¬ c = p) := Lib.hid (by omega)
      have hM60 : k < 60 := by omega
      obtain ⟨X, hX⟩ : ∃ X, X = (wr.alloc (.cells #[.int .u32 x] 81)).drew := ⟨_, rfl⟩
      have bXX : Below wr.heap.size wr X := by rw [hX]; exact ((Below.refl _ _).alloc (Nat.le_refl _) _).drew
      have hX2 : wr.drew.alloc (.cells #[.int .u32 x] 81) = X := hX.symm
      have rX : Reads X (some ⟨wr.heap.size, 0, none⟩) [.int .u32 x] := by
        rw [hX]
        exact .inr ⟨wr.heap.size, 0, rfl, by simp, fun j u hu => by
          rw [Nat.zero_add]
          exact ((Blk.new wr 81 #[.int .u32 x]).drew.cells j).trans (by simpa using hu)⟩
      have hoX := own_below hown bXX
      have hbXX := hbX.belowAll bXX
      have hbRX := hbR.belowAll bXX
      have BX := hB.trans (bXX.mono hB.size)
      have hszX : V + 1 ≤ X.heap.size := Nat.le_trans hsz bXX.size
      have HX := Lib.hid hX
      have HX2 := Lib.hid hX2
      have HB := Lib.hid (And.intro hB hbX)
      clear hp hpl hch hvs hvb hvb2 hrd hnum hX hX2 hk hbR hbX hown hB bXX h60
      go_upto_region 24 with fail
      refine wp_region_mix [.take 0, .take 1, .take 2, .take 3, .take 4, .take 5, .take 6, .take 7, .take 8, .take 9, .take 10, .take 11, .take 12, .one 13, .take 14, .one 15, .one 16, .one 17, .one 18] 17 (fun W => W.cell? ⟨V, 2, none⟩ = some (.slice ga k gc)) (by kernel_rfl) (by kernel_rfl) (fun _ _ _ _ _ h => h) ((HB.out.2.drew.cells 2).trans rfl) ?_
      simp only [List.map_cons, List.map_nil, Ms.fill, List.getD_cons_zero, List.getD_cons_succ]
      iterate 13 (refine mixT_take (by rfl) ?_ (fun w' hw' => ?_) ?_; rotate_left; (focus (go_simp; (try with_reducible rfl))); (try simp only [Act.put, List.setIfInBounds_toArray, List.set_cons_zero, List.set_cons_succ]))
      refine mixT_step (by rfl) fun K hK => ?_
      go_simp
      rw [if_neg HCP.out, show ((p : Int) + 4).toNat - p = 4 by omega]
      refine (HNUM.out wr.drew _ HB.out.1.drew).mono ?_
      rintro e wq ⟨rfl, hw⟩
      replace hw := hw.symm
      subst hw
      refine hK _ _ (fun _ => (HB.out.2.drew.cells 2).trans rfl) ?_
      clear hK K
      (refine mixT_take (by rfl) ?_ (fun w' hw' => ?_) ?_; rotate_left; (focus (go_simp; (try with_reducible rfl))); (try simp only [Act.put, List.setIfInBounds_toArray, List.set_cons_zero, List.set_cons_succ]))
      refine mixT_step (by rfl) fun K hK => ?_
      go_simp
      first | rw [← HX.out] | rw [HX2.out]
      refine hK _ _ (fun _ => (hbXX.cells 2).trans rfl) ?_
      clear hK K
      refine mixT_step (by rfl) fun K hK => ?_
      refine wp_append_any (w := X) _ _ 77 rfl (V + 1) 81 i0 (.int .u32 0) 4 Tryz.underlying77 hi hz0 hz1 hz2 rfl (.slice ga k gc) _ _ rfl hoX (some ⟨wr.heap.size, 0, none⟩) 1 1 [.int .u32 x] rfl rfl (fun h => by cases h) rX (by simp [Value.oneCell']) (by simp only [maxLen]; omega) (by omega) hszX ?_
      intro v' w4 hown' hgrow _
      have hfar : ∀ q, (Value.slice ga k gc).ownBlock = some q → V + 1 ≤ q := fun q hq => (own_lt hoX q hq).1
      have hbX4 := hbXX.grown hgrow (fun e => by have := hfar _ e.symm; omega)
      have hbR4 := hbRX.grown hgrow (fun e => by have := hfar _ e.symm; omega)
      have B4 := BX.grown hgrow BX.size (fun q hq => by have := hfar q hq; omega)
      have hsz4 : V + 1 ≤ w4.heap.size := Nat.le_trans hszX hgrow.size
      obtain ⟨av, cv, rfl⟩ := own_slice hown'
      refine hK _ _ (fun _ => (hbX4.cells 2).trans rfl) ?_
      clear hK K
      refine mixT_step (by rfl) fun K hK => ?_
      go_simp
      refine hK _ _ (fun h => absurd h (by decide)) ?_
      clear hK K
      have cX4 := hbX4.cells
      have lX4 := hbX4.lt
      have fX4 := hbX4.free
      refine mixT_step (by rfl) fun K hK => ?_
      go_simp
      refine hK _ _ (fun h => absurd h (by decide)) ?_
      clear hK K
      refine mixT_nil ?_
      have hbX5 := hbX4.set_ 2 (.slice av (k + 1) cv)
      have hbR5 := hbR4.far (p := ⟨V, 2, none⟩) (by show w.heap.size ≠ V; omega) (.slice av (k + 1) cv)
      have B5 := B4.setCell (p := ⟨V, 2, none⟩) (by show w.heap.size ≤ V; omega) (.slice av (k + 1) cv)
      have ho5 : (w4.setCell ⟨V, 2, none⟩ (.slice av (k + 1) cv)).ownsRow (V + 1) 81 1 (.slice av (k + 1) cv) (k + 1) ((vals ((l.drop 1).take (4 * (k + 1)))).map (.int .u32)) := by
        rw [HVS.out, List.map_append]
        exact ownsRow_setCell_below hown' (by show V < V + 1; omega) _
      have hsz5 : V + 1 ≤ (w4.setCell ⟨V, 2, none⟩ (.slice av (k + 1) cv)).heap.size := by simpa using hsz4
      generalize w4.setCell ⟨V, 2, none⟩ (.slice av (k + 1) cv) = w5 at *
      clear cX4 lX4 fX4 hbX4 hbR4 B4 hown' hgrow hoX hbXX hbRX BX rX HX HX2 HB HNUM e4 e5 e6 e7 s1 s2 s3 s4
      go_wp2_with fail
      go_roundw
      case rel => exact ⟨k + 1, av, cv, by omega, by go_num, hbR5, hbX5, ho5, B5, hsz5⟩
      case measure => simp [RowKit.intOf]; omega
    · obtain rfl : k = M := by omega
      have cX := hbX.cells
      have lX := hbX.lt
      have cR := hbR.cells
      have lR := hbR.lt
      have fR := hbR.free
      have HO := Lib.hid hown
      have e8 : IntKind.i64.wrap (1 + 4 * (k : Int)) = 1 + 4 * (k : Int) := by rw [IntKind.wrap_i64]; omega
      clear hown
      go_wp2_with fail
      have bF := ((hbR.set_ 0 (.int .u64 0)).set_ 1 (.string ⟨#[]⟩)).set_ 2 (.slice ga k gc)
      have cF := bF.cells
      refine bodyPost_ret (v := .tuple #[.agg #[.int .u64 0, .string ⟨#[]⟩, .slice ga k gc], .int .i64 (1 + 4 * (k : Int)), .int .i64 0]) (by simp [results, Tryz.results103, go_sem, cF]) rfl ?_
      have hk : (l.getD 0 0).toNat = k := by rw [HM.out.1]; rfl
      refine ⟨((hB.setCell (p := ⟨w.heap.size, 0, none⟩) (Nat.le_refl _) _).setCell (p := ⟨w.heap.size, 1, none⟩) (Nat.le_refl _) _).setCell (p := ⟨w.heap.size, 2, none⟩) (Nat.le_refl _) _, .inl ⟨⟨HM.out.2, by rw [HM.out.1]; omega, by rw [hk]; exact HLE.out⟩, ga, k, gc, by rw [hk]; push_cast; rfl, ?_⟩⟩
      rw [hk]
      exact own_base (ownsRow_setCell_below (ownsRow_setCell_below (ownsRow_setCell_below HO.out (by show w.heap.size < _; omega) _) (by show w.heap.size < _; omega) _) (by show w.heap.size < _; omega) _) (by omega)
end Go.Proofs.YtjocnooekgnedaaGreatDoor
/- A region that draws its order: reads first, then two operations either of which may come first, each with its own continuation. No program in sight. -/
namespace Go.Proofs.YtjocnooekgnedaaGreatDoor
open Go

section
variable {P : Program} {ops : Array Oper} {Q : Exit → Act → World → Prop} {S : World → Prop} {T : Nat}

def forkB (ops : Array Oper) (T i j : Nat) (r1 r2 : List Ms) : List Nat → Array Bool → Bool
  | [], L => bare ops i && bare ops j && decide (i ≠ j) && decide (Region.ready .any ops L = [i, j] ∨ Region.ready .any ops L = [j, i]) && decide (i < T) && decide (j < T) && mixB ops T r1 (L.setIfInBounds i true) && mixB ops T r2 (L.setIfInBounds j true)
  | k :: r, L => decide (k < ops.size) && (Region.ready .any ops L).contains k && Region.free .any ops L k && ((List.range ops.size).all fun j => decide (j < T) || Region.waitsFor .any ops j k) && forkB ops T i j r1 r2 r (L.setIfInBounds k true)
/-- Either comes first. -/
def forkT (P : Program) (ops : Array Oper) (Q : Exit → Act → World → Prop) (S : World → Prop) (T : Nat) (o p : Oper) (r1 r2 : List Mi) (a : Act) (w : World) : Prop :=
  o.wp P a w (fun a' w' => S w' ∧ mixT P ops Q S T r1 a' w') Q ∧ p.wp P a w (fun a' w' => S w' ∧ mixT P ops Q S T r2 a' w') Q
def forkQ (P : Program) (ops : Array Oper) (Q : Exit → Act → World → Prop) (S : World → Prop) (T : Nat) (o p : Oper) (r1 r2 : List Mi) : Exit → Act → World → Prop
  | .normal, a, w => forkT P ops Q S T o p r1 r2 a w
  | e, a, w => Q e a w
theorem anyT_fork {l : List Oper} {d : Oper} (hns : Region.noSelect l.toArray = true) (hQ : ∀ c a d v w, Q (.panic c) (Act.put a d v) w → Q (.panic c) a w) (i j : Nat) (r1 r2 : List Ms) (hN : mixN r1 = mixN r2) :
    ∀ (ks : List Nat) (L : Array Bool) (a : Act) (w : World), S w → forkB l.toArray T i j r1 r2 ks L = true →
      mixT P l.toArray (forkQ P l.toArray Q S T (l.getD i d) (l.getD j d) (r1.map (Ms.fill l d)) (r2.map (Ms.fill l d))) S T (ks.map fun k => Mi.take k (l.getD k d)) a w → anyS P l.toArray Q S T (ks.length + (mixN r1 + 1)) L a w
  | [], L, a, w, hS, hB, h => by
    simp only [forkB, Bool.and_eq_true, decide_eq_true_eq] at hB
    obtain ⟨⟨⟨⟨⟨⟨⟨b1, b2⟩, hij⟩, h1⟩, hiT⟩, hjT⟩, m1⟩, m2⟩ := hB
    obtain ⟨H1, H2⟩ : forkT P l.toArray Q S T (l.getD i d) (l.getD j d) (r1.map (Ms.fill l d)) (r2.map (Ms.fill l d)) a w := h
    rw [List.length_nil, Nat.zero_add]
    have hmem : ∀ k, k ∈ Region.ready .any l.toArray L → k = i ∨ k = j := fun k hk => by
      rcases h1 with h1 | h1
      · rw [h1] at hk; simpa using hk
      · rw [h1] at hk; simpa [or_comm] using hk
    refine ⟨fun e => (by rcases h1 with h1 | h1 <;> (rw [h1] at e; cases e)), fun k hk => ?_⟩
    rcases hmem k hk with rfl | rfl
    · refine wpOp_bare (bare_get (d := d) b1) b1 (Oper.wp_mono ?_ H1)
      rintro a' w' ⟨s1, h'⟩
      exact ⟨fun _ => s1, anyT_mix hns hQ r1 _ a' w' (.inl s1) m1 h'⟩
    · refine wpOp_bare (bare_get (d := d) b2) b2 (Oper.wp_mono ?_ H2)
      rintro a' w' ⟨s1, h'⟩
      refine ⟨fun _ => s1, ?_⟩
      rw [hN]
      exact anyT_mix hns hQ r2 _ a' w' (.inl s1) m2 h'
  | k :: r, L, a, w, hS, hB, h => by
    simp only [forkB, Bool.and_eq_true, List.all_eq_true, Bool.or_eq_true, decide_eq_true_eq, List.mem_range] at hB
    obtain ⟨⟨⟨⟨h0, h1⟩, h2⟩, h3⟩, h4⟩ := hB
    have h0 : l.toArray[k]? = some (l.getD k d) := by
      have h0 : k < l.length := by simpa using h0
      simp [List.getD_eq_getElem?_getD, h0]
    obtain ⟨v, hy, h⟩ := h
    rw [List.length_cons, show r.length + 1 + (mixN r1 + 1) = (r.length + (mixN r1 + 1)) + 1 by omega]
    refine anyT_take' h0 hns (fun j hj hjs => (h3 j hjs).resolve_left (by omega)) hQ _ L a w (Region.free_spec h0 h2) (by simpa using h1) hy hS ?_
    exact anyT_fork hns hQ i j r1 r2 hN r _ _ _ hS h4 h
/-- THE LAW. ks: the reads; i, j: the two; r1, r2: what follows where i, or j, is the first. -/
theorem wp_region_fork {id : Nat} {a : Act} {w : World} {o : Oper} {l : List Oper} (ks : List Nat) (i j : Nat) (r1 r2 : List Ms) (T : Nat) (S : World → Prop) (hm : P.follows .mixedOrders = true)
    (hB : (Region.noSelect (o :: l).toArray && decide (ks.length + (mixN r1 + 1) = (o :: l).length) && decide (mixN r1 = mixN r2) && forkB (o :: l).toArray T i j r1 r2 ks (Array.replicate (o :: l).length false)) = true)
    (hQ1 : ∀ c a t v w, Q (.panic c) (Act.put a (some t) v) w → Q (.panic c) a w) (hS : S w.drew)
    (h : mixT P (o :: l).toArray (forkQ P (o :: l).toArray Q S T ((o :: l).getD i o) ((o :: l).getD j o) (r1.map (Ms.fill (o :: l) o)) (r2.map (Ms.fill (o :: l) o))) S T (ks.map fun k => Mi.take k ((o :: l).getD k o)) a w.drew) : (Code.region id (o :: l).toArray true).wp P Q a w := by
  have hQ : ∀ c a d v w, Q (.panic c) (Act.put a d v) w → Q (.panic c) a w := fun c a d v w h => by
    cases d with
    | none => exact h
    | some t => exact hQ1 c a t v w h
  simp only [Bool.and_eq_true, decide_eq_true_eq] at hB
  obtain ⟨⟨⟨hns, hn⟩, hN⟩, hB⟩ := hB
  refine wp_region_any hm ?_
  have H := anyT_fork (P := P) (Q := Q) (S := S) (T := T) hns hQ i j r1 r2 hN ks (Array.replicate (o :: l).length false) a w.drew hS hB h
  rw [hn] at H
  have := any_of_anyS _ _ _ _ H
  simpa using this
theorem forkQ_nil {o p : Oper} {r1 r2 : List Mi} {a : Act} {w : World}
    (h1 : ∀ K : Act → World → Prop, (∀ a' w', S w' → mixT P ops Q S T r1 a' w' → K a' w') → o.wp P a w K Q) (h2 : ∀ K : Act → World → Prop, (∀ a' w', S w' → mixT P ops Q S T r2 a' w' → K a' w') → p.wp P a w K Q) :
    mixT P ops (forkQ P ops Q S T o p r1 r2) S T [] a w :=
  ⟨h1 _ fun _ _ x y => ⟨x, y⟩, h2 _ fun _ _ x y => ⟨x, y⟩⟩
end
end Go.Proofs.YtjocnooekgnedaaGreatDoor
/- Layer 11: the reference's records.Decode at the form of inodes. -/
namespace Go.Proofs.YtjocnooekgnedaaGreatDoor
open Go.RowKit Go.Maps

attribute [local go_sem] Oper.semAt_some

/-- A list of the call's own. -/
def LO (W : World) (base : Nat) (v : Value) (l : List Int) : Prop := ∃ A c, v = .slice A l.length c ∧ W.ownsRow base 81 1 v l.length (l.map (.int .u32))
theorem LO.block {W W' : World} {base : Nat} {v : Value} {l : List Int} (h : LO W base v l) (hb : ∀ q, v.ownBlock = some q → W'.heap[q]? = W.heap[q]?) : LO W' base v l := by
  obtain ⟨A, c, e, ho⟩ := h
  exact ⟨A, c, e, own_block ho hb⟩
theorem LO.below {W W' : World} {base : Nat} {v : Value} {l : List Int} (h : LO W base v l) (hb : Below W.heap.size W W') : LO W' base v l := by
  obtain ⟨A, c, e, ho⟩ := h
  exact ⟨A, c, e, own_below ho hb⟩
theorem LO.lt {W : World} {base : Nat} {v : Value} {l : List Int} (h : LO W base v l) : ∀ q, v.ownBlock = some q → base ≤ q ∧ q < W.heap.size := by
  obtain ⟨A, c, e, ho⟩ := h
  exact own_lt ho
theorem LO.base {W : World} {base base' : Nat} {v : Value} {l : List Int} (h : LO W base v l) (hb : base' ≤ base) : LO W base' v l := by
  obtain ⟨A, c, e, ho⟩ := h
  exact ⟨A, c, e, own_base ho hb⟩
theorem LO.reads {W : World} {base : Nat} {v : Value} {l : List Int} (h : LO W base v l) : LR W [] v l := by
  obtain ⟨A, c, rfl, ho⟩ := h
  exact ⟨A, c, rfl, Reads.of_own ho, fun a _ _ hm => by cases hm⟩
/-- Rows of elements of two types lie in two blocks. -/
theorem own_types {W : World} {base base' size size' n n' : Nat} {e e' : TypeId} {v v' : Value} {xs xs' : List Value} (h : W.ownsRow base e size v n xs) (h' : W.ownsRow base' e' size' v' n' xs') (hne : e ≠ e') : ∀ q, v.ownBlock = some q → v'.ownBlock ≠ some q := fun q hq hq' => by
  rcases h.2 with ⟨rfl, _⟩ | ⟨g, cap, cur, rfl, _, hgb, _⟩
  · cases hq
  rcases h'.2 with ⟨rfl, _⟩ | ⟨g', cap', cur', rfl, _, hgb', _⟩
  · cases hq'
  have e1 : g = q := by simpa [Value.ownBlock] using hq
  have e2 : g' = q := by simpa [Value.ownBlock] using hq'
  subst e1 e2
  rw [hgb] at hgb'
  simp at hgb'
  exact hne hgb'.2

/-- What one value's reading gives. -/
def OneAt (bs : List Int) (k : Nat) (W : World) (e : Ending) (W' : World) : Prop :=
  Below W.heap.size W W' ∧ ((okN bs (k + 1) ∧ ∃ q va vn vc, e = .returned (.tuple #[.agg #[.int .u64 q, .string ⟨#[]⟩, .slice va vn vc], .int .i64 ((pl bs (k + 1) - pl bs k : Nat) : Int), .int .i64 0]) ∧ (k < 6 → q = numB bs k ∧ Value.slice va vn vc = .slice none 0 0) ∧ (¬ k < 6 → q = 0 ∧ LO W' W.heap.size (.slice va vn vc) (lisB bs k))) ∨
    (¬ okN bs 8 ∧ ∃ E, E ≠ 0 ∧ e = .returned (.tuple #[.agg rcZ11, .int .i64 0, .int .i64 E])))
theorem frm_num (k : Nat) (hk : k < 6) : (kdLet (frmP k) = 98 ∨ kdLet (frmP k) = 119 ∨ kdLet (frmP k) = 108) ∧ widV (kdLet (frmP k)) = (wid k : Int) ∧ (1 ≤ wid k ∧ wid k ≤ 2) := by
  have hc : k = 0 ∨ k = 1 ∨ k = 2 ∨ k = 3 ∨ k = 4 ∨ k = 5 := by omega
  rcases hc with rfl | rfl | rfl | rfl | rfl | rfl
  all_goals exact ⟨by decide, rfl, by decide⟩
theorem one_at (bs : List Int) (k : Nat) (hk8 : k < 8) (hok : okN bs k) (hl : bs.length ≤ 1000) (hb : ∀ b ∈ bs, 0 ≤ b ∧ b < 256) (X : Option Addr) (n c : Nat) (W : World) (hn : n = (bs.drop (pl bs k)).length) (hR : Reads W X ((bs.drop (pl bs k)).map (.int .u8))) (hc : n ≤ c) :
    Calls Tryz.prog 103 #[.int .u8 (kdLet (frmP k)), .slice X n c] W (OneAt bs k W) := by
  subst hn
  have hb' : ∀ b ∈ bs.drop (pl bs k), 0 ≤ b ∧ b < 256 := fun b h => hb b (List.mem_of_mem_drop h)
  have hl' : (bs.drop (pl bs k)).length ≤ 1000 := by rw [List.length_drop]; omega
  have hlen : (bs.drop (pl bs k)).length = bs.length - pl bs k := List.length_drop
  by_cases hk : k < 6
  · obtain ⟨h1, h2, h3⟩ := frm_num k hk
    refine (rone_num _ (wid k) h1 h2 h3 _ X c W hR hl' hc hb').mono ?_
    rintro e W' ⟨hB, ⟨hle, rfl⟩ | ⟨hlt, rfl⟩⟩
    · have hs := pl_succ bs k hk
      refine ⟨hB, .inl ⟨⟨by have := hok.1; omega, fun h => by omega, fun h => by omega⟩, _, none, 0, 0, ?_, fun _ => ⟨rfl, rfl⟩, fun h => absurd hk h⟩⟩
      rw [show pl bs (k + 1) - pl bs k = wid k by omega]
      rfl
    · refine ⟨hB, .inr ⟨fun ho => ?_, 10, by decide, rfl⟩⟩
      have hs := pl_succ bs k hk
      have := ho.1
      have := pl_le bs (k + 1) (by omega)
      omega
  · have hkl : kdLet (frmP k) = 108 := by
      have hc : k = 6 ∨ k = 7 := by omega
      rcases hc with rfl | rfl <;> rfl
    rw [hkl]
    refine (rone_lis _ X c W hR hl' hc hb').mono ?_
    have hg0 : (bs.drop (pl bs k)).getD 0 0 = bs.getD (pl bs k) 0 := by
      rw [List.getD_eq_getElem?_getD, List.getD_eq_getElem?_getD, List.getElem?_drop, Nat.add_zero]
    have hp : pl bs (k + 1) = pl bs k + 1 + 4 * (bs.getD (pl bs k) 0).toNat := by
      have hc : k = 6 ∨ k = 7 := by omega
      rcases hc with rfl | rfl
      · simp only [pl]
      · rfl
    have hiff : l1Ok (bs.drop (pl bs k)) ↔ listOk bs (pl bs k) := by
      unfold l1Ok listOk
      rw [hg0, hlen]
      omega
    rintro e W' ⟨hB, ⟨hy, ga, n, gc, rfl, ho⟩ | ⟨hno, E, hE, rfl⟩⟩
    · have hl2 := hiff.1 hy
      refine ⟨hB, .inl ⟨⟨by rw [hp]; exact hl2.2.2, fun _ => ?_, fun h9 => ?_⟩, 0, ga, n, gc, ?_, fun h => absurd h hk, fun _ => ⟨rfl, ?_⟩⟩⟩
      · have hc : k = 6 ∨ k = 7 := by omega
        rcases hc with rfl | rfl
        · exact hl2
        · exact hok.2.1 (by omega)
      · obtain rfl : k = 7 := by omega
        exact hl2
      · rw [hp, hg0, show pl bs k + 1 + 4 * (bs.getD (pl bs k) 0).toNat - pl bs k = 1 + 4 * (bs.getD (pl bs k) 0).toNat by omega]
      · have e1 : vals ((List.drop 1 (bs.drop (pl bs k))).take (4 * ((bs.drop (pl bs k)).getD 0 0).toNat)) = lisB bs k := by
          rw [hg0, List.drop_drop]; rfl
        rw [e1] at ho
        have e2 : n = (lisB bs k).length := by have := ho.1; rw [List.length_map] at this; omega
        subst e2
        exact ⟨ga, gc, rfl, ho⟩
    · refine ⟨hB, .inr ⟨fun h8 => hno (hiff.2 ?_), E, hE, rfl⟩⟩
      have hc : k = 6 ∨ k = 7 := by omega
      rcases hc with rfl | rfl
      · exact h8.2.1 (by omega)
      · exact h8.2.2 (by omega)
/-- What a slice from a place on reads as. -/
theorem slice_from {W : World} {b o c p : Nat} {bs : List Int} (h : Reads W (some ⟨b, o, none⟩) (bs.map (.int .u8))) (hp : p ≤ bs.length) (hc : bs.length ≤ c) : Reads W (if c = p then some ⟨b, o, none⟩ else some ⟨b, o + p, none⟩) ((bs.drop p).map (.int .u8)) := by
  by_cases e : c = p
  · left
    rw [List.drop_of_length_le (by omega)]; rfl
  · rw [if_neg e]
    rcases h with hr | ⟨b', o', he, hl', hc'⟩
    · rw [List.map_eq_nil_iff] at hr
      left
      rw [hr]; simp
    · cases he
      refine .inr ⟨b, o + p, rfl, hl', fun j u hu => ?_⟩
      rw [Nat.add_assoc]
      refine hc' (p + j) u ?_
      rw [List.getElem?_map] at hu ⊢
      rw [List.getElem?_drop] at hu
      exact hu
end Go.Proofs.YtjocnooekgnedaaGreatDoor
/- Layer 11: the reference's records.Decode at the form of inodes, walked. -/
namespace Go.Proofs.YtjocnooekgnedaaGreatDoor
open Go.RowKit Go.Maps

attribute [local go_sem] Oper.semAt_some

def R5Dec (bs : List Int) (w : World) (x : Ending) (w' : World) : Prop :=
  Below w.heap.size w w' ∧ ((okN bs 8 ∧ ∃ g gc v6 v7, x = .returned (.tuple #[.slice (some ⟨g, 0, none⟩) 8 gc, .int .i64 (pl bs 8), .int .i64 0]) ∧ w'.ownsRow (w.heap.size + 1) 79 3 (.slice (some ⟨g, 0, none⟩) 8 gc) 8 (rcvL bs v6 v7 8) ∧ LO w' (w.heap.size + 1) v6 (lisB bs 6) ∧ LO w' (w.heap.size + 1) v7 (lisB bs 7)) ∨
    (¬ okN bs 8 ∧ ∃ e, e ≠ 0 ∧ x = .returned (.tuple #[.slice none 0 0, .int .i64 0, .int .i64 e])))
/-- What the region leaves: the value in a box, its length, its error. -/
def GotAt (bs : List Int) (k : Nat) (w wx : World) (N : Nat) (u E : Int) (q : Int) (va : Option Addr) (vn vc : Nat) : Prop :=
  Below w.heap.size w wx ∧ w.heap.size ≤ N ∧ Blk wx N 79 #[.int .u64 q, .string ⟨#[]⟩, .slice va vn vc] ∧
  ((E = 0 ∧ u = ((pl bs (k + 1) - pl bs k : Nat) : Int) ∧ okN bs (k + 1) ∧ (k < 6 → q = numB bs k ∧ Value.slice va vn vc = .slice none 0 0) ∧ (¬ k < 6 → q = 0 ∧ LO wx w.heap.size (.slice va vn vc) (lisB bs k))) ∨ (E ≠ 0 ∧ ¬ okN bs 8))
theorem got_first {bs : List Int} {k : Nat} {w w5 : World} {q : Int} {va : Option Addr} {vn vc : Nat} {u E : Int} (hB : Below w.heap.size w w5)
    (h : (E = 0 ∧ u = ((pl bs (k + 1) - pl bs k : Nat) : Int) ∧ okN bs (k + 1) ∧ (k < 6 → q = numB bs k ∧ Value.slice va vn vc = .slice none 0 0) ∧ (¬ k < 6 → q = 0 ∧ LO w5 w.heap.size (.slice va vn vc) (lisB bs k))) ∨ (E ≠ 0 ∧ ¬ okN bs 8)) :
    GotAt bs k w ((w5.alloc (.cells rcZ11 79)).setRow w5.heap.size #[.int .u64 q, .string ⟨#[]⟩, .slice va vn vc]) w5.heap.size u E q va vn vc := by
  refine ⟨Below.setRow (hB.alloc hB.size _) hB.size _, hB.size, (Blk.new w5 79 rcZ11).setRow, ?_⟩
  rcases h with ⟨h1, h2, h3, h4, h5⟩ | h
  · refine .inl ⟨h1, h2, h3, h4, fun hk => ⟨(h5 hk).1, ?_⟩⟩
    have hlo := (h5 hk).2
    refine hlo.block fun b hb => ?_
    have hlt := (hlo.lt b hb).2
    rw [setRow_other _ _ _ _ (by omega), Below.heap_alloc _ _ _ hlt]
  · exact .inr h
theorem got_second {bs : List Int} {k : Nat} {w w5 : World} {N : Nat} {cs : Array Value} {q : Int} {va : Option Addr} {vn vc : Nat} {u E : Int} (hB : Below w.heap.size w w5) (hN : w.heap.size ≤ N) (hb : Blk w5 N 79 cs)
    (h : (E = 0 ∧ u = ((pl bs (k + 1) - pl bs k : Nat) : Int) ∧ okN bs (k + 1) ∧ (k < 6 → q = numB bs k ∧ Value.slice va vn vc = .slice none 0 0) ∧ (¬ k < 6 → q = 0 ∧ LO w5 (N + 1) (.slice va vn vc) (lisB bs k))) ∨ (E ≠ 0 ∧ ¬ okN bs 8)) :
    GotAt bs k w (w5.setRow N #[.int .u64 q, .string ⟨#[]⟩, .slice va vn vc]) N u E q va vn vc := by
  refine ⟨Below.setRow hB hN _, hN, hb.setRow, ?_⟩
  rcases h with ⟨h1, h2, h3, h4, h5⟩ | h
  · refine .inl ⟨h1, h2, h3, h4, fun hk => ⟨(h5 hk).1, ?_⟩⟩
    have hlo := (h5 hk).2
    refine (hlo.block fun b hb => ?_).base (by omega)
    have hlt := (hlo.lt b hb).1
    exact setRow_other _ _ _ _ (by omega)
  · exact .inr h
theorem one_split {bs : List Int} {k : Nat} {W W' : World} {e : Ending} (h : OneAt bs k W e W') : ∃ q va vn vc u E, e = .returned (.tuple #[.agg #[.int .u64 q, .string ⟨#[]⟩, .slice va vn vc], .int .i64 u, .int .i64 E]) ∧
    ((E = 0 ∧ u = ((pl bs (k + 1) - pl bs k : Nat) : Int) ∧ okN bs (k + 1) ∧ (k < 6 → q = numB bs k ∧ Value.slice va vn vc = .slice none 0 0) ∧ (¬ k < 6 → q = 0 ∧ LO W' W.heap.size (.slice va vn vc) (lisB bs k))) ∨ (E ≠ 0 ∧ ¬ okN bs 8)) := by
  obtain ⟨-, ⟨h1, q, va, vn, vc, rfl, h2, h3⟩ | ⟨h1, E, h2, rfl⟩⟩ := h
  · exact ⟨q, va, vn, vc, _, 0, rfl, .inl ⟨rfl, rfl, h1, h2, h3⟩⟩
  · exact ⟨0, none, 0, 0, 0, E, rfl, .inr ⟨h2, h1⟩⟩
set_option maxRecDepth 100000 in
set_option maxHeartbeats 8000000 in
theorem rdec5_some (b0 o0 : Nat) (c : Nat) (bs : List Int) (hl : bs.length ≤ 1000) (hcap : bs.length ≤ c) (hnn : ∀ b ∈ bs, 0 ≤ b ∧ b < 256) (w : World) (hR : Reads w (some ⟨b0, o0, none⟩) (bs.map (.int .u8))) :
    Calls Tryz.prog 68 #[.string frm, .slice (some ⟨b0, o0, none⟩) bs.length c] w (R5Dec bs w) := by
  have hp := rform_any w
  have HR := Lib.hid hR
  have HNN := Lib.hid hnn
  have HL := Lib.hid hl
  have HC := Lib.hid hcap
  clear hR hnn hl hcap
  go_enter Tryz.func68, Tryz.ntmps68
  go_wp2_with fail
  refine hp.mono ?_
  rintro e wq ⟨rfl, hw⟩
  replace hw := hw.symm
  subst hw
  clear hp
  go_wp2_with fail
  go_loopw [8, 9, 10] (fun q8 q9 q10 wr => ∃ (k : Nat) (ga : Option Addr) (gc : Nat) (v6 v7 : Value) (p : Nat), k ≤ 8 ∧ q10 = .int .i64 k ∧ q8 = .slice ga k gc ∧ p = pl bs k ∧ q9 = .int .i64 p ∧ wr.ownsRow (w.heap.size + 1) 79 3 (.slice ga k gc) k (rcvL bs v6 v7 k) ∧ okN bs k ∧ Below w.heap.size w wr ∧ (0 < k → w.heap.size < wr.heap.size) ∧
    (6 < k → LO wr (w.heap.size + 1) v6 (lisB bs 6)) ∧ (7 < k → LO wr (w.heap.size + 1) v7 (lisB bs 7))) (fun _ _ q10 _ => 8 - (RowKit.intOf q10).toNat)
  case atStart => exact ⟨0, none, 0, .slice none 0 0, .slice none 0 0, 0, by omega, rfl, rfl, rfl, rfl, World.ownsRow_nil _ _ _ _, ⟨Nat.zero_le _, fun h => by omega, fun h => by omega⟩, Below.refl _ _, fun h => by omega, fun h => by omega, fun h => by omega⟩
  case round =>
    obtain ⟨k, ga, gc, v6, v7, p, hk, rfl, rfl, hpp, rfl, hown, hokn, hB, hgt, h6, h7⟩ := hrel
    by_cases hlt : k < 8
    · have d1 : (k : Int) < 8 := by omega
      have hix := frm_at k hlt
      have hpl : p ≤ bs.length := by rw [hpp]; exact hokn.1
      obtain ⟨SL, hSL⟩ : ∃ SL : Option Addr, (if c = p then some ⟨b0, o0, none⟩ else some ⟨b0, o0 + p, none⟩ : Option Addr) = SL := ⟨_, rfl⟩
      have hcall : ∀ (c' : Nat) W, Below wr.heap.size wr W → Calls Tryz.prog 103 #[.int .u8 (kdLet (frmP k)), .slice (if c = p then some ⟨b0, o0, none⟩ else some ⟨b0, o0 + p, none⟩) (bs.length - p) (c - p)] W (OneAt bs k W) := fun c' W hW =>
        one_at bs k hlt hokn HL.out HNN.out _ _ _ W (by rw [List.length_drop, hpp]) (by rw [hpp]; exact slice_from (HR.out.below (hB.trans (hW.mono hB.size))) (hpp ▸ hpl) HC.out) (by have := HC.out; omega)
      rw [hSL] at hcall
      have s1 : (0 : Int) ≤ p := by omega
      have s2 : (p : Int) ≤ bs.length := by omega
      have hlI : (bs.length : Int) ≤ c := by have := HC.out; omega
      have HCALL : Hid (∀ (_ : Unit) W, Below wr.heap.size wr W → Calls Tryz.prog 103 #[.int .u8 (kdLet (frmP k)), .slice SL (bs.length - p) (c - p)] W (OneAt bs k W)) := Lib.hid fun _ W hW => hcall 0 W hW
      have HIN := Lib.hid (And.intro hown (And.intro hokn (And.intro hB (And.intro hgt (And.intro h6 h7)))))
      have HPP := Lib.hid hpp
      generalize kdLet (frmP k) = cc at hix HCALL
      have hdr : Below wr.heap.size wr wr.drew := (Below.refl _ _).drew
      clear hcall hown hokn hB hgt h6 h7 hpp
      go_upto_region 9 with fail
      go_cut [11, 12, 13] from 25 to 45 (fun s11 s12 s13 wx => ∃ (N : Nat) (u E q : Int) (va : Option Addr) (vn vc : Nat), s11 = .pointer (some ⟨N, 0, none⟩) ∧ s12 = .int .i64 u ∧ s13 = .int .i64 E ∧ GotAt bs k wr wx N u E q va vn vc)
      case first =>
        as_aux_lemma =>
          refine wp_region_fork [0, 1, 2, 3, 4, 5] 6 11 [.take 7, .take 8, .take 9, .take 10, .one 11, .one 12, .take 13, .take 14] [.one 6, .take 7, .take 8, .take 9, .take 10, .one 12, .take 13, .take 14] 15 (fun _ => True) (by kernel_rfl) (by kernel_rfl) (fun _ _ _ _ _ h => h) trivial ?_
          simp only [List.map_cons, List.map_nil, Ms.fill, List.getD_cons_zero, List.getD_cons_succ]
          iterate 6 (refine mixT_take (by rfl) ?_ (fun w' hw' => ?_) ?_; rotate_left; (focus (go_simp; (try with_reducible rfl))); (try simp only [Act.put, List.setIfInBounds_toArray, List.set_cons_zero, List.set_cons_succ]))
          refine forkQ_nil (fun K hK => ?_) (fun K hK => ?_)
          · go_simp
            refine (HCALL.out () wr.drew hdr).mono ?_
            rintro e w5 hgot
            have hB5 : Below wr.heap.size wr w5 := (Below.refl _ _).drew.trans hgot.1
            obtain ⟨q, va, vn, vc, u, E, rfl, hg⟩ := one_split hgot
            refine hK _ _ trivial ?_
            clear hK K
            iterate 4 (refine mixT_take (by rfl) ?_ (fun w' hw' => ?_) ?_; rotate_left; (focus (go_simp; (try with_reducible rfl))); (try simp only [Act.put, List.setIfInBounds_toArray, List.set_cons_zero, List.set_cons_succ]))
            have bX : Blk (w5.alloc (.cells rcZ11 79)) w5.heap.size 79 rcZ11 := Blk.new _ _ _
            have hst := storeRow (ty := 79) (vs := #[.int .u64 q, .string ⟨#[]⟩, .slice va vn vc]) bX rfl (by simp [Value.oneCell']) (by kernel_rfl)
            have hfin := got_first hB5 hg
            refine mixT_step (by rfl) fun K hK => ?_
            go_simp
            refine hK _ _ (fun _ => trivial) ?_
            clear hK K
            refine mixT_step (by rfl) fun K hK => ?_
            refine op_storeBy _ _ _ rfl _ _ rfl rfl hst ?_
            refine hK _ _ (fun _ => trivial) ?_
            clear hK K
            iterate 2 (refine mixT_take (by rfl) ?_ (fun w' hw' => ?_) ?_; rotate_left; (focus (go_simp; (try with_reducible rfl))); (try simp only [Act.put, List.setIfInBounds_toArray, List.set_cons_zero, List.set_cons_succ]))
            refine mixT_nil ?_
            go_wp2_with fail
            go_meet
            case rel => exact ⟨_, u, E, q, va, vn, vc, rfl, rfl, rfl, hfin⟩
          · obtain ⟨X, hX⟩ : ∃ X, X = wr.drew.alloc (.cells rcZ11 79) := ⟨_, rfl⟩
            have bX : Blk X wr.heap.size 79 rcZ11 := by rw [hX]; exact Blk.new _ _ _
            have BX : Below wr.heap.size wr X := by rw [hX]; exact ((Below.refl _ _).drew).alloc (Nat.le_refl _) _
            have zX : X.heap.size = wr.heap.size + 1 := by rw [hX]; simp
            have HX := Lib.hid (show wr.drew.alloc (.cells rcZ11 79) = X from hX.symm)
            have HX2 := Lib.hid (show (wr.alloc (.cells rcZ11 79)).drew = X from hX.symm)
            clear hX
            go_simp
            first | rw [HX.out] | rw [HX2.out]
            refine hK _ _ trivial ?_
            clear hK K HX HX2
            refine mixT_step (by rfl) fun K hK => ?_
            go_simp
            refine (HCALL.out () X BX).mono ?_
            rintro e w5 hgot
            have hB5 : Below wr.heap.size wr w5 := BX.trans (hgot.1.mono BX.size)
            have b5 := bX.belowAll hgot.1
            obtain ⟨q, va, vn, vc, u, E, rfl, hg⟩ := one_split hgot
            rw [zX] at hg
            refine hK _ _ (fun _ => trivial) ?_
            clear hK K
            iterate 4 (refine mixT_take (by rfl) ?_ (fun w' hw' => ?_) ?_; rotate_left; (focus (go_simp; (try with_reducible rfl))); (try simp only [Act.put, List.setIfInBounds_toArray, List.set_cons_zero, List.set_cons_succ]))
            have hst := storeRow (ty := 79) (vs := #[.int .u64 q, .string ⟨#[]⟩, .slice va vn vc]) b5 rfl (by simp [Value.oneCell']) (by kernel_rfl)
            have hfin := got_second hB5 (Nat.le_refl _) b5 hg
            refine mixT_step (by rfl) fun K hK => ?_
            refine op_storeBy _ _ _ rfl _ _ rfl rfl hst ?_
            refine hK _ _ (fun _ => trivial) ?_
            clear hK K
            iterate 2 (refine mixT_take (by rfl) ?_ (fun w' hw' => ?_) ?_; rotate_left; (focus (go_simp; (try with_reducible rfl))); (try simp only [Act.put, List.setIfInBounds_toArray, List.set_cons_zero, List.set_cons_succ]))
            refine mixT_nil ?_
            go_wp2_with fail
            go_meet
            case rel => exact ⟨_, u, E, q, va, vn, vc, rfl, rfl, rfl, hfin⟩
      case rest =>
        as_aux_lemma =>
          obtain ⟨N, u, E, q, va, vn, vc, rfl, rfl, rfl, hBc, hN, hbN, hres⟩ := hcut
          obtain ⟨hown, hokn, hB, hgt, h6, h7⟩ := HIN.out
          rcases hres with ⟨rfl, rfl, hok1, hnum, hlis⟩ | ⟨hE, hno⟩
          rotate_left
          · have d2 : (E != 0) = true := by simpa using hE
            have HE := Lib.hid (And.intro hE hno)
            have HBB : Hid (Below w.heap.size w wc) := Lib.hid (hB.trans (hBc.mono hB.size))
            clear hE hno hown hokn hB hgt h6 h7 hBc
            go_wp2_with fail
            refine bodyPost_ret (v := .tuple #[.slice none 0 0, .int .i64 0, .int .i64 E]) (by simp [results, Tryz.results68, go_sem]) rfl ?_
            exact ⟨HBB.out, .inr ⟨HE.out.2, E, HE.out.1, rfl⟩⟩
          · have hgtc : w.heap.size < wc.heap.size := by have := hbN.lt; have := hB.size; omega
            have hownc : wc.ownsRow (w.heap.size + 1) 79 3 (.slice ga k gc) k (rcvL bs v6 v7 k) := own_below hown hBc
            obtain ⟨av, cv, w6, hrun, ho6, -, g6, hk6⟩ := rcv_append hk hownc hgtc (Below.refl _ _) (KeepEx.refl _ _ _) q va vn vc
            have hBB : Below w.heap.size w w6 := (hB.trans (hBc.mono hB.size)).trans (hk6.toBelow (by omega) (by simp))
            have hkeepLO : ∀ {v : Value} {l : List Int}, LO wc (w.heap.size + 1) v l → LO w6 (w.heap.size + 1) v l := fun {v l} h => by
              refine h.block fun b hb => ?_
              have hlt := h.lt b hb
              refine g6.keep.block b hlt.2 fun hm => ?_
              rcases List.mem_cons.1 hm with e | e
              · omega
              · obtain ⟨A', c', e', ho'⟩ := h
                exact own_types ho' hownc (by decide) b hb (by simpa using e)
            have hcells : ∃ x6 x7, rcvL bs v6 v7 k ++ [.int .u64 q, .string ⟨#[]⟩, .slice va vn vc] = rcvL bs x6 x7 (k + 1) ∧ (6 < k + 1 → LO w6 (w.heap.size + 1) x6 (lisB bs 6)) ∧ (7 < k + 1 → LO w6 (w.heap.size + 1) x7 (lisB bs 7)) := by
              by_cases hk6' : k < 6
              · obtain ⟨rfl, hv⟩ := hnum hk6'
                rw [hv]
                refine ⟨v6, v7, ?_, fun h => absurd h (by omega), fun h => absurd h (by omega)⟩
                show _ = rcvL bs v6 v7 k ++ _
                rw [if_pos hk6']
              · obtain ⟨rfl, hlo⟩ := hlis hk6'
                have hlo' := hkeepLO (hlo.base (show w.heap.size + 1 ≤ wr.heap.size from hgt (by omega)))
                have hc67 : k = 6 ∨ k = 7 := by omega
                rcases hc67 with rfl | rfl
                · refine ⟨.slice va vn vc, v7, ?_, fun _ => hlo', fun h => absurd h (by omega)⟩
                  show _ = rcvL bs (.slice va vn vc) v7 6 ++ _
                  rw [rcvL_6 bs (.slice va vn vc) v7 v6 v7 6 (by omega)]
                  rfl
                · refine ⟨v6, .slice va vn vc, ?_, fun _ => hkeepLO ((h6 (by omega)).below hBc), fun _ => hlo'⟩
                  show _ = rcvL bs v6 (.slice va vn vc) 7 ++ _
                  rw [rcvL_7 bs v6 (.slice va vn vc) v7 7 (by omega)]
                  rfl
            obtain ⟨x6, x7, hce, hx6, hx7⟩ := hcells
            have hps : pl bs (k + 1) = p + (pl bs (k + 1) - pl bs k) := by
              have h1 : pl bs k ≤ pl bs (k + 1) := by
                have hc : k = 0 ∨ k = 1 ∨ k = 2 ∨ k = 3 ∨ k = 4 ∨ k = 5 ∨ k = 6 ∨ k = 7 := by omega
                rcases hc with rfl | rfl | rfl | rfl | rfl | rfl | rfl | rfl
                all_goals (simp only [pl]; omega)
              have := HPP.out; omega
            have hp1 : pl bs (k + 1) ≤ bs.length := hok1.1
            obtain ⟨d, hd⟩ : ∃ d, d = pl bs (k + 1) - pl bs k := ⟨_, rfl⟩
            rw [← hd] at hps ⊢
            have e1 : IntKind.i64.wrap ((p : Int) + d) = ((p + d : Nat) : Int) := by have := HL.out; rw [IntKind.wrap_i64]; omega
            have cN := hbN.cells
            have lN := hbN.lt
            have HO := Lib.hid (And.intro ho6 (And.intro hce (And.intro hx6 (And.intro hx7 (And.intro hok1 (And.intro hBB hps))))))
            have hs6 : wc.heap.size ≤ w6.heap.size := hk6.size
            clear ho6 hce hx6 hx7 hok1 hBB hps hnum hlis hkeepLO hown hownc hokn hB hgt h6 h7 hBc g6 hk6 hd hp1
            go_wp2_with (refine wpList_appendBy' rfl _ _ _ rfl (.slice ga k gc) (.slice (some ⟨wc.heap.size, 0, none⟩) 1 1) _ rfl rfl hrun ?_)
            go_roundw
            case rel => exact ⟨k + 1, av, cv, x6, x7, p + d, by omega, by go_num, rfl, HO.out.2.2.2.2.2.2.symm, by first | rfl | go_num, by rw [← HO.out.2.1]; exact HO.out.1, HO.out.2.2.2.2.1, HO.out.2.2.2.2.2.1, fun _ => by omega, HO.out.2.2.1, HO.out.2.2.2.1⟩
            case measure => simp [RowKit.intOf]; omega
    · obtain rfl : k = 8 := by omega
      have h4 : (p : Int) ≤ 1000 := by have := hokn.1; have := HL.out; omega
      have d2 : ¬ (4000 : Int) < p := by omega
      obtain ⟨g, gc', e, -, -⟩ := own_form hown (by omega)
      injection e with e1 _ e2
      subst e1
      have HO := Lib.hid (And.intro hown (And.intro hokn (And.intro hB (And.intro (h6 (by omega)) (h7 (by omega))))))
      have HPP := Lib.hid hpp
      clear hown hokn hB h6 h7 hgt hpp e2
      go_wp2_with fail
      refine bodyPost_ret (v := .tuple #[.slice (some ⟨g, 0, none⟩) 8 gc, .int .i64 p, .int .i64 0]) (by simp [results, Tryz.results68, go_sem]) rfl ?_
      exact ⟨HO.out.2.2.1, .inl ⟨HO.out.2.1, g, gc, v6, v7, by rw [HPP.out], HO.out.1, HO.out.2.2.2.1, HO.out.2.2.2.2⟩⟩
end Go.Proofs.YtjocnooekgnedaaGreatDoor
/- Layer 11: the reference's records.Decode of no bytes; Whole. -/
namespace Go.Proofs.YtjocnooekgnedaaGreatDoor
open Go.RowKit Go.Maps

attribute [local go_sem] Oper.semAt_some

set_option maxRecDepth 100000 in
set_option maxHeartbeats 4000000 in
theorem rdec5_nil (A : Option Addr) (c : Nat) (w : World) :
    Calls Tryz.prog 68 #[.string frm, .slice A 0 c] w (R5Dec [] w) := by
  have hp := rform_any w
  have hix := fun W => frm_at 0 (by omega) W
  have hix0 : ∀ W, Sem.run Tryz.prog (Instr.index 9 (.string frm) (.int .i64 0)) W = .ok (.int .u8 98) W := hix
  clear hix
  have hone : ∀ X c' W, Calls Tryz.prog 103 #[.int .u8 98, .slice X 0 c'] W (OneAt [] 0 W) := fun X c' W => one_at [] 0 (by omega) ⟨Nat.zero_le _, fun h => by omega, fun h => by omega⟩ (by simp) (fun b hb => by cases hb) X 0 c' W rfl (.inl rfl) (Nat.zero_le _)
  have HONE := Lib.hid hone
  clear hone
  rcases A with _ | ad
  all_goals
    go_enter Tryz.func68, Tryz.ntmps68
    go_wp2_with fail
    refine hp.mono ?_
    rintro e wq ⟨rfl, hw⟩
    replace hw := hw.symm
    subst hw
    clear hp
    go_wp2_with fail
    refine wp_loop_rounds 1 ?_
    rw [rounds_succ]
    go_upto_region 9 with fail
    refine wp_region_fork [0, 1, 2, 3, 4, 5] 6 11 [.take 7, .take 8, .take 9, .take 10, .one 11, .one 12, .take 13, .take 14] [.one 6, .take 7, .take 8, .take 9, .take 10, .one 12, .take 13, .take 14] 15 (fun _ => True) (by kernel_rfl) (by kernel_rfl) (fun _ _ _ _ _ h => h) trivial ?_
    simp only [List.map_cons, List.map_nil, Ms.fill, List.getD_cons_zero, List.getD_cons_succ]
    iterate 6 (refine mixT_take (by rfl) ?_ (fun w' hw' => ?_) ?_; rotate_left; (focus (go_simp; (try with_reducible rfl))); (try simp only [Act.put, List.setIfInBounds_toArray, List.set_cons_zero, List.set_cons_succ]))
    refine forkQ_nil (fun K hK => ?_) (fun K hK => ?_)
    · go_simp
      refine (HONE.out _ _ w.drew).mono ?_
      rintro e w5 hgot
      have hB5 : Below w.heap.size w w5 := (Below.refl _ _).drew.trans hgot.1
      obtain ⟨q, va, vn, vc, u, E, rfl, hg⟩ := one_split hgot
      refine hK _ _ trivial ?_
      clear hK K
      iterate 4 (refine mixT_take (by rfl) ?_ (fun w' hw' => ?_) ?_; rotate_left; (focus (go_simp; (try with_reducible rfl))); (try simp only [Act.put, List.setIfInBounds_toArray, List.set_cons_zero, List.set_cons_succ]))
      have bX : Blk (w5.alloc (.cells rcZ11 79)) w5.heap.size 79 rcZ11 := Blk.new _ _ _
      have hst := storeRow (ty := 79) (vs := #[.int .u64 q, .string ⟨#[]⟩, .slice va vn vc]) bX rfl (by simp [Value.oneCell']) (by kernel_rfl)
      have hfin := got_first hB5 hg
      refine mixT_step (by rfl) fun K hK => ?_
      go_simp
      refine hK _ _ (fun _ => trivial) ?_
      clear hK K
      refine mixT_step (by rfl) fun K hK => ?_
      refine op_storeBy _ _ _ rfl _ _ rfl rfl hst ?_
      refine hK _ _ (fun _ => trivial) ?_
      clear hK K
      iterate 2 (refine mixT_take (by rfl) ?_ (fun w' hw' => ?_) ?_; rotate_left; (focus (go_simp; (try with_reducible rfl))); (try simp only [Act.put, List.setIfInBounds_toArray, List.set_cons_zero, List.set_cons_succ]))
      refine mixT_nil ?_
      obtain ⟨hBf, -, -, hres⟩ := hfin
      rcases hres with ⟨-, -, hok, -⟩ | ⟨hE, hno⟩
      · exact absurd hok.1 (by decide)
      · have d2 : (E != 0) = true := by simpa using hE
        have HE := Lib.hid hE
        clear hE
        go_wp2_with fail
        refine bodyPost_ret (v := .tuple #[.slice none 0 0, .int .i64 0, .int .i64 E]) (by simp [results, Tryz.results68, go_sem]) rfl ?_
        exact ⟨hBf, .inr ⟨hno, E, HE.out, rfl⟩⟩
    · obtain ⟨X, hX⟩ : ∃ X, X = w.drew.alloc (.cells rcZ11 79) := ⟨_, rfl⟩
      have bX : Blk X w.heap.size 79 rcZ11 := by rw [hX]; exact Blk.new _ _ _
      have BX : Below w.heap.size w X := by rw [hX]; exact ((Below.refl _ _).drew).alloc (Nat.le_refl _) _
      have zX : X.heap.size = w.heap.size + 1 := by rw [hX]; simp
      have HX := Lib.hid (show w.drew.alloc (.cells rcZ11 79) = X from hX.symm)
      have HX2 := Lib.hid (show (w.alloc (.cells rcZ11 79)).drew = X from hX.symm)
      clear hX
      go_simp
      first | rw [HX.out] | rw [HX2.out]
      refine hK _ _ trivial ?_
      clear hK K HX HX2
      refine mixT_step (by rfl) fun K hK => ?_
      go_simp
      refine (HONE.out _ _ X).mono ?_
      rintro e w5 hgot
      have hB5 : Below w.heap.size w w5 := BX.trans (hgot.1.mono BX.size)
      have b5 := bX.belowAll hgot.1
      obtain ⟨q, va, vn, vc, u, E, rfl, hg⟩ := one_split hgot
      rw [zX] at hg
      refine hK _ _ (fun _ => trivial) ?_
      clear hK K
      iterate 4 (refine mixT_take (by rfl) ?_ (fun w' hw' => ?_) ?_; rotate_left; (focus (go_simp; (try with_reducible rfl))); (try simp only [Act.put, List.setIfInBounds_toArray, List.set_cons_zero, List.set_cons_succ]))
      have hst := storeRow (ty := 79) (vs := #[.int .u64 q, .string ⟨#[]⟩, .slice va vn vc]) b5 rfl (by simp [Value.oneCell']) (by kernel_rfl)
      have hfin := got_second hB5 (Nat.le_refl _) b5 hg
      refine mixT_step (by rfl) fun K hK => ?_
      refine op_storeBy _ _ _ rfl _ _ rfl rfl hst ?_
      refine hK _ _ (fun _ => trivial) ?_
      clear hK K
      iterate 2 (refine mixT_take (by rfl) ?_ (fun w' hw' => ?_) ?_; rotate_left; (focus (go_simp; (try with_reducible rfl))); (try simp only [Act.put, List.setIfInBounds_toArray, List.set_cons_zero, List.set_cons_succ]))
      refine mixT_nil ?_
      obtain ⟨hBf, -, -, hres⟩ := hfin
      rcases hres with ⟨-, -, hok, -⟩ | ⟨hE, hno⟩
      · exact absurd hok.1 (by decide)
      · have d2 : (E != 0) = true := by simpa using hE
        have HE := Lib.hid hE
        clear hE
        go_wp2_with fail
        refine bodyPost_ret (v := .tuple #[.slice none 0 0, .int .i64 0, .int .i64 E]) (by simp [results, Tryz.results68, go_sem]) rfl ?_
        exact ⟨hBf, .inr ⟨hno, E, HE.out, rfl⟩⟩

theorem rdec5_any (A : Option Addr) (c : Nat) (bs : List Int) (hl : bs.length ≤ 1000) (hcap : bs.length ≤ c) (hnn : ∀ b ∈ bs, 0 ≤ b ∧ b < 256) (w : World) (hR : Reads w A (bs.map (.int .u8))) :
    Calls Tryz.prog 68 #[.string frm, .slice A bs.length c] w (R5Dec bs w) := by
  rcases Nat.eq_zero_or_pos bs.length with h0 | h0
  · obtain rfl := List.eq_nil_of_length_eq_zero h0
    exact rdec5_nil A c w
  · obtain ⟨b, o, rfl, -⟩ := hR.at_ (k := 0) (by simpa using h0)
    exact rdec5_some b o c bs hl hcap hnn w hR
def R5Whole (bs : List Int) (w : World) (x : Ending) (w' : World) : Prop :=
  Below w.heap.size w w' ∧ ((wholeOk bs ∧ ∃ g gc v6 v7, x = .returned (.tuple #[.slice (some ⟨g, 0, none⟩) 8 gc, .int .i64 0]) ∧ w'.ownsRow (w.heap.size + 1) 79 3 (.slice (some ⟨g, 0, none⟩) 8 gc) 8 (rcvL bs v6 v7 8) ∧ LO w' (w.heap.size + 1) v6 (lisB bs 6) ∧ LO w' (w.heap.size + 1) v7 (lisB bs 7)) ∨
    (¬ wholeOk bs ∧ ∃ e, e ≠ 0 ∧ x = .returned (.tuple #[.slice none 0 0, .int .i64 e])))
set_option maxRecDepth 100000 in
set_option maxHeartbeats 4000000 in
theorem rwhole5_any (A : Option Addr) (c : Nat) (bs : List Int) (hl : bs.length ≤ 1000) (hcap : bs.length ≤ c) (hnn : ∀ b ∈ bs, 0 ≤ b ∧ b < 256) (w : World) (hR : Reads w A (bs.map (.int .u8))) :
    Calls Tryz.prog 43 #[.string frm, .slice A bs.length c] w (R5Whole bs w) := by
  have hd := rdec5_any A c bs hl hcap hnn w hR
  clear hR hnn
  go_enter Tryz.func43, Tryz.ntmps43
  go_wp2_with fail
  refine hd.mono ?_
  rintro x w1 ⟨hb, ⟨hok, g, gc, v6, v7, rfl, ho, h6, h7⟩ | ⟨hno, e, he, rfl⟩⟩
  · have HOK := Lib.hid (And.intro hok (And.intro hb (And.intro ho (And.intro h6 h7))))
    by_cases hlt : pl bs 8 < bs.length
    · have d1 : (pl bs 8 : Int) < bs.length := by omega
      have HLT := Lib.hid hlt
      clear hlt hok hb ho h6 h7 hd
      go_wp2_with fail
      go_ret2
      exact ⟨HOK.out.2.1, .inr ⟨fun h => by have := h.2; have := HLT.out; omega, 6, by decide, rfl⟩⟩
    · have d1 : ¬ (pl bs 8 : Int) < bs.length := by omega
      have HLT := Lib.hid hlt
      have hle : pl bs 8 ≤ bs.length := hok.1
      clear hlt hok hb ho h6 h7 hd
      go_wp2_with fail
      go_ret2
      exact ⟨HOK.out.2.1, .inl ⟨⟨HOK.out.1, by have := HLT.out; omega⟩, g, gc, v6, v7, rfl, HOK.out.2.2.1, HOK.out.2.2.2.1, HOK.out.2.2.2.2⟩⟩
  · have d1 : (e == 0) = false := by simpa using he
    have d2 : (e != 0) = true := by simpa using he
    have HE := Lib.hid (And.intro he hno)
    clear he hno hd
    go_wp2_with fail
    go_ret2
    exact ⟨hb, .inr ⟨fun h => HE.out.2 h.1, e, HE.out.1, rfl⟩⟩
end Go.Proofs.YtjocnooekgnedaaGreatDoor
/- A region that draws its order, as a tree: reads first, operations that come alone, and forks at which either of two may come first. No program in sight. -/
namespace Go.Proofs.YtjocnooekgnedaaGreatDoor
open Go

inductive Tr where
  | done
  | take (k : Nat) (r : Tr)
  | one (k : Nat) (r : Tr)
  | fork (i j : Nat) (r1 r2 : Tr)
inductive Tf where
  | done
  | take (o : Oper) (r : Tf)
  | one (o : Oper) (r : Tf)
  | fork (o p : Oper) (r1 r2 : Tf)
def Tr.takes : List Nat → Tr → Tr
  | [], r => r
  | k :: t, r => .take k (Tr.takes t r)
def Tr.fill (l : List Oper) (d : Oper) : Tr → Tf
  | .done => .done
  | .take k r => .take (l.getD k d) (r.fill l d)
  | .one k r => .one (l.getD k d) (r.fill l d)
  | .fork i j r1 r2 => .fork (l.getD i d) (l.getD j d) (r1.fill l d) (r2.fill l d)
def Tr.size : Tr → Nat
  | .done => 0
  | .take _ r => r.size + 1
  | .one _ r => r.size + 1
  | .fork _ _ r _ => r.size + 1
section
variable {P : Program} {ops : Array Oper} {Q : Exit → Act → World → Prop} {S : World → Prop}
def treeT (P : Program) (ops : Array Oper) (Q : Exit → Act → World → Prop) (S : World → Prop) : Tf → Act → World → Prop
  | .done, a, w => Q .normal a w
  | .take o r, a, w => ∃ v, YieldsIf P ops S o v a ∧ treeT P ops Q S r (a.put o.dst v) w
  | .one o r, a, w => o.wp P a w (fun a' w' => S w' ∧ treeT P ops Q S r a' w') Q
  | .fork o p r1 r2, a, w => o.wp P a w (fun a' w' => S w' ∧ treeT P ops Q S r1 a' w') Q ∧ p.wp P a w (fun a' w' => S w' ∧ treeT P ops Q S r2 a' w') Q
def treeB (ops : Array Oper) : Tr → Array Bool → Bool
  | .done, L => decide (Region.ready .any ops L = [])
  | .take k r, L => decide (k < ops.size) && (Region.ready .any ops L).contains k && Region.free .any ops L k && treeB ops r (L.setIfInBounds k true)
  | .one k r, L => bare ops k && decide (Region.ready .any ops L = [k]) && treeB ops r (L.setIfInBounds k true)
  | .fork i j r1 r2, L => bare ops i && bare ops j && decide (Region.ready .any ops L = [i, j] ∨ Region.ready .any ops L = [j, i]) && decide (r1.size = r2.size) && treeB ops r1 (L.setIfInBounds i true) && treeB ops r2 (L.setIfInBounds j true)
theorem any_tree {l : List Oper} {d : Oper} (hns : Region.noSelect l.toArray = true) (hQ : ∀ c a d v w, Q (.panic c) (Act.put a d v) w → Q (.panic c) a w) :
    ∀ (t : Tr) (L : Array Bool) (a : Act) (w : World), S w → treeB l.toArray t L = true → treeT P l.toArray Q S (t.fill l d) a w → anyS P l.toArray Q S l.toArray.size t.size L a w
  | .done, L, a, w, _, hB, h => by
    simp only [treeB, decide_eq_true_eq] at hB
    exact ⟨hB, h⟩
  | .take k r, L, a, w, hS, hB, h => by
    simp only [treeB, Bool.and_eq_true, decide_eq_true_eq] at hB
    obtain ⟨⟨⟨h0, h1⟩, h2⟩, h4⟩ := hB
    have h0 : l.toArray[k]? = some (l.getD k d) := by
      have h0 : k < l.length := by simpa using h0
      simp [List.getD_eq_getElem?_getD, h0]
    obtain ⟨v, hy, h⟩ := h
    exact anyT_take' h0 hns (fun j hj hjs => by omega) hQ _ L a w (Region.free_spec h0 h2) (by simpa using h1) hy hS (any_tree hns hQ r _ _ _ hS h4 h)
  | .one k r, L, a, w, hS, hB, h => by
    simp only [treeB, Bool.and_eq_true, decide_eq_true_eq] at hB
    obtain ⟨⟨b1, h1⟩, h4⟩ := hB
    refine ⟨fun e => (by rw [h1] at e; cases e), fun i hi => ?_⟩
    rw [h1] at hi
    have hik : i = k := by simpa using hi
    subst hik
    refine wpOp_bare (bare_get (d := d) b1) b1 (Oper.wp_mono ?_ h)
    rintro a' w' ⟨s1, h'⟩
    exact ⟨fun _ => s1, any_tree hns hQ r _ a' w' s1 h4 h'⟩
  | .fork i j r1 r2, L, a, w, hS, hB, h => by
    simp only [treeB, Bool.and_eq_true, decide_eq_true_eq] at hB
    obtain ⟨⟨⟨⟨⟨b1, b2⟩, h1⟩, hN⟩, m1⟩, m2⟩ := hB
    obtain ⟨H1, H2⟩ := h
    have hmem : ∀ k, k ∈ Region.ready .any l.toArray L → k = i ∨ k = j := fun k hk => by
      rcases h1 with h1 | h1
      · rw [h1] at hk; simpa using hk
      · rw [h1] at hk; simpa [or_comm] using hk
    refine ⟨fun e => (by rcases h1 with h1 | h1 <;> (rw [h1] at e; cases e)), fun k hk => ?_⟩
    rcases hmem k hk with e | e
    · subst e
      refine wpOp_bare (bare_get (d := d) b1) b1 (Oper.wp_mono ?_ H1)
      rintro a' w' ⟨s1, h'⟩
      exact ⟨fun _ => s1, any_tree hns hQ r1 _ a' w' s1 m1 h'⟩
    · subst e
      refine wpOp_bare (bare_get (d := d) b2) b2 (Oper.wp_mono ?_ H2)
      rintro a' w' ⟨s1, h'⟩
      refine ⟨fun _ => s1, ?_⟩
      rw [hN]
      exact any_tree hns hQ r2 _ a' w' s1 m2 h'
/-- THE LAW: S holds behind each operation. -/
theorem wp_region_tree {id : Nat} {a : Act} {w : World} {o : Oper} {l : List Oper} (t : Tr) (S : World → Prop) (hm : P.follows .mixedOrders = true)
    (hB : (Region.noSelect (o :: l).toArray && decide (t.size = (o :: l).length) && treeB (o :: l).toArray t (Array.replicate (o :: l).length false)) = true)
    (hQ1 : ∀ c a t v w, Q (.panic c) (Act.put a (some t) v) w → Q (.panic c) a w) (hS : S w.drew)
    (h : treeT P (o :: l).toArray Q S (t.fill (o :: l) o) a w.drew) : (Code.region id (o :: l).toArray true).wp P Q a w := by
  have hQ : ∀ c a d v w, Q (.panic c) (Act.put a d v) w → Q (.panic c) a w := fun c a d v w h => by
    cases d with
    | none => exact h
    | some t => exact hQ1 c a t v w h
  simp only [Bool.and_eq_true, decide_eq_true_eq] at hB
  obtain ⟨⟨hns, hn⟩, hB⟩ := hB
  refine wp_region_any hm ?_
  have H := any_tree (P := P) (Q := Q) (S := S) hns hQ t (Array.replicate (o :: l).length false) a w.drew hS hB h
  rw [hn] at H
  have := any_of_anyS _ _ _ _ H
  simpa using this
theorem tree_done {a : Act} {w : World} (h : Q .normal a w) : treeT P ops Q S .done a w := h
theorem tree_take {o : Oper} {r : Tf} {a : Act} {w : World} (hw : Region.wanted o (yielded ops a.tmps) = true) (v : Value) (hy : ∀ w, S w → (execOp a.eval o).run P w = .ok (.value v) w) (h : treeT P ops Q S r (a.put o.dst v) w) : treeT P ops Q S (.take o r) a w :=
  ⟨v, .inl ⟨hw, hy⟩, h⟩
theorem tree_one {o : Oper} {r : Tf} {a : Act} {w : World} (h : ∀ K : Act → World → Prop, (∀ a' w', S w' → treeT P ops Q S r a' w' → K a' w') → o.wp P a w K Q) : treeT P ops Q S (.one o r) a w := h _ fun _ _ x y => ⟨x, y⟩
theorem tree_fork {o p : Oper} {r1 r2 : Tf} {a : Act} {w : World}
    (h1 : ∀ K : Act → World → Prop, (∀ a' w', S w' → treeT P ops Q S r1 a' w' → K a' w') → o.wp P a w K Q) (h2 : ∀ K : Act → World → Prop, (∀ a' w', S w' → treeT P ops Q S r2 a' w' → K a' w') → p.wp P a w K Q) : treeT P ops Q S (.fork o p r1 r2) a w :=
  ⟨h1 _ fun _ _ x y => ⟨x, y⟩, h2 _ fun _ _ x y => ⟨x, y⟩⟩
end
end Go.Proofs.YtjocnooekgnedaaGreatDoor
/- Layer 11: the reference's Decode. -/
namespace Go.Proofs.YtjocnooekgnedaaGreatDoor
open Go.RowKit Go.Maps

attribute [local go_sem] Oper.semAt_some

theorem reads_i64 (w : World) (a : Int) : Reads (w.alloc (.cells #[.int .i64 a] 3)) (some ⟨w.heap.size, 0, none⟩) [.int .i64 a] := by
  have := Blk.new w 3 #[.int .i64 a]
  exact .inr ⟨_, 0, rfl, this.lt, fun k u hu => by rw [Nat.zero_add]; exact (this.cells k).trans (by simpa using hu)⟩
set_option maxRecDepth 100000 in
set_option maxHeartbeats 4000000 in
theorem ints11_any (l : List Int) (n : Nat) (A : Option Addr) (c : Nat) (w : World) (hn : l.length = n) (hR : Reads w A (l.map (.int .u32))) (hl : l.length ≤ 1000) (hr : ∀ n ∈ l, 0 ≤ n ∧ n < 4294967296) :
    Calls Tryz.prog 44 #[.slice A n c] w fun e w' => ∃ A' c', e = .returned (.slice A' n c') ∧ w'.ownsRow w.heap.size 3 1 (.slice A' n c') n (l.map (.int .i64)) ∧ Below w.heap.size w w' := by
  subst hn
  obtain ⟨i0, hi, hz0, hz1, hz2⟩ := info_parts Tryz.info3
  have HR := Lib.hid hR
  have HRR := Lib.hid hr
  have HL := Lib.hid hl
  clear hR hr hl
  go_enter Tryz.func44, Tryz.ntmps44
  go_wp2_with fail
  go_loopw [3, 4] (fun v q wr => ∃ k : Nat, k ≤ l.length ∧ q = .int .i64 k ∧ wr.ownsRow w.heap.size 3 1 v k ((l.take k).map (.int .i64)) ∧ Below w.heap.size w wr) (fun _ q _ => l.length - (RowKit.intOf q).toNat)
  case atStart => exact ⟨0, Nat.zero_le _, rfl, World.ownsRow_nil _ _ _ _, Below.refl _ _⟩
  case round =>
    obtain ⟨k, hk, rfl, hown, hB⟩ := hrel
    obtain ⟨fa, fc, rfl⟩ := own_slice hown
    by_cases hlt : k < l.length
    · have d1 : (k : Int) < l.length := by omega
      obtain ⟨g, o, rfl, -, hc⟩ := (HR.out.below hB).at_ (k := k) (by simpa using hlt)
      rw [List.getElem_map] at hc
      have hs1 := Lib.hid (take_map hlt (Value.int .i64))
      have hx := HRR.out _ (List.getElem_mem hlt)
      generalize l[k] = x at hc hs1 hx
      have e2 : IntKind.i64.wrap x = x := by rw [IntKind.wrap_i64]; omega
      have hl1 := HL.out
      obtain ⟨X, hX⟩ : ∃ X, X = wr.alloc (.cells #[.int .i64 x] 3) := ⟨_, rfl⟩
      have bX : Below wr.heap.size wr X := by rw [hX]; exact (Below.refl _ _).alloc (Nat.le_refl _) _
      have rX : Reads X (some ⟨wr.heap.size, 0, none⟩) [.int .i64 x] := by rw [hX]; exact reads_i64 _ _
      have HX := Lib.hid hX
      have hoX := own_below hown bX
      have hBX := hB.trans (bX.mono hB.size)
      have hbs : w.heap.size ≤ X.heap.size := hBX.size
      clear hX hown hB bX
      go_wp2_with (at_builtin; rw [← HX.out]; refine wpList_append_any _ rfl (.tmp 11) (.tmp 17) _ rfl w.heap.size 3 i0 (.int .i64 0) 8 Tryz.underlying24 hi hz0 hz1 hz2 rfl (.slice fa k fc) _ _ rfl hoX (some ⟨wr.heap.size, 0, none⟩) 1 1 [.int .i64 x] rfl rfl (fun h => by cases h) rX (by simp [Value.oneCell']) (by simp only [maxLen]; omega) (by omega) hbs ?_; intro v' w4 hown hgrow hat; have hB4 := hBX.grown hgrow hbs (fun q hq => (own_lt hoX q hq).1))
      go_roundw
      case rel => exact ⟨k + 1, by omega, by go_num, by rw [← hs1.out]; exact hown, hB4⟩
      case measure => simp [RowKit.intOf]; omega
    · obtain rfl : k = l.length := by omega
      rw [List.take_length] at hown
      have HO := Lib.hid hown
      clear hown
      go_wp2_with fail
      go_ret
      exact ⟨fa, fc, rfl, HO.out, hB⟩
theorem Tryz.builtNode (a0 a1 a2 a3 a4 a5 : Int) (A6 : Option Addr) (n6 c6 : Nat) (A7 : Option Addr) (n7 c7 : Nat) : Tryz.prog.built 26 [(0, .int .i64 a0), (1, .int .i64 a1), (2, .int .i64 a2), (3, .int .i64 a3), (4, .int .i64 a4), (5, .int .i64 a5), (6, .slice A6 n6 c6), (7, .slice A7 n7 c7)] = some #[.int .i64 a0, .int .i64 a1, .int .i64 a2, .int .i64 a3, .int .i64 a4, .int .i64 a5, .slice A6 n6 c6, .slice A7 n7 c7] := by kernel_rfl
theorem take_build {P : Program} {ops : Array Oper} {Q : Exit → Act → World → Prop} {S : World → Prop} {o : Oper} {r : Tf} {a : Act} {w : World} (t : TypeId) (parts : Array (Nat × Operand)) (ho : o.op = .build t parts) (hw : Region.wanted o (yielded ops a.tmps) = true) (cells : Array Value)
    (hf : P.built t (parts.toList.map fun p => (p.1, a.eval p.2)) = some cells) (h : treeT P ops Q S r (a.put o.dst (.agg cells)) w) : treeT P ops Q S (.take o r) a w :=
  tree_take hw (.agg cells) (fun w' _ => by
    have hf' : P.built t (parts.map fun (i, x) => (i, a.eval x)).toList = some cells := by rw [Array.toList_map]; exact hf
    unfold execOp
    simp only [ho, Sem.run_bind, run_build w' t _ cells hf', Result.andThen_ok]
    rfl) h
/-- A row of another type than a block's is not in this block. -/
theorem own_ne {W : World} {base size n N : Nat} {e t : TypeId} {v : Value} {xs : List Value} {cs : Array Value} (h : W.ownsRow base e size v n xs) (hb : Blk W N t cs) (hne : e ≠ t) : ∀ q, v.ownBlock = some q → q ≠ N := fun q hq hN => by
  subst hN
  rcases h.2 with ⟨rfl, _⟩ | ⟨g, cap, cur, rfl, _, hgb, _⟩
  · cases hq
  have e1 : g = q := by simpa [Value.ownBlock] using hq
  subst e1
  unfold Blk at hb
  rw [hgb] at hb
  simp at hb
  exact hne hb.2
/-- What the region leaves: an inode in a box. -/
def InoBox (bs : List Int) (w wx : World) (N : Nat) (A6 : Option Addr) (c6 : Nat) (A7 : Option Addr) (c7 : Nat) : Prop :=
  Below w.heap.size w wx ∧ w.heap.size ≤ N ∧ Blk wx N 26 (inoC (inoB bs) (.slice A6 (lisB bs 6).length c6) (.slice A7 (lisB bs 7).length c7)) ∧ wx.ownsRow w.heap.size 3 1 (.slice A6 (lisB bs 6).length c6) (lisB bs 6).length ((lisB bs 6).map (.int .i64)) ∧ wx.ownsRow w.heap.size 3 1 (.slice A7 (lisB bs 7).length c7) (lisB bs 7).length ((lisB bs 7).map (.int .i64))
theorem box_done {bs : List Int} {w y : World} {N : Nat} {A6 : Option Addr} {c6 : Nat} {A7 : Option Addr} {c7 : Nat} {cs : Array Value} (hB : Below w.heap.size w y) (hN : w.heap.size ≤ N) (hb : Blk y N 26 cs)
    (h6 : y.ownsRow w.heap.size 3 1 (.slice A6 (lisB bs 6).length c6) (lisB bs 6).length ((lisB bs 6).map (.int .i64))) (h7 : y.ownsRow w.heap.size 3 1 (.slice A7 (lisB bs 7).length c7) (lisB bs 7).length ((lisB bs 7).map (.int .i64))) :
    InoBox bs w (y.setRow N (inoC (inoB bs) (.slice A6 (lisB bs 6).length c6) (.slice A7 (lisB bs 7).length c7))) N A6 c6 A7 c7 :=
  ⟨Below.setRow hB hN _, hN, hb.setRow, own_block h6 (fun q hq => setRow_other _ _ _ _ (own_ne h6 hb (by decide) q hq)), own_block h7 (fun q hq => setRow_other _ _ _ _ (own_ne h7 hb (by decide) q hq))⟩
set_option maxRecDepth 100000 in
set_option maxHeartbeats 8000000 in
theorem rdecode11_any (s j i : Int) (A : Option Addr) (c : Nat) (bs : List Int) (hl : bs.length ≤ 1000) (hcap : bs.length ≤ c) (hnn : ∀ b ∈ bs, 0 ≤ b ∧ b < 256) (w : World) (hR : Reads w A (bs.map (.int .u8))) :
    Calls Tryz.prog 17 #[.agg #[.int .i64 s, .int .i64 j, .int .i64 i], .slice A bs.length c] w (InoPost w (decR s j i bs)) := by
  obtain ⟨wA, hA⟩ : ∃ wA, wA = (w.alloc (.cells #[.int .i64 s, .int .i64 j, .int .i64 i] 23)).alloc (.cells inoZ 26) := ⟨_, rfl⟩
  have bL : Blk wA w.heap.size 23 #[.int .i64 s, .int .i64 j, .int .i64 i] := by rw [hA]; exact (by (repeat' (first | (with_reducible assumption) | exact Blk.new' (by simp) | refine Blk.alloc ?_ _)))
  have bZ : Blk wA (w.heap.size + 1) 26 inoZ := by rw [hA]; exact (by (repeat' (first | (with_reducible assumption) | exact Blk.new' (by simp) | refine Blk.alloc ?_ _)))
  have BA : Below w.heap.size w wA := by rw [hA]; (repeat' (first | (with_reducible exact Below.refl _ _) | (with_reducible assumption) | (with_reducible refine Below.alloc ?_ ?_ _) | (with_reducible refine Below.drew ?_) | (with_reducible refine below_drewN' ?_ _) | (with_reducible refine Below.setCell ?_ ?_ _) | (with_reducible exact Nat.le_refl _) | omega | (simp; done) | (simp; omega)))
  have hrc := regionsR_any s j i wA
  unfold RgPost rgV at hrc
  have HR := Lib.hid hR
  have HNN := Lib.hid hnn
  have HLE := Lib.hid hl
  have HCP := Lib.hid hcap
  clear hR hnn hl hcap
  have cL := bL.cells
  have lL := bL.lt
  go_enter Tryz.func17, Tryz.ntmps17
  go_wp2_with fail
  rw [← hA]
  clear hA
  go_wp2_with fail
  refine hrc.mono ?_
  rintro e w1 ⟨rfl, hb1⟩
  obtain ⟨w2, hw2⟩ : ∃ w2, w1.alloc (.cells #[.int .i64 (rgJ s j i), .int .i64 (rgM s j i), .int .i64 (rgT s j i), .int .i64 (rgD s j i), .int .i64 (rgB s j i)] 53) = w2 := ⟨_, rfl⟩
  have b12 : Below w1.heap.size w1 w2 := by rw [← hw2]; exact (Below.refl _ _).alloc (Nat.le_refl _) _
  have B1 := BA.trans (hb1.mono BA.size)
  have B2 := B1.trans (b12.mono B1.size)
  have bL2 := (bL.belowAll hb1).belowAll b12
  have bZ2 := (bZ.belowAll hb1).belowAll b12
  have HW := Lib.hid hw2
  clear hw2 hrc cL lL bL bZ BA hb1 b12 B1
  go_upto_region 2 with fail
  rw [HW.out]
  by_cases hrg : rgE s j i = 0
  rotate_left
  · as_aux_lemma =>
      have HG : Hid (decR s j i bs = (ino0, rgE s j i)) := Lib.hid (if_pos hrg)
      have hE' : (rgE s j i != 0) = true := by simpa using hrg
      have hst := storeRow (ty := 26) (vs := inoZ) bZ2 rfl (by simp [Value.oneCell']) (by kernel_rfl)
      clear hrg bL2
      go_wp2_with (refine wpList_storeBy rfl _ _ _ rfl _ _ rfl rfl hst ?_)
      have cF := (bZ2.setRow (cs' := inoZ)).cells
      rw [HG.out]
      refine bodyPost_ret (v := .tuple #[.agg inoZ, .int .i64 (rgE s j i)]) (by simp [results, Tryz.results17, go_sem, cF]) rfl ?_
      exact ino_none _ (Below.setRow B2 (by omega) _)
  have HG : Hid (decR s j i bs = decE s j i bs) := Lib.hid (if_neg (by simpa using hrg))
  rw [hrg]
  have hwh := rwhole5_any A c bs HLE.out HCP.out HNN.out w2 (HR.out.below B2)
  have HRG := Lib.hid hrg
  clear hrg
  go_wp2_with fail
  refine hwh.mono ?_
  rintro x w3 ⟨hb3, ⟨hok, g, gc, v6, v7, rfl, ho, h6, h7⟩ | ⟨hno, e, he, rfl⟩⟩
  rotate_left
  · as_aux_lemma =>
      have B3 := B2.trans (hb3.mono B2.size)
      have bZ3 := bZ2.belowAll hb3
      have HG2 : Hid (decE s j i bs = (ino0, 6)) := Lib.hid (by unfold decE; rw [decI_no hno])
      have d1 : (e != 0) = true := by simpa using he
      have hst := storeRow (ty := 26) (vs := inoZ) bZ3 rfl (by simp [Value.oneCell']) (by kernel_rfl)
      clear hwh hno he bL2
      go_wp2_with (refine wpList_storeBy rfl _ _ _ rfl _ _ rfl rfl hst ?_)
      have cF := (bZ3.setRow (cs' := inoZ)).cells
      rw [HG.out, HG2.out]
      refine bodyPost_ret (v := .tuple #[.agg inoZ, .int .i64 6]) (by simp [results, Tryz.results17, go_sem, cF]) rfl ?_
      exact ino_none _ (Below.setRow B3 (by omega) _)
  have B3 := B2.trans (hb3.mono B2.size)
  have bL3 := bL2.belowAll hb3
  have bZ3 := bZ2.belowAll hb3
  obtain ⟨A6, c6, rfl, ho6⟩ := h6
  obtain ⟨A7, c7, rfl, ho7⟩ := h7
  have hr6 := Reads.of_own ho6
  have hr7 := Reads.of_own ho7
  have hL6 := lisB_bds HNN.out HLE.out 6
  have hL7 := lisB_bds HNN.out HLE.out 7
  have w0 : ∀ k, IntKind.i64.wrap (numB bs k) = numB bs k := fun k => by
    have := numB_bds HNN.out k
    rw [IntKind.wrap_i64]; omega
  have hi6 : ∀ W, Below w3.heap.size w3 W → Calls Tryz.prog 44 #[.slice A6 (lisB bs 6).length c6] W fun e w' => ∃ A' c', e = .returned (.slice A' (lisB bs 6).length c') ∧ w'.ownsRow W.heap.size 3 1 (.slice A' (lisB bs 6).length c') (lisB bs 6).length ((lisB bs 6).map (.int .i64)) ∧ Below W.heap.size W w' := fun W hW => ints11_any _ _ A6 c6 W rfl (hr6.below hW) hL6.2 hL6.1
  have hi7 : ∀ W, Below w3.heap.size w3 W → Calls Tryz.prog 44 #[.slice A7 (lisB bs 7).length c7] W fun e w' => ∃ A' c', e = .returned (.slice A' (lisB bs 7).length c') ∧ w'.ownsRow W.heap.size 3 1 (.slice A' (lisB bs 7).length c') (lisB bs 7).length ((lisB bs 7).map (.int .i64)) ∧ Below W.heap.size W w' := fun W hW => ints11_any _ _ A7 c7 W rfl (hr7.below hW) hL7.2 hL7.1
  have H6 := Lib.hid hi6
  have H7 := Lib.hid hi7
  have hS : ∀ W, Below w3.heap.size w3 W → (fun W => W.cell? ⟨g, 0, none⟩ = some (.int .u64 (numB bs 0)) ∧ W.cell? ⟨g, 3, none⟩ = some (.int .u64 (numB bs 1)) ∧ W.cell? ⟨g, 6, none⟩ = some (.int .u64 (numB bs 2)) ∧ W.cell? ⟨g, 9, none⟩ = some (.int .u64 (numB bs 3)) ∧ W.cell? ⟨g, 12, none⟩ = some (.int .u64 (numB bs 4)) ∧ W.cell? ⟨g, 15, none⟩ = some (.int .u64 (numB bs 5)) ∧ W.cell? ⟨g, 20, none⟩ = some (.slice A6 (lisB bs 6).length c6) ∧ W.cell? ⟨g, 23, none⟩ = some (.slice A7 (lisB bs 7).length c7)) W := fun W hW => by
    have hor := own_below ho hW
    have hn := fun k hk => own_cell hor (rcvL_num bs (.slice A6 (lisB bs 6).length c6) (.slice A7 (lisB bs 7).length c7) k hk)
    exact ⟨hn 0 (by omega), hn 1 (by omega), hn 2 (by omega), hn 3 (by omega), hn 4 (by omega), hn 5 (by omega), own_cell hor (j := 20) rfl, own_cell hor (j := 23) rfl⟩
  have HS := Lib.hid hS
  have HIN := Lib.hid (And.intro bL3 (And.intro bZ3 (And.intro B3 (And.intro hL6 hL7))))
  have HOK := Lib.hid hok
  have q0 := w0 0
  have q1 := w0 1
  have q2 := w0 2
  have q3 := w0 3
  have q4 := w0 4
  have q5 := w0 5
  clear hwh ho ho6 ho7 hr6 hr7 hL6 hL7 w0 hi6 hi7 hS bL3 bZ3 B3 hok hb3 B2 bL2 bZ2
  go_upto_region 7 with fail
  go_cut [9] from 27 to 67 (fun s9 wx => ∃ (N : Nat) (Ra : Option Addr) (ra : Nat) (Rb : Option Addr) (rb : Nat), s9 = .pointer (some ⟨N, 0, none⟩) ∧ InoBox bs w3 wx N Ra ra Rb rb)
  case first =>
    as_aux_lemma =>
      refine wp_region_tree (Tr.takes [0, 1, 2, 3, 4, 5, 6, 7, 8, 9, 10, 11, 12, 13, 14, 15, 16, 17, 18, 19, 20, 21, 22, 23, 24, 25, 26, 27, 28, 29, 30, 31, 32, 33, 35, 36, 37, 38] (.fork 34 41 (.fork 39 41 (.take 40 (.one 41 (.one 42 .done))) (.one 39 (.take 40 (.one 42 .done)))) (.one 34 (.one 39 (.take 40 (.one 42 .done)))))) (fun W => W.cell? ⟨g, 0, none⟩ = some (.int .u64 (numB bs 0)) ∧ W.cell? ⟨g, 3, none⟩ = some (.int .u64 (numB bs 1)) ∧ W.cell? ⟨g, 6, none⟩ = some (.int .u64 (numB bs 2)) ∧ W.cell? ⟨g, 9, none⟩ = some (.int .u64 (numB bs 3)) ∧ W.cell? ⟨g, 12, none⟩ = some (.int .u64 (numB bs 4)) ∧ W.cell? ⟨g, 15, none⟩ = some (.int .u64 (numB bs 5)) ∧ W.cell? ⟨g, 20, none⟩ = some (.slice A6 (lisB bs 6).length c6) ∧ W.cell? ⟨g, 23, none⟩ = some (.slice A7 (lisB bs 7).length c7)) (by kernel_rfl) (by kernel_rfl) (fun _ _ _ _ _ h => h) (HS.out _ (Below.refl _ _).drew) ?_
      simp only [Tr.takes, Tr.fill, List.getD_cons_zero, List.getD_cons_succ]
      iterate 38 (refine tree_take (by rfl) ?_ (fun w' hw' => ?_) ?_; rotate_left; (focus (go_simp; (try with_reducible rfl))); (try simp only [Act.put, List.setIfInBounds_toArray, List.set_cons_zero, List.set_cons_succ]))
      refine tree_fork (fun K hK => ?_) (fun K hK => ?_)
      · go_simp
        refine (H6.out w3.drew (Below.refl _ _).drew).mono ?_
        rintro e y1 ⟨Ra, ra, rfl, hr1, hb_1⟩
        have D1 : Below w3.heap.size w3 y1 := (Below.refl _ _).drew.trans hb_1
        have hr1' : y1.ownsRow w3.heap.size 3 1 (.slice Ra (lisB bs 6).length ra) (lisB bs 6).length ((lisB bs 6).map (.int .i64)) := hr1
        refine hK _ _ (HS.out _ D1) ?_
        clear hK K hr1
        refine tree_fork (fun K hK => ?_) (fun K hK => ?_)
        · go_simp
          refine (H7.out y1 D1).mono ?_
          rintro e y2 ⟨Rb, rb, rfl, hr2, hb_2⟩
          have D2 := D1.trans (hb_2.mono D1.size)
          refine hK _ _ (HS.out _ D2) ?_
          clear hK K
          refine take_build 26 _ rfl (by rfl) (inoC (inoB bs) (.slice Ra (lisB bs 6).length ra) (.slice Rb (lisB bs 7).length rb)) (Tryz.builtNode _ _ _ _ _ _ _ _ _ _ _ _) ?_
          try simp only [Act.put, List.setIfInBounds_toArray, List.set_cons_zero, List.set_cons_succ]
          have bX : Blk (y2.alloc (.cells inoZ 26)) y2.heap.size 26 inoZ := Blk.new _ _ _
          have b23 : Below y2.heap.size y2 (y2.alloc (.cells inoZ 26)) := (Below.refl _ _).alloc (Nat.le_refl _) _
          have D3 := D2.trans (b23.mono D2.size)
          have hfin := box_done (bs := bs) D3 D2.size bX (own_below (own_below hr1' hb_2) b23) (own_base (own_below hr2 b23) D1.size)
          refine tree_one fun K hK => ?_
          go_simp
          refine hK _ _ (HS.out _ D3) ?_
          clear hK K
          have hst := storeRow (ty := 26) (vs := inoC (inoB bs) (.slice Ra (lisB bs 6).length ra) (.slice Rb (lisB bs 7).length rb)) bX rfl (by simp [Value.oneCell']) (by kernel_rfl)
          refine tree_one fun K hK => ?_
          refine op_storeBy _ _ _ rfl _ _ rfl rfl hst ?_
          refine hK _ _ (HS.out _ hfin.1) ?_
          clear hK K
          have HF := Lib.hid hfin
          clear hfin hst hr1' hr2 hb_1 hb_2 D1 D2 D3 bX b23
          refine tree_done ?_
          go_wp2_with fail
          go_meet
          case rel => exact ⟨_, Ra, ra, Rb, rb, rfl, HF.out⟩
        · obtain ⟨X, hX⟩ : ∃ X, X = y1.alloc (.cells inoZ 26) := ⟨_, rfl⟩
          have bX : Blk X y1.heap.size 26 inoZ := by rw [hX]; exact Blk.new _ _ _
          have b1X : Below y1.heap.size y1 X := by rw [hX]; exact (Below.refl _ _).alloc (Nat.le_refl _) _
          have HX := Lib.hid (show y1.alloc (.cells inoZ 26) = X from hX.symm)
          have DX := D1.trans (b1X.mono D1.size)
          clear hX
          go_simp
          rw [HX.out]
          refine hK _ _ (HS.out _ DX) ?_
          clear hK K HX
          refine tree_one fun K hK => ?_
          go_simp
          refine (H7.out X DX).mono ?_
          rintro e y2 ⟨Rb, rb, rfl, hr2, hb_2⟩
          have D2 := DX.trans (hb_2.mono DX.size)
          have bX2 := bX.belowAll hb_2
          refine hK _ _ (HS.out _ D2) ?_
          clear hK K
          refine take_build 26 _ rfl (by rfl) (inoC (inoB bs) (.slice Ra (lisB bs 6).length ra) (.slice Rb (lisB bs 7).length rb)) (Tryz.builtNode _ _ _ _ _ _ _ _ _ _ _ _) ?_
          try simp only [Act.put, List.setIfInBounds_toArray, List.set_cons_zero, List.set_cons_succ]
          have hfin := box_done (bs := bs) D2 D1.size bX2 (own_below (own_below hr1' b1X) hb_2) (own_base hr2 DX.size)
          have hst := storeRow (ty := 26) (vs := inoC (inoB bs) (.slice Ra (lisB bs 6).length ra) (.slice Rb (lisB bs 7).length rb)) bX2 rfl (by simp [Value.oneCell']) (by kernel_rfl)
          refine tree_one fun K hK => ?_
          refine op_storeBy _ _ _ rfl _ _ rfl rfl hst ?_
          refine hK _ _ (HS.out _ hfin.1) ?_
          clear hK K
          have HF := Lib.hid hfin
          clear hfin hst hr1' hr2 hb_1 hb_2 D1 D2 DX bX bX2 b1X
          refine tree_done ?_
          go_wp2_with fail
          go_meet
          case rel => exact ⟨_, Ra, ra, Rb, rb, rfl, HF.out⟩
      · obtain ⟨X, hX⟩ : ∃ X, X = w3.drew.alloc (.cells inoZ 26) := ⟨_, rfl⟩
        have bX : Blk X w3.heap.size 26 inoZ := by rw [hX]; exact Blk.new w3.drew _ _
        have DX : Below w3.heap.size w3 X := by rw [hX]; exact ((Below.refl _ _).drew).alloc (Nat.le_refl _) _
        have HX := Lib.hid (show w3.drew.alloc (.cells inoZ 26) = X from hX.symm)
        have HX2 := Lib.hid (show (w3.alloc (.cells inoZ 26)).drew = X from hX.symm)
        clear hX
        go_simp
        first | rw [HX.out] | rw [HX2.out]
        refine hK _ _ (HS.out _ DX) ?_
        clear hK K HX HX2
        refine tree_one fun K hK => ?_
        go_simp
        refine (H6.out X DX).mono ?_
        rintro e y1 ⟨Ra, ra, rfl, hr1, hb_1⟩
        have D1 := DX.trans (hb_1.mono DX.size)
        have bX1 := bX.belowAll hb_1
        refine hK _ _ (HS.out _ D1) ?_
        clear hK K
        refine tree_one fun K hK => ?_
        go_simp
        refine (H7.out y1 D1).mono ?_
        rintro e y2 ⟨Rb, rb, rfl, hr2, hb_2⟩
        have D2 := D1.trans (hb_2.mono D1.size)
        have bX2 := bX1.belowAll hb_2
        refine hK _ _ (HS.out _ D2) ?_
        clear hK K
        refine take_build 26 _ rfl (by rfl) (inoC (inoB bs) (.slice Ra (lisB bs 6).length ra) (.slice Rb (lisB bs 7).length rb)) (Tryz.builtNode _ _ _ _ _ _ _ _ _ _ _ _) ?_
        try simp only [Act.put, List.setIfInBounds_toArray, List.set_cons_zero, List.set_cons_succ]
        have hfin := box_done (bs := bs) D2 (Nat.le_refl _) bX2 (own_base (own_below hr1 hb_2) DX.size) (own_base hr2 D1.size)
        have hst := storeRow (ty := 26) (vs := inoC (inoB bs) (.slice Ra (lisB bs 6).length ra) (.slice Rb (lisB bs 7).length rb)) bX2 rfl (by simp [Value.oneCell']) (by kernel_rfl)
        refine tree_one fun K hK => ?_
        refine op_storeBy _ _ _ rfl _ _ rfl rfl hst ?_
        refine hK _ _ (HS.out _ hfin.1) ?_
        clear hK K
        have HF := Lib.hid hfin
        clear hfin hst hr1 hr2 hb_1 hb_2 D1 D2 DX bX bX1 bX2
        refine tree_done ?_
        go_wp2_with fail
        go_meet
        case rel => exact ⟨_, Ra, ra, Rb, rb, rfl, HF.out⟩
  case rest =>
    as_aux_lemma =>
      obtain ⟨N, Ra, ra, Rb, rb, rfl, hBc, hN, hbN, hr6, hr7⟩ := hcut
      obtain ⟨bL3, bZ3, B3, hL6, hL7⟩ := HIN.out
      have bLc := bL3.belowAll hBc
      have bZc := bZ3.belowAll hBc
      have Bc := B3.trans (hBc.mono B3.size)
      have hzl := bZ3.lt
      have hck := rcheck_any s j i (inoB bs) Ra ra Rb rb wc ⟨Reads.of_own hr6, Reads.of_own hr7, hL6.2, hL7.2⟩
      have cX := hbN.cells
      have lX := hbN.lt
      have cL := bLc.cells
      have lL := bLc.lt
      clear bL3 bZ3 B3 hL6 hL7 HIN H6 H7 HS
      go_wp2_with fail
      refine hck.mono ?_
      rintro x w9 ⟨rfl, hb9⟩
      have hX9 := hbN.belowAll hb9
      have hZ9 := bZc.belowAll hb9
      have hB9 := Bc.trans (hb9.mono Bc.size)
      have h69 := own_below hr6 hb9
      have h79 := own_below hr7 hb9
      have hZs : w.heap.size + 1 < w3.heap.size := hzl
      clear hck cX lX cL lL hr6 hr7 hbN bLc bZc Bc hb9 hBc
      by_cases hE : inoE s j i (inoB bs) = 0
      rotate_left
      · have HG2 : Hid (decE s j i bs = (ino0, 6)) := Lib.hid (by unfold decE; rw [decI_yes HOK.out]; simp only; rw [if_pos hE])
        have d1 : (inoE s j i (inoB bs) != 0) = true := by simpa using hE
        have hst := storeRow (ty := 26) (vs := inoZ) hZ9 rfl (by simp [Value.oneCell']) (by kernel_rfl)
        clear hE hX9 h69 h79
        go_wp2_with (refine wpList_storeBy rfl _ _ _ rfl _ _ rfl rfl hst ?_)
        have cF := (hZ9.setRow (cs' := inoZ)).cells
        rw [HG.out, HG2.out]
        refine bodyPost_ret (v := .tuple #[.agg inoZ, .int .i64 6]) (by simp [results, Tryz.results17, go_sem, cF]) rfl ?_
        exact ino_none _ (Below.setRow hB9 (by omega) _)
      · have HG2 : Hid (decE s j i bs = (inoB bs, 0)) := Lib.hid (by unfold decE; rw [decI_yes HOK.out]; simp only; rw [if_neg (by simpa using hE)])
        have cX := hX9.cells
        have lX := hX9.lt
        have hst := storeRow (ty := 26) (vs := inoC (inoB bs) (.slice Ra (lisB bs 6).length ra) (.slice Rb (lisB bs 7).length rb)) hZ9 rfl (by simp [Value.oneCell']) (by kernel_rfl)
        rw [hE]
        clear hE
        go_wp2_with (refine wpList_storeBy rfl _ _ _ rfl _ _ rfl rfl hst ?_)
        have cF := (hZ9.setRow (cs' := inoC (inoB bs) (.slice Ra (lisB bs 6).length ra) (.slice Rb (lisB bs 7).length rb))).cells
        rw [HG.out, HG2.out]
        refine bodyPost_ret (v := .tuple #[.agg (inoC (inoB bs) (.slice Ra (lisB bs 6).length ra) (.slice Rb (lisB bs 7).length rb)), .int .i64 0]) (by simp [results, Tryz.results17, go_sem, cF]) rfl ?_
        have hoth : ∀ q, w3.heap.size ≤ q → q ≠ w.heap.size + 1 := fun q h => by omega
        exact ⟨_, _, rfl, own_base (own_block h69 (fun q e => setRow_other _ _ q _ (hoth q (own_lt h69 q e).1))) (by omega), own_base (own_block h79 (fun q e => setRow_other _ _ q _ (hoth q (own_lt h79 q e).1))) (by omega), Below.setRow hB9 (by omega) _⟩
end Go.Proofs.YtjocnooekgnedaaGreatDoor
/- P11.2: InodesDecodes, walked. -/
namespace Go.Proofs.YtjocnooekgnedaaGreatDoor
open Go.RowKit Go.Maps

attribute [local go_sem] Oper.semAt_some

theorem decR_split2 (s j i : Int) (b : List Int) : (decR s j i b).1 = ino0 ∨ ∃ v, decR s j i b = (v, 0) ∧ inoE s j i v = 0 := by
  unfold decR
  by_cases h : rgE s j i ≠ 0
  · rw [if_pos h]; exact .inl rfl
  · rw [if_neg h]
    unfold decE
    cases hd : decI b with
    | none => exact .inl rfl
    | some v =>
      simp only
      by_cases hv : inoE s j i v ≠ 0
      · rw [if_pos hv]; exact .inl rfl
      · rw [if_neg hv]; exact .inr ⟨v, rfl, by simpa using hv⟩
theorem decR_small (s j i : Int) {bs : List Int} (_hnn : ∀ b ∈ bs, 0 ≤ b ∧ b < 256) (_hl : bs.length ≤ 1000) : (decR s j i bs).1.blocks.length ≤ 1000 ∧ (decR s j i bs).1.attrs.length ≤ 1000 := by
  rcases decR_split2 s j i bs with h | ⟨v, h, hv⟩
  · rw [h]; simp [ino0]
  · rw [h]
    have := (inoE_ok.1 hv).small
    simp only
    omega
set_option maxRecDepth 100000 in
set_option maxHeartbeats 4000000 in
theorem inodesDecodes_any (s j i : Int) (Ab : Option Addr) (cb : Nat) (bs : List Int) (w : World) (hH : HalfAt w) (hb : Reads w Ab (bs.map (.int .u8))) (hbn : ∀ x ∈ bs, 0 ≤ x ∧ x < 256) (hbc : bs.length ≤ cb) :
    Calls Tryz.prog 4 #[.agg #[.int .i64 s, .int .i64 j, .int .i64 i], .slice Ab bs.length cb] w fun e w' => e = .returned (.bool true) ∧ Below w.heap.size w w' := by
  have hp0 := hH.1
  have HH := Lib.hid hH
  have HB := Lib.hid (And.intro hb (And.intro hbn hbc))
  obtain ⟨wA, hA⟩ : ∃ wA, wA = w.alloc (.cells #[.int .i64 s, .int .i64 j, .int .i64 i] 23) := ⟨_, rfl⟩
  have bL : Blk wA w.heap.size 23 #[.int .i64 s, .int .i64 j, .int .i64 i] := by rw [hA]; exact Blk.new _ _ _
  have BA : Below w.heap.size w wA := by rw [hA]; exact (Below.refl _ _).alloc (Nat.le_refl _) _
  have hshow : ∀ V, Below w.heap.size w V → Calls Tryz.prog 11 #[] V fun e w' => e = .returned (.bool true) ∧ Below V.heap.size V w' := fun V hV => shown11_any V (HH.out.below hV hp0)
  have HSH := Lib.hid hshow
  clear hshow hH hb hbn hbc
  by_cases hbl : 300 < bs.length
  · as_aux_lemma =>
      have d1 : (300 : Int) < bs.length := by omega
      have hs := HSH.out wA BA
      clear hbl
      go_enter Tryz.func4, Tryz.ntmps4
      go_upto_region 1 with fail
      rw [← hA]
      clear hA
      go_wp2_with fail
      refine hs.mono ?_
      rintro e w2 ⟨rfl, hb2⟩
      go_wp2_with fail
      go_ret
      exact ⟨rfl, BA.trans (hb2.mono BA.size)⟩
  have d1 : ¬ (300 : Int) < bs.length := by omega
  have hl : bs.length ≤ 1000 := by omega
  have hde := decode_ino s j i Ab cb bs hl HB.out.2.2 HB.out.2.1 wA (HB.out.1.below BA)
  have HSM := Lib.hid (decR_small s j i HB.out.2.1 hl)
  have HD2 : Hid (∀ V, Below w.heap.size w V → Calls Tryz.prog 17 #[.agg #[.int .i64 s, .int .i64 j, .int .i64 i], .slice Ab bs.length cb] V (InoPost V (decR s j i bs))) := Lib.hid fun V hV => rdecode11_any s j i Ab cb bs hl HB.out.2.2 HB.out.2.1 V (HB.out.1.below hV)
  have cL := bL.cells
  have lL := bL.lt
  clear hbl hl
  generalize decR s j i bs = r at *
  obtain ⟨v, E⟩ := r
  go_enter Tryz.func4, Tryz.ntmps4
  go_upto_region 1 with fail
  rw [← hA]
  clear hA
  go_wp2_with fail
  refine hde.mono ?_
  rintro e w3 ⟨bv, av, rfl, hob, hoa, hb3⟩
  obtain ⟨Ab3, cb3, rfl⟩ := own_slice hob
  obtain ⟨Aa3, ca3, rfl⟩ := own_slice hoa
  simp only at hob hoa ⊢
  obtain ⟨w4, hw4⟩ : ∃ W, W = w3.alloc (.cells (inoC v (.slice Ab3 v.blocks.length cb3) (.slice Aa3 v.attrs.length ca3)) 26) := ⟨_, rfl⟩
  have b34 : Below w3.heap.size w3 w4 := by rw [hw4]; exact (Below.refl _ _).alloc (Nat.le_refl _) _
  have bY : Blk w4 w3.heap.size 26 (inoC v (.slice Ab3 v.blocks.length cb3) (.slice Aa3 v.attrs.length ca3)) := by rw [hw4]; exact Blk.new _ _ _
  have hb4 := hb3.trans (b34.mono hb3.size)
  have B4 := BA.trans (hb4.mono BA.size)
  have bL4 := bL.belowAll hb4
  have hr6 := Reads.of_own (own_below hob b34)
  have hr7 := Reads.of_own (own_below hoa b34)
  have HW4 := Lib.hid hw4
  have hd2 := HD2.out w4 B4
  clear hde cL lL bL BA hb3 b34 hw4 hb4 hob hoa
  have cL := bL4.cells
  have lL := bL4.lt
  go_upto_region 4 with fail
  have e4 := HW4.out.symm
  simp only [inoC] at e4
  rw [e4]
  clear e4
  go_wp2_with fail
  refine hd2.mono ?_
  rintro e w5 ⟨bv, av, rfl, hob, hoa, hb5⟩
  obtain ⟨Ab5, cb5, rfl⟩ := own_slice hob
  obtain ⟨Aa5, ca5, rfl⟩ := own_slice hoa
  simp only at hob hoa ⊢
  obtain ⟨w6, hw6⟩ : ∃ W, W = w5.alloc (.cells (inoC v (.slice Ab5 v.blocks.length cb5) (.slice Aa5 v.attrs.length ca5)) 26) := ⟨_, rfl⟩
  have b56 : Below w5.heap.size w5 w6 := by rw [hw6]; exact (Below.refl _ _).alloc (Nat.le_refl _) _
  have bZ : Blk w6 w5.heap.size 26 (inoC v (.slice Ab5 v.blocks.length cb5) (.slice Aa5 v.attrs.length ca5)) := by rw [hw6]; exact Blk.new _ _ _
  have hb6 := hb5.trans (b56.mono hb5.size)
  have B6 := B4.trans (hb6.mono B4.size)
  have bY6 := bY.belowAll hb6
  have hsame := same_ino v v Ab3 cb3 Aa3 ca3 Ab5 cb5 Aa5 ca5 w6 ⟨hr6.below hb6, hr7.below hb6, HSM.out.1, HSM.out.2⟩ ⟨Reads.of_own (own_below hob b56), Reads.of_own (own_below hoa b56), HSM.out.1, HSM.out.2⟩ HSM.out.1 HSM.out.2 HSM.out.1 HSM.out.2
  rw [(sameIno_iff v v).2 rfl] at hsame
  have HW6 := Lib.hid hw6
  have d2 : (E == E) = true := by simp
  clear hd2 cL lL bL4 B4 bY hb5 b56 hw6 hb6 hob hoa hr6 hr7
  have cY := bY6.cells
  have lY := bY6.lt
  have cZ := bZ.cells
  have lZ := bZ.lt
  go_upto_region 5 with fail
  have e6 := HW6.out.symm
  simp only [inoC] at e6
  rw [e6]
  clear e6
  go_wp2_with fail
  refine hsame.mono ?_
  rintro e w7 ⟨rfl, hb7⟩
  have B7 := B6.trans (hb7.mono B6.size)
  have hs := HSH.out w7 B7
  clear hsame cY lY cZ lZ
  go_wp2_with fail
  refine hs.mono ?_
  rintro e w8 ⟨rfl, hb8⟩
  go_wp2_with fail
  go_ret
  exact ⟨rfl, B7.trans (hb8.mono B7.size)⟩
end Go.Proofs.YtjocnooekgnedaaGreatDoor
/- P11.2: InodesDecodes: the row proved, and its tied card. -/
namespace Go.Proofs.YtjocnooekgnedaaGreatDoor
open Go.ChangeShapes Go.WideShapes Go.ChangeAt Go.RowKit Go.Joins Go.Deep

set_option maxRecDepth 100000 in
theorem inodesDecodes_lifted (os : Os) (started : os.Started) (H : Type) (enc : TypeId × Value → H) :
    ReturnsInHanded {} Tryz.checked os 4 .any (fun w args => (Rows.inodesDecodesSpec.pre enc Tryz.prog Tryz.f4 [] false w args ∧ laidMetH Tryz.prog half1 w) ∧ sizedMet enc Tryz.prog Tryz.f4 (OpenSpec.ofChange Rows.inodesDecodesSpec) false w args)
      (Rows.inodesDecodesSpec.post enc Tryz.prog Tryz.f4 false true false false) := by
  refine returnsInHanded_of_change_and (C := Tryz.checked) (X := fun w _ => laidMetH Tryz.prog half1 w) (fun _ _ _ hh h => h.of_heap hh) Tryz.own started (by kernel_rfl) Tryz.func4
    (ChangeSpec.witness_shaped (enc := enc) (C := Tryz.checked) (os := os) (X := fun w _ => laidMetH Tryz.prog half1 w) false (World.doorLaid Tryz.prog 400 os) #[.agg #[.int .i64 0, .int .i64 0, .int .i64 0], .slice none 0 0] 8 rfl (World.shaped_of_RefB (by kernel_rfl) (by kernel_rfl)) (by kernel_rfl) (by kernel_rfl) (by kernel_rfl) (door_met os _)) ?_
  intro W base args ds gs before hval0 hW _ _ hL _
  have hval : ∀ (j : Nat) t v, Tryz.f4.params[j]? = some t → args[j]? = some v → Value.okWide Tryz.prog W .any base t v := hval0
  have hW' := hW
  obtain ⟨p, q, hA0, hV, rfl, hfz, hnd⟩ := hW
  have hA : DataW.TrodAll enc Tryz.prog W 0 (fun _ => true) true Tryz.f4.params.toList args.toList ds p := hA0
  rw [Tryz.params4] at hA hval
  obtain ⟨v0, v1, d0, d1, p0, p1, rfl, rfl, rfl, h0, h1⟩ := trodAll_two hA
  obtain ⟨rfl, rfl⟩ := trodVars_none hV
  have hH := half_of_laid hL
  have h0k := h0
  have h1k := h1
  clear hA0 hval0
  simp only [List.append_nil] at hW'
  have hlt0 : ∀ x ∈ p0, x.block < W.heap.size := fun x hx => by simpa using hW'.lt x (by simp [hx])
  have hlt1 : ∀ x ∈ p1, x.block < W.heap.size := fun x hx => by simpa using hW'.lt x (by simp [hx])
  obtain ⟨ls, lj, li, rfl, hws0, hwj0, hwi0⟩ := open_lay (hval 0 23 v0 rfl rfl) h0
  obtain ⟨bA, bc, bx, rfl, hR1, hw1, hn1, hc1⟩ := open_bytes11 (hval 1 29 v1 rfl rfl) h1
  refine (inodesDecodes_any ls lj li bA bc bx W hH hR1 hw1 hn1).mono fun e W' ⟨he, hnx⟩ => ?_
  subst he
  refine ⟨_, rfl, _, _, _, [], p0 ++ p1, [], hW', ?_, ?_, rfl, hnx.frame _, fun h => by cases h⟩
  · exact trodAll_mk1 (shut_bool Tryz.underlying4 true)
  · exact trodAll_mk2 (Below.trod Tryz.laidOut (by kernel_rfl) (of_decide_eq_true (by kernel_rfl)) h0k hnx hlt0) (Below.trod Tryz.laidOut (by kernel_rfl) (of_decide_eq_true (by kernel_rfl)) h1k hnx hlt1)

theorem inodesDecodes_holds : Rows.InodesDecodesSaid :=
  OpenClaim.holds_of_wide 4 Tryz.f4 rfl rfl rfl rfl rfl rfl rfl ⟨rfl, rfl, rfl, rfl, rfl⟩ rfl rfl rfl rfl rfl (by kernel_rfl) Tryz.func4 (by kernel_rfl)
    (of_decide_eq_true (by kernel_rfl)) (by unfold Func.isWrapper; first | (rw [if_pos (by decide +kernel)]; kernel_rfl) | (rw [if_neg (by decide +kernel)]; exact ⟨rfl, rfl⟩))
    (fun os started H enc _ => inodesDecodes_lifted os started H enc)

theorem inodesDecodesCard_holds : Rows.InodesDecodesCardSaid :=
  Claim7.holds_tied_plain_at .later [] [.data] true (true, "e8801c0ce7bc0057fd6b75f0dfacb230b8a5f9fbd5fbfd86fb22cd5818a18b38") false
    inodesDecodes_holds (fun _ h => by cases h) (by kernel_rfl) (fun _ h => by cases h) inodesDecodes_row_tie rfl ⟨rfl, rfl⟩ (by kernel_rfl) rfl
    (fun f fn hf hfn => by
      obtain rfl : f = 4 := Option.some.inj ((show Tryz.prog.funcNamed "limewash/limewashlaw11.InodesDecodes" = some 4 by kernel_rfl).symm.trans hf) |>.symm
      obtain rfl : fn = Tryz.f4 := (Option.some.inj (Tryz.func4.symm.trans hfn)).symm
      exact ⟨by kernel_rfl, fun j t ht => by
        rw [Tryz.params4] at ht
        have hm : t ∈ [23, 29] := by simpa using Array.mem_of_getElem? ht
        have hall : ([23, 29].all fun u => !Tryz.prog.wantsStandIn u) = true := by kernel_rfl
        exact (show Tryz.prog.wantsStandIn t = false by simpa using List.all_eq_true.1 hall t hm)⟩)
    (by kernel_rfl)

#print axioms inodesDecodesCard_holds
end Go.Proofs.YtjocnooekgnedaaGreatDoor
