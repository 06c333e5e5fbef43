/- Parts of the proof, put together by program: LU, MB, MA, MC, LS, MD, ME. -/
import Derived.Test.YtjocnooekgnedaaGreatDoorPart50
import Derived.Test.YtjocnooekgnedaaGreatDoorPart34
import Derived.ProofKit
import Derived.OpenShut
import Derived.Test.YtjocnooekgnedaaGreatDoorPart49
import Derived.Test.YtjocnooekgnedaaGreatDoorPart48
import Derived.Test.YtjocnooekgnedaaGreatDoorPart47
import Derived.Test.YtjocnooekgnedaaGreatDoorPart01
import Derived.BigQuiet
import Derived.Test.YtjocnooekgnedaaGreatDoorPart45
import Derived.Test.YtjocnooekgnedaaGreatDoorPart23
import Derived.Deep.CutRange
import Derived.Deep.CutBlock
set_option linter.unusedVariables false
set_option linter.unusedSimpArgs false
/- Layer 11: arguments opened: a layout, an inode, a list of inodes with numbers. -/
namespace Go.Proofs.YtjocnooekgnedaaGreatDoor
open Go.ChangeShapes Go.WideShapes Go.ChangeAt Go.RowKit Go.Deep

theorem Tryz.cellsInt : Tryz.prog.cellsOf 3 = 1 := by kernel_rfl
theorem Tryz.cellsInts : Tryz.prog.cellsOf 24 = 1 := by kernel_rfl
theorem Tryz.cellsU8 : Tryz.prog.cellsOf 5 = 1 := by kernel_rfl
theorem Tryz.cellsLayout : Tryz.prog.cellsOf 23 = 3 := by kernel_rfl
theorem Tryz.cellsNode : Tryz.prog.cellsOf 26 = 8 := by kernel_rfl
theorem Tryz.cellsTwo : Tryz.prog.cellsOf 69 = 9 := by kernel_rfl
theorem wf_u8_iff {f : Int} (h : (Lit.int .u8 f).wf = true) : 0 ≤ f ∧ f ≤ 255 := by
  simp [Lit.wf, IntKind.min, IntKind.max, IntKind.bits, IntKind.signed] at h; omega
theorem wf_u64_iff {f : Int} (h : (Lit.int .u64 f).wf = true) : 0 ≤ f ∧ f < 18446744073709551616 := by
  simp [Lit.wf, IntKind.min, IntKind.max, IntKind.bits, IntKind.signed] at h; omega
theorem wf_i64_iff {f : Int} (h : (Lit.int .i64 f).wf = true) : -9223372036854775808 ≤ f ∧ f ≤ 9223372036854775807 := by
  simp [Lit.wf, IntKind.min, IntKind.max, IntKind.bits, IntKind.signed] at h; omega

/-- An inode as it came in. -/
structure InoV where
  v : Ino
  A : Option Addr
  c : Nat
  A2 : Option Addr
  c2 : Nat
def inoL (a : InoV) : List Value := (inoC a.v (.slice a.A a.v.blocks.length a.c) (.slice a.A2 a.v.attrs.length a.c2)).toList
structure InoVOk (W : World) (a : InoV) : Prop where
  r1 : Reads W a.A (a.v.blocks.map (.int .i64))
  r2 : Reads W a.A2 (a.v.attrs.map (.int .i64))
  n1 : a.v.blocks.length ≤ maxLen
  n2 : a.v.attrs.length ≤ maxLen
theorem InoVOk.in_ {W : World} {a : InoV} (h : InoVOk W a) (h1 : a.v.blocks.length ≤ 1000) (h2 : a.v.attrs.length ≤ 1000) : InoIn W a.v a.A a.c a.A2 a.c2 := ⟨h.r1, h.r2, h1, h2⟩

section
variable {H : Type} {enc : TypeId × Value → H} {W : World}
set_option maxRecDepth 100000 in
theorem open_ints' {fuel : Nat} {v : Value} {x : DataW H × List MemPlace} (h : DataW.trod enc Tryz.prog W 0 (fun _ => true) true fuel 24 [v] = some x) :
    ∃ (A : Option Addr) (n c : Nat) (xs : List Int), v = .slice A n c ∧ xs.length = n ∧ Reads W A (xs.map (Value.int .i64)) ∧ n ≤ c ∧ c ≤ maxLen ∧ (A = none → n = 0 ∧ c = 0) :=
  open_cells (Value.int .i64) Tryz.underlying24 Tryz.cellsInt (fun n cs x hx => by obtain ⟨b, rfl, _⟩ := DataW.trod_int Tryz.underlying3 hx; exact ⟨b, rfl⟩) h

set_option maxRecDepth 100000 in
/-- An inode as its cells. -/
theorem open_ino_cells {fuel : Nat} {cs : List Value} (hsz : cs.length = 8) {x : DataW H × List MemPlace} (h : DataW.trod enc Tryz.prog W 0 (fun _ => true) true fuel 26 cs = some x) :
    ∃ a : InoV, cs = inoL a ∧ InoVOk W a := by
  match cs, hsz with
  | [c0, c1, c2, c3, c4, c5, c6, c7], _ =>
    obtain ⟨xs, n, _, _, _, hlen, hg⟩ := DataW.trod_struct Tryz.underlying26 h
    have g0 : DataW.trod enc Tryz.prog W 0 (fun _ => true) true n 3 [c0] = xs[0]? := by have := hg 0 _ rfl; simpa [Tryz.cellsInt, Value.cells] using this
    have g1 : DataW.trod enc Tryz.prog W 0 (fun _ => true) true n 3 [c1] = xs[1]? := by have := hg 1 _ rfl; simpa [Tryz.cellsInt, Value.cells] using this
    have g2 : DataW.trod enc Tryz.prog W 0 (fun _ => true) true n 3 [c2] = xs[2]? := by have := hg 2 _ rfl; simpa [Tryz.cellsInt, Value.cells] using this
    have g3 : DataW.trod enc Tryz.prog W 0 (fun _ => true) true n 3 [c3] = xs[3]? := by have := hg 3 _ rfl; simpa [Tryz.cellsInt, Value.cells] using this
    have g4 : DataW.trod enc Tryz.prog W 0 (fun _ => true) true n 3 [c4] = xs[4]? := by have := hg 4 _ rfl; simpa [Tryz.cellsInt, Value.cells] using this
    have g5 : DataW.trod enc Tryz.prog W 0 (fun _ => true) true n 3 [c5] = xs[5]? := by have := hg 5 _ rfl; simpa [Tryz.cellsInt, Value.cells] using this
    have g6 : DataW.trod enc Tryz.prog W 0 (fun _ => true) true n 24 [c6] = xs[6]? := by have := hg 6 _ rfl; simpa [Tryz.cellsInts, Value.cells] using this
    have g7 : DataW.trod enc Tryz.prog W 0 (fun _ => true) true n 24 [c7] = xs[7]? := by have := hg 7 _ rfl; simpa [Tryz.cellsInts, Value.cells] using this
    clear hg
    match xs, hlen with
    | [y0, y1, y2, y3, y4, y5, y6, y7], _ =>
      simp only [List.getElem?_cons_zero, List.getElem?_cons_succ] at g0 g1 g2 g3 g4 g5 g6 g7
      obtain ⟨a0, e0, _, w0⟩ := DataW.trod_int Tryz.underlying3 g0
      obtain ⟨a1, e1, _, w1⟩ := DataW.trod_int Tryz.underlying3 g1
      obtain ⟨a2, e2, _, w2⟩ := DataW.trod_int Tryz.underlying3 g2
      obtain ⟨a3, e3, _, w3⟩ := DataW.trod_int Tryz.underlying3 g3
      obtain ⟨a4, e4, _, w4⟩ := DataW.trod_int Tryz.underlying3 g4
      obtain ⟨a5, e5, _, w5⟩ := DataW.trod_int Tryz.underlying3 g5
      simp at e0 e1 e2 e3 e4 e5
      subst e0 e1 e2 e3 e4 e5
      obtain ⟨A, m, c, l, rfl, q1, q2, q3, q4, q5⟩ := open_ints' g6
      obtain ⟨A2, m2, c2, l2, rfl, p1, p2, p3, p4, p5⟩ := open_ints' g7
      subst q1 p1
      exact ⟨⟨⟨a0, a1, a2, a3, a4, a5, l, l2⟩, A, c, A2, c2⟩, rfl, q2, p2, Nat.le_trans q3 q4, Nat.le_trans p3 p4⟩

set_option maxRecDepth 100000 in
/-- An inode that came in. -/
theorem open_ino {r : Reach} {b0 : Nat} {v : Value} {d : DataW H} {p : List MemPlace} (hv : Value.okWide Tryz.prog W r b0 26 v) (h : DataW.Trod enc Tryz.prog W 0 (fun _ => true) true 26 v d p) :
    ∃ a : InoV, v = .agg (inoC a.v (.slice a.A a.v.blocks.length a.c) (.slice a.A2 a.v.attrs.length a.c2)) ∧ InoVOk W a := by
  obtain ⟨cs, rfl, hsz⟩ := okWide_struct Tryz.underlying26 hv
  rw [Tryz.cellsNode] at hsz
  obtain ⟨l0⟩ := cs
  obtain ⟨fuel, hf⟩ := h
  obtain ⟨a, e, ha⟩ := open_ino_cells (cs := l0) hsz (by simpa [Value.cells] using hf)
  exact ⟨a, by rw [e]; rfl, ha⟩

set_option maxRecDepth 100000 in
/-- A layout that came in. -/
theorem open_lay {r : Reach} {b0 : Nat} {v : Value} {d : DataW H} {p : List MemPlace} (hv : Value.okWide Tryz.prog W r b0 23 v) (h : DataW.Trod enc Tryz.prog W 0 (fun _ => true) true 23 v d p) :
    ∃ s j i : Int, v = .agg #[.int .i64 s, .int .i64 j, .int .i64 i] ∧ (-9223372036854775808 ≤ s ∧ s ≤ 9223372036854775807) ∧ (-9223372036854775808 ≤ j ∧ j ≤ 9223372036854775807) ∧ (-9223372036854775808 ≤ i ∧ i ≤ 9223372036854775807) := by
  obtain ⟨cs, rfl, hsz⟩ := okWide_struct Tryz.underlying23 hv
  rw [Tryz.cellsLayout] at hsz
  obtain ⟨l0⟩ := cs
  obtain ⟨fuel, hf⟩ := h
  have hf2 : DataW.trod enc Tryz.prog W 0 (fun _ => true) true fuel 23 l0 = some (d, p) := by simpa [Value.cells] using hf
  match l0, hsz with
  | [c0, c1, c2], _ =>
    obtain ⟨xs, n, _, _, _, hlen, hg⟩ := DataW.trod_struct Tryz.underlying23 hf2
    have g0 : DataW.trod enc Tryz.prog W 0 (fun _ => true) true n 3 [c0] = xs[0]? := by have := hg 0 _ rfl; simpa [Tryz.cellsInt, Value.cells] using this
    have g1 : DataW.trod enc Tryz.prog W 0 (fun _ => true) true n 3 [c1] = xs[1]? := by have := hg 1 _ rfl; simpa [Tryz.cellsInt, Value.cells] using this
    have g2 : DataW.trod enc Tryz.prog W 0 (fun _ => true) true n 3 [c2] = xs[2]? := by have := hg 2 _ rfl; simpa [Tryz.cellsInt, Value.cells] using this
    clear hg
    match xs, hlen with
    | [y0, y1, y2], _ =>
      simp only [List.getElem?_cons_zero, List.getElem?_cons_succ] at g0 g1 g2
      obtain ⟨a0, e0, _, w0⟩ := DataW.trod_int Tryz.underlying3 g0
      obtain ⟨a1, e1, _, w1⟩ := DataW.trod_int Tryz.underlying3 g1
      obtain ⟨a2, e2, _, w2⟩ := DataW.trod_int Tryz.underlying3 g2
      simp at e0 e1 e2
      subst e0 e1 e2
      exact ⟨a0, a1, a2, rfl, wf_i64_iff w0, wf_i64_iff w1, wf_i64_iff w2⟩

/-- An inode with a number. -/
def twoL (a : Int × InoV) : List Value := .int .i64 a.1 :: inoL a.2
set_option maxRecDepth 100000 in
theorem open_two_cells {fuel : Nat} {cs : List Value} (hsz : cs.length = 9) {x : DataW H × List MemPlace} (h : DataW.trod enc Tryz.prog W 0 (fun _ => true) true fuel 69 cs = some x) :
    ∃ a : Int × InoV, cs = twoL a ∧ InoVOk W a.2 := by
  match cs, hsz with
  | [c0, c1, c2, c3, c4, c5, c6, c7, c8], _ =>
    obtain ⟨xs, n, _, _, _, hlen, hg⟩ := DataW.trod_struct Tryz.underlying69 h
    have g0 : DataW.trod enc Tryz.prog W 0 (fun _ => true) true n 3 [c0] = xs[0]? := by have := hg 0 _ rfl; simpa [Tryz.cellsInt, Value.cells] using this
    have g1 : DataW.trod enc Tryz.prog W 0 (fun _ => true) true n 26 [c1, c2, c3, c4, c5, c6, c7, c8] = xs[1]? := by have := hg 1 _ rfl; simpa [Tryz.cellsInt, Tryz.cellsNode, Value.cells] using this
    clear hg
    match xs, hlen with
    | [y0, y1], _ =>
      simp only [List.getElem?_cons_zero, List.getElem?_cons_succ] at g0 g1
      obtain ⟨a0, e0, _, w0⟩ := DataW.trod_int Tryz.underlying3 g0
      simp at e0
      subst e0
      obtain ⟨a, e, ha⟩ := open_ino_cells (by rfl) g1
      exact ⟨(a0, a), by show _ :: _ = _ :: _; rw [e], ha⟩
set_option maxRecDepth 100000 in
theorem open_twos {r : Reach} {b0 : Nat} {v : Value} {d : DataW H} {p : List MemPlace} (hv : Value.okWide Tryz.prog W r b0 67 v) (h : DataW.Trod enc Tryz.prog W 0 (fun _ => true) true 67 v d p) :
    ∃ (A : Option Addr) (c : Nat) (xs : List (Int × InoV)), v = .slice A xs.length c ∧ Reads W A (xs.flatMap twoL) ∧ (∀ a ∈ xs, InoVOk W a.2) ∧ xs.length ≤ maxLen := by
  obtain ⟨a0, l0, c0, rfl⟩ := okWide_slice Tryz.underlying67 hv
  obtain ⟨fuel, hf⟩ := h
  obtain ⟨A, n, c, xs, h1, h2, h3, h4, h5, h6, -⟩ := open_rows twoL (fun a => InoVOk W a.2) 9 (by omega) Tryz.underlying67 Tryz.cellsTwo (fun n cs x hsz hx => open_two_cells hsz hx) (v := .slice a0 l0 c0) (by simpa [Value.cells] using hf)
  subst h2
  exact ⟨A, c, xs, h1, h3, fun a ha => (h4 a ha).2, by omega⟩

end
theorem Tryz.cellsStr : Tryz.prog.cellsOf 9 = 1 := by kernel_rfl
set_option maxRecDepth 100000 in
/-- Bytes that came in. -/
theorem open_bytes11 {H : Type} {enc : TypeId × Value → H} {W : World} {r : Reach} {b0 : Nat} {v : Value} {d : DataW H} {p : List MemPlace} (hv : Value.okWide Tryz.prog W r b0 29 v) (h : DataW.Trod enc Tryz.prog W 0 (fun _ => true) true 29 v d p) :
    ∃ (A : Option Addr) (c : Nat) (xs : List Int), v = .slice A xs.length c ∧ Reads W A (xs.map (.int .u8)) ∧ (∀ x ∈ xs, 0 ≤ x ∧ x < 256) ∧ xs.length ≤ c ∧ c ≤ maxLen := by
  obtain ⟨a0, l0, c0, rfl⟩ := okWide_slice Tryz.underlying29 hv
  obtain ⟨fuel, hf⟩ := h
  obtain ⟨A, n, c, xs, h1, h2, h3, h4, h5, h6, -⟩ := open_rows (fun a : Int => [Value.int .u8 a]) (fun a => 0 ≤ a ∧ a < 256) 1 (by omega) Tryz.underlying29 Tryz.cellsU8 (fun n cs x _ hx => by
    obtain ⟨z, rfl, _, w⟩ := DataW.trod_int Tryz.underlying5 hx
    exact ⟨z, rfl, by have := wf_u8_iff w; omega⟩) (v := .slice a0 l0 c0) (by simpa [Value.cells] using hf)
  subst h2
  have e : xs.flatMap (fun a : Int => [Value.int .u8 a]) = xs.map (.int .u8) := by
    clear h1 h3 h4 h5 h6
    induction xs with
    | nil => rfl
    | cons a t ih => rw [List.flatMap_cons, ih]; rfl
  rw [e] at h3
  exact ⟨A, c, xs, h1, h3, fun a ha => (h4 a ha).2, h5, h6⟩
end Go.Proofs.YtjocnooekgnedaaGreatDoor
/- Layer 11: Put in plain words, for InodesApart. No program in sight. -/
namespace Go.Proofs.YtjocnooekgnedaaGreatDoor
open Go.RowKit Go.Maps

theorem TxS.Clean.iput {y : TxS} (h : y.Clean) (n : Int) (v : Ino) : (y.iput n v).2.Clean := by
  unfold TxS.iput
  split
  · exact h
  · split
    · exact h
    · split
      · exact h
      · exact h.write _ _ _
/-- A transaction in the layout of the examples, and the inodes that it has. -/
structure Apt (y : TxS) (x : DevS) (vs : List Ino) : Prop where
  tab : Tab y x vs
  st : y.stateE = 0
  cl : y.Clean
  lay : y.s = 64 ∧ y.j = 8 ∧ y.i = 10
theorem Apt.len {y : TxS} {x : DevS} {vs : List Ino} (h : Apt y x vs) : vs.length = 10 := by
  have := h.tab.len
  rw [h.lay.2.2] at this
  omega
theorem apt_begin {x : DevS} {N : Nat} (hF : Fresh x 64 8 10 N) : Apt ySm x (List.replicate 10 ino0) :=
  ⟨tab_fresh rgSm hF, rfl, ⟨List.Pairwise.nil, fun _ h => (by cases h), fun _ h => (by cases h), (by decide : (0 : Int) ≤ 8)⟩, rfl, rfl, rfl⟩
theorem apt_put {y : TxS} {x : DevS} {vs : List Ino} (h : Apt y x vs) (ok : y.Ok) {n : Int} {v : Ino} (h0 : (y.iput n v).1 = 0) :
    (1 ≤ n ∧ n ≤ 10) ∧ Apt (y.iput n v).2 x (vs.set (n - 1).toNat v) ∧ (y.iput n v).2.recs.length ≤ y.recs.length + 1 := by
  obtain ⟨hn, ht⟩ := tab_put ok h.st h.tab h0
  obtain ⟨-, -, hp⟩ := iput_good (x := x) ok h.st h0
  have hl := h.len
  refine ⟨by omega, ⟨ht, hp.st, h.cl.iput n v, by rw [hp.same.1]; exact h.lay.1, by rw [hp.same.2.1]; exact h.lay.2.1, by rw [hp.same.2.2]; exact h.lay.2.2⟩, ?_⟩
  rw [recs_length (h.cl.iput n v), recs_length h.cl, hp.ch]
  have := hp.len
  omega
theorem apt_recs {y : TxS} (ok : y.Ok) (hc : y.Clean) : y.recs.length ≤ 100 := by
  rw [recs_length hc]
  have := ok.len
  unfold TxS.left TxS.most at this
  have hb := ok.bds
  split
  · split at this <;> omega
  · split at this <;> omega
theorem ino_small {y : TxS} {x : DevS} {vs : List Ino} (_h : Apt y x vs) (hok : ∀ v ∈ vs, v.blocks.length ≤ 1000 ∧ v.attrs.length ≤ 1000) {n : Int} {v : Ino} (hv : v.blocks.length ≤ 1000 ∧ v.attrs.length ≤ 1000) :
    ∀ u ∈ vs.set (n - 1).toNat v, u.blocks.length ≤ 1000 ∧ u.attrs.length ≤ 1000 := fun u hu => by
  rcases List.mem_or_eq_of_mem_set hu with hu | rfl
  · exact hok u hu
  · exact hv
end Go.Proofs.YtjocnooekgnedaaGreatDoor
/- Layer 11: lists of inodes in memory. -/
namespace Go.Proofs.YtjocnooekgnedaaGreatDoor
open Go.RowKit Go.Maps

/-- Inodes in a slice that a call has made, with their own lists. -/
structure NodesOwn (W : World) (base : Nat) (v : Value) (zs : List InoV) : Prop where
  row : W.ownsRow base 26 8 v zs.length (zs.flatMap inoL)
  r1 : ∀ z ∈ zs, W.ownsRow base 3 1 (.slice z.A z.v.blocks.length z.c) z.v.blocks.length (z.v.blocks.map (.int .i64))
  r2 : ∀ z ∈ zs, W.ownsRow base 3 1 (.slice z.A2 z.v.attrs.length z.c2) z.v.attrs.length (z.v.attrs.map (.int .i64))
theorem NodesOwn.below {W W' : World} {base : Nat} {v : Value} {zs : List InoV} (h : NodesOwn W base v zs) (hb : Below W.heap.size W W') : NodesOwn W' base v zs :=
  ⟨own_below h.row hb, fun z hz => own_below (h.r1 z hz) hb, fun z hz => own_below (h.r2 z hz) hb⟩
theorem NodesOwn.grow {W W' : World} {base : Nat} {v : Value} {zs : List InoV} {F F' : List Nat} (h : NodesOwn W base v zs) (g : Grow W F W' F') (hF : ∀ b ∈ F, b < base) : NodesOwn W' base v zs := by
  have hk : ∀ {e : TypeId} {size : Nat} {u : Value} {n : Nat} {xs : List Value}, W.ownsRow base e size u n xs → W'.ownsRow base e size u n xs := fun ho =>
    own_block ho fun q hq => g.keep.block q (own_lt ho q hq).2 (fun hm => by have := hF q hm; have := (own_lt ho q hq).1; omega)
  exact ⟨hk h.row, fun z hz => hk (h.r1 z hz), fun z hz => hk (h.r2 z hz)⟩
theorem NodesOwn.in_ {W : World} {base : Nat} {v : Value} {zs : List InoV} (h : NodesOwn W base v zs) {z : InoV} (hz : z ∈ zs) (h1 : z.v.blocks.length ≤ 1000 ∧ z.v.attrs.length ≤ 1000) : InoIn W z.v z.A z.c z.A2 z.c2 :=
  ⟨Reads.of_own (h.r1 z hz), Reads.of_own (h.r2 z hz), h1.1, h1.2⟩
/-- A row of inodes, one of which is written anew. -/
theorem rows_set {α : Type} {f : α → List Value} {m : Nat} : ∀ (l : List α) (_ : ∀ s ∈ l, (f s).length = m) (a : α) (_ : (f a).length = m) (k : Nat) (_ : k < l.length),
    (l.flatMap f).take (k * m) ++ f a ++ (l.flatMap f).drop (k * m + m) = (l.set k a).flatMap f
  | [], _, _, _, k, hk => absurd hk (by simp)
  | x :: t, h, a, ha, 0, _ => by
    have hx := h x (by simp)
    rw [Nat.zero_mul, List.take_zero, List.nil_append, Nat.zero_add, List.flatMap_cons, List.drop_left' hx]
    rfl
  | x :: t, h, a, ha, k + 1, hk => by
    have hx := h x (by simp)
    have ih := rows_set t (fun s hs => h s (by simp [hs])) a ha k (by simpa using hk)
    rw [List.flatMap_cons, show (k + 1) * m = m + k * m by rw [Nat.add_mul, Nat.one_mul, Nat.add_comm], List.take_append, List.take_of_length_le (by omega), hx, show m + k * m - m = k * m by omega,
      List.drop_append, List.drop_of_length_le (by omega), List.nil_append, hx, show m + k * m + m - m = k * m + m by omega, List.append_assoc, List.append_assoc, ← List.append_assoc (List.take _ _), ih]
    rfl
theorem rows_len {α : Type} {f : α → List Value} {m : Nat} : ∀ (l : List α) (_ : ∀ s ∈ l, (f s).length = m), (l.flatMap f).length = l.length * m
  | [], _ => by simp
  | x :: t, h => by rw [List.flatMap_cons, List.length_append, h x (by simp), rows_len t (fun s hs => h s (by simp [hs])), List.length_cons, Nat.add_mul, Nat.one_mul, Nat.add_comm]
theorem inoL_len (a : InoV) : (inoL a).length = 8 := rfl
/-- What a store of one inode leaves. -/
theorem NodesOwn.store {W : World} {base n c : Nat} {A : Option Addr} {zs : List InoV} (h : NodesOwn W base (.slice A n c) zs) {k : Nat} (hk : k < zs.length) (a : InoV) :
    ∃ (g : Nat) (cur : Array Value), A = some ⟨g, 0, none⟩ ∧ base ≤ g ∧ Blk W g 26 cur ∧ k * 8 + 8 ≤ cur.size ∧
      (∀ cs : Array Value, cs = (cur.toList.take (k * 8) ++ inoL a ++ cur.toList.drop (k * 8 + 8)).toArray → (W.setRow g cs).ownsRow base 26 8 (.slice A n c) zs.length ((zs.set k a).flatMap inoL) ∧
        ∀ z ∈ zs, (W.setRow g cs).ownsRow base 3 1 (.slice z.A z.v.blocks.length z.c) z.v.blocks.length (z.v.blocks.map (.int .i64)) ∧ (W.setRow g cs).ownsRow base 3 1 (.slice z.A2 z.v.attrs.length z.c2) z.v.attrs.length (z.v.attrs.map (.int .i64))) := by
  obtain ⟨hl, ⟨h1, h2⟩ | ⟨g, cap, cur, hv, hg, hgb, hn, hm, hcs, htk⟩⟩ := h.row
  · omega
  · injection hv with e1 e2 e3
    subst e1 e3
    have hlen : zs.length * 8 ≤ cur.size := by rw [hcs]; exact Nat.mul_le_mul_right _ hn
    have hk8 : k * 8 + 8 ≤ zs.length * 8 := by omega
    have hct : cur.toList.length = cur.size := Array.length_toList
    have hblk : Blk W g 26 cur := hgb
    refine ⟨g, cur, rfl, hg, hblk, by omega, fun cs hcs' => ?_⟩
    have hne : ∀ {u : Value} {m : Nat} {xs : List Value}, W.ownsRow base 3 1 u m xs → (W.setRow g cs).ownsRow base 3 1 u m xs := fun ho => own_block ho fun q hq => setRow_other _ _ _ _ (fun e => by
      subst e
      rcases ho.2 with ⟨rfl, _⟩ | ⟨g', cap', cur', rfl, _, hgb', _⟩
      · cases hq
      · have e' : g' = q := by simpa [Value.ownBlock] using hq
        subst e'
        rw [hgb] at hgb'
        simp at hgb')
    refine ⟨⟨?_, .inr ⟨g, c, cs, by rw [e2], hg, ?_, hn, hm, ?_, ?_⟩⟩, fun z hz => ⟨hne (h.r1 z hz), hne (h.r2 z hz)⟩⟩
    · rw [rows_len _ (fun s _ => inoL_len s), List.length_set]
    · exact hblk.setRow
    · rw [hcs', List.size_toArray, List.length_append, List.length_append, List.length_take, List.length_drop, inoL_len, hct]
      omega
    · rw [hcs']
      show List.take _ (cur.toList.take (k * 8) ++ inoL a ++ cur.toList.drop (k * 8 + 8)) = _
      rw [← rows_set zs (fun s _ => inoL_len s) a (inoL_len a) k hk, ← htk, List.take_append, List.length_append, List.length_take, inoL_len, hct]
      rw [List.take_of_length_le (by rw [List.length_append, List.length_take, inoL_len, hct]; omega), List.take_take, List.drop_take]
      congr 3
      all_goals omega
theorem Reads.of_own8 {w : World} {base : Nat} {e : TypeId} {A : Option Addr} {n c : Nat} {xs : List Value} (h : w.ownsRow base e 8 (.slice A n c) n xs) : Reads w A xs := by
  obtain ⟨h1, h2⟩ := h
  rcases h2 with ⟨_, h2⟩ | ⟨g, cap, cur, hv, hg, hh, h3, h4, h5, h6⟩
  · left; subst h2; simpa using h1
  · right
    simp only [Value.slice.injEq] at hv
    refine ⟨g, 0, hv.1, ?_, fun j u hu => ?_⟩
    · exact (Array.getElem?_eq_some_iff.1 hh).1
    · rw [cell_of_row w g (0 + j) cur e (0, 0) hh]
      rw [← h6, List.getElem?_take] at hu
      split at hu
      · simpa using hu
      · simp at hu
/-- The cells of one of them. -/
theorem inos_at {w : World} {A : Option Addr} {xs : List InoV} (h : Reads w A (xs.flatMap inoL)) {k : Nat} (hk : k < xs.length) :
    ∃ b off, A = some ⟨b, off, none⟩ ∧ b < w.heap.size ∧ ∀ j u, (inoL xs[k])[j]? = some u → w.cell? ⟨b, off + k * 8 + j, none⟩ = some u := by
  have hg : ∀ j, j < 8 → (xs.flatMap inoL)[k * 8 + j]? = (inoL xs[k])[j]? := fun j hj => flat_get (f := inoL) (m := 8) (fun _ _ => rfl) hj hk
  rcases h with h | ⟨b, off, hA, hlt, hc⟩
  · exfalso
    have := hg 0 (by omega)
    rw [h] at this
    simp [inoL] at this
  · refine ⟨b, off, hA, hlt, fun j u hu => ?_⟩
    have hj : j < 8 := by have := (List.getElem?_eq_some_iff.1 hu).1; simpa [inoL_len] using this
    rw [Nat.add_assoc]; exact hc _ _ ((hg j hj).trans hu)
/-- The same of inodes with a number. -/
theorem twos_at {w : World} {A : Option Addr} {xs : List (Int × InoV)} (h : Reads w A (xs.flatMap twoL)) {k : Nat} (hk : k < xs.length) :
    ∃ b off, A = some ⟨b, off, none⟩ ∧ b < w.heap.size ∧ w.cell? ⟨b, off + k * 9, none⟩ = some (.int .i64 xs[k].1) ∧ ∀ j u, (inoL xs[k].2)[j]? = some u → w.cell? ⟨b, off + k * 9 + (1 + j), none⟩ = some u := by
  have hg : ∀ j, j < 9 → (xs.flatMap twoL)[k * 9 + j]? = (twoL xs[k])[j]? := fun j hj => flat_get (f := twoL) (m := 9) (fun _ _ => rfl) hj hk
  rcases h with h | ⟨b, off, hA, hlt, hc⟩
  · exfalso
    have := hg 0 (by omega)
    rw [h] at this
    simp [twoL] at this
  · refine ⟨b, off, hA, hlt, hc _ _ ((hg 0 (by omega)).trans rfl), fun j u hu => ?_⟩
    have hj : j < 8 := by have := (List.getElem?_eq_some_iff.1 hu).1; simpa [inoL_len] using this
    rw [Nat.add_assoc]
    refine hc _ _ ((hg (1 + j) (by omega)).trans ?_)
    rw [Nat.add_comm 1 j]
    exact hu
/-- What All answers, as such a list. -/
theorem all_nodes {y : TxS} {x : DevS} {vs : List Ino} {w w' : World} {e : Ending} (ht : Tab y x vs) (h : AllPost y x y.i.toNat w e w') :
    ∃ A c zs, e = .returned (.tuple #[.slice A (zs : List InoV).length c, .int .i64 0]) ∧ zs.map (·.v) = vs ∧ NodesOwn w' w.heap.size (.slice A zs.length c) zs ∧ Below w.heap.size w w' := by
  obtain ⟨v, zs, rfl, hl, hk, ho, hr, -, hb⟩ := h
  obtain ⟨A, c, rfl⟩ := own_slice ho
  have hlen := ht.len
  have hz : ∀ i, i < zs.length → ∃ a : InoV, ∀ hi : i < zs.length, a.v = vs.getD i ino0 ∧ inoL a = nodeL y x zs[i] ∧ w'.ownsRow w.heap.size 3 1 (.slice a.A a.v.blocks.length a.c) a.v.blocks.length (a.v.blocks.map (.int .i64)) ∧
      w'.ownsRow w.heap.size 3 1 (.slice a.A2 a.v.attrs.length a.c2) a.v.attrs.length (a.v.attrs.map (.int .i64)) := fun i hi => by
    have hzr := hr zs[i] (List.getElem_mem hi)
    have hzk := hk i hi
    have hg := ht.get i (by omega)
    have hzn : nodeL y x zs[i] = (inoC (vs.getD i ino0) zs[i].bv zs[i].av).toList := by unfold nodeL; rw [hzk, hg]
    unfold ZRows at hzr
    rw [hzk, hg] at hzr
    obtain ⟨Ab, cb, eb⟩ := own_slice hzr.1
    obtain ⟨Aa, ca, ea⟩ := own_slice hzr.2
    exact ⟨⟨vs.getD i ino0, Ab, cb, Aa, ca⟩, fun _ => ⟨rfl, by rw [hzn, eb, ea]; rfl, eb ▸ hzr.1, ea ▸ hzr.2⟩⟩
  obtain ⟨zs', hl', hz'⟩ := list_of (fun i a => ∀ hi : i < zs.length, a.v = vs.getD i ino0 ∧ inoL a = nodeL y x zs[i] ∧ w'.ownsRow w.heap.size 3 1 (.slice a.A a.v.blocks.length a.c) a.v.blocks.length (a.v.blocks.map (.int .i64)) ∧
      w'.ownsRow w.heap.size 3 1 (.slice a.A2 a.v.attrs.length a.c2) a.v.attrs.length (a.v.attrs.map (.int .i64))) zs.length hz
  have hmem : ∀ z ∈ zs', ∃ i, ∃ (hi : i < zs'.length), z = zs'[i] := fun z hz => by
    obtain ⟨i, hi, e⟩ := List.mem_iff_getElem.1 hz
    exact ⟨i, hi, e.symm⟩
  refine ⟨A, c, zs', by rw [hl'], List.ext_getElem (by rw [List.length_map]; omega) fun i h1 h2 => ?_, ⟨?_, fun z hz => ?_, fun z hz => ?_⟩, hb⟩
  · rw [List.length_map] at h1
    rw [List.getElem_map, (hz' i h1 (by omega)).1, List.getD_eq_getElem?_getD, List.getElem?_eq_getElem h2]
    rfl
  · rw [hl']
    have e : zs'.flatMap inoL = zs.flatMap (nodeL y x) := by
      rw [List.flatMap_def, List.flatMap_def]
      congr 1
      refine List.ext_getElem (by rw [List.length_map, List.length_map]; omega) fun i h1 h2 => ?_
      rw [List.length_map] at h1 h2
      rw [List.getElem_map, List.getElem_map]
      exact (hz' i h1 h2).2.1
    rw [e]
    exact ho
  · obtain ⟨i, hi, rfl⟩ := hmem z hz
    exact (hz' i hi (by omega)).2.2.1
  · obtain ⟨i, hi, rfl⟩ := hmem z hz
    exact (hz' i hi (by omega)).2.2.2
end Go.Proofs.YtjocnooekgnedaaGreatDoor
/- Layer 11: limewashref11.SameAll. -/
namespace Go.Proofs.YtjocnooekgnedaaGreatDoor
open Go.RowKit Go.Maps

attribute [local go_sem] Oper.semAt_some

instance : DecidableEq Ino := fun v u => decidable_of_iff (sameIno v u = true) (sameIno_iff v u)
theorem inos_cells {w : World} {g o : Nat} {xs : List InoV} (h : Reads w (some ⟨g, o, none⟩) (xs.flatMap inoL)) {k : Nat} (hk : k < xs.length) : ∀ V, Below w.heap.size w V → V.cell? ⟨g, o + k * 8, none⟩ = some (.int .i64 xs[k].v.kind) ∧ V.cell? ⟨g, o + k * 8 + 1, none⟩ = some (.int .i64 xs[k].v.links) ∧ V.cell? ⟨g, o + k * 8 + 2, none⟩ = some (.int .i64 xs[k].v.size) ∧ V.cell? ⟨g, o + k * 8 + 3, none⟩ = some (.int .i64 xs[k].v.major) ∧ V.cell? ⟨g, o + k * 8 + 4, none⟩ = some (.int .i64 xs[k].v.minor) ∧ V.cell? ⟨g, o + k * 8 + 5, none⟩ = some (.int .i64 xs[k].v.parent) ∧ V.cell? ⟨g, o + k * 8 + 6, none⟩ = some (.slice xs[k].A xs[k].v.blocks.length xs[k].c) ∧ V.cell? ⟨g, o + k * 8 + 7, none⟩ = some (.slice xs[k].A2 xs[k].v.attrs.length xs[k].c2) := by
  intro V hV
  obtain ⟨b, off, e, -, hc⟩ := inos_at (h.below hV) hk
  cases e
  exact ⟨hc 0 _ rfl, hc 1 _ rfl, hc 2 _ rfl, hc 3 _ rfl, hc 4 _ rfl, hc 5 _ rfl, hc 6 _ rfl, hc 7 _ rfl⟩
set_option maxRecDepth 100000 in
set_option maxHeartbeats 4000000 in
theorem sameall_any (xs ys : List InoV) (n : Nat) (A B : Option Addr) (c d : Nat) (w : World) (hx : xs.length = n) (hy : ys.length = n) (hn : n ≤ 1000) (hA : Reads w A (xs.flatMap inoL)) (hB : Reads w B (ys.flatMap inoL))
    (ha : ∀ z ∈ xs, InoIn w z.v z.A z.c z.A2 z.c2) (hb : ∀ z ∈ ys, InoIn w z.v z.A z.c z.A2 z.c2) :
    Calls Tryz.prog 28 #[.slice A n c, .slice B n d] w fun e w' => e = .returned (.bool (decide (xs.map (·.v) = ys.map (·.v)))) ∧ Below w.heap.size w w' := by
  have HA := Lib.hid hA
  have HB := Lib.hid hB
  have HI := Lib.hid (And.intro ha hb)
  have HL := Lib.hid (And.intro hx hy)
  have hd : ((n : Int) == (n : Int)) = true := by simp
  clear hA hB ha hb hx hy
  go_enter Tryz.func28, Tryz.ntmps28
  go_wp2_with fail
  go_loopw [5] (fun q wr => ∃ k : Nat, k ≤ n ∧ q = .int .i64 k ∧ (xs.take k).map (·.v) = (ys.take k).map (·.v) ∧ Below w.heap.size w wr) (fun q _ => n - (RowKit.intOf q).toNat)
  case atStart => exact ⟨0, Nat.zero_le _, rfl, rfl, Below.refl _ _⟩
  case round =>
    obtain ⟨k, hk, rfl, heq, hnx⟩ := hrel
    have HEQ := Lib.hid heq
    clear heq
    by_cases hlt : k < n
    · have d1 : (k : Int) < n := by omega
      have hkx : k < xs.length := by rw [HL.out.1]; exact hlt
      have hky : k < ys.length := by rw [HL.out.2]; exact hlt
      obtain ⟨g, o, rfl, -, -⟩ := inos_at HA.out hkx
      obtain ⟨g2, o2, rfl, -, -⟩ := inos_at HB.out hky
      have hca := inos_cells HA.out hkx
      have hcb := inos_cells HB.out hky
      have hia := HI.out.1 _ (List.getElem_mem hkx)
      have hib := HI.out.2 _ (List.getElem_mem hky)
      have hs1 := Lib.hid (List.take_succ_eq_append_getElem hkx)
      have hs2 := Lib.hid (List.take_succ_eq_append_getElem hky)
      have hne : xs[k].v ≠ ys[k].v → xs.map (·.v) ≠ ys.map (·.v) := fun h e => h (by
        have h1 : (xs.map (·.v))[k]? = (ys.map (·.v))[k]? := by rw [e]
        rw [List.getElem?_map, List.getElem?_map, List.getElem?_eq_getElem hkx, List.getElem?_eq_getElem hky] at h1
        simpa using h1)
      have HNE := Lib.hid hne
      clear hne
      generalize xs[k] = a at hca hia hs1 HNE
      generalize ys[k] = b at hcb hib hs2 HNE
      have hsc : ∀ V, Below w.heap.size w V → (fun W => W.cell? ⟨g, o + k * 8, none⟩ = some (.int .i64 a.v.kind) ∧ W.cell? ⟨g, o + k * 8 + 1, none⟩ = some (.int .i64 a.v.links) ∧ W.cell? ⟨g, o + k * 8 + 2, none⟩ = some (.int .i64 a.v.size) ∧ W.cell? ⟨g, o + k * 8 + 3, none⟩ = some (.int .i64 a.v.major) ∧ W.cell? ⟨g, o + k * 8 + 4, none⟩ = some (.int .i64 a.v.minor) ∧ W.cell? ⟨g, o + k * 8 + 5, none⟩ = some (.int .i64 a.v.parent) ∧ W.cell? ⟨g, o + k * 8 + 6, none⟩ = some (.slice a.A a.v.blocks.length a.c) ∧ W.cell? ⟨g, o + k * 8 + 7, none⟩ = some (.slice a.A2 a.v.attrs.length a.c2) ∧ W.cell? ⟨g2, o2 + k * 8, none⟩ = some (.int .i64 b.v.kind) ∧ W.cell? ⟨g2, o2 + k * 8 + 1, none⟩ = some (.int .i64 b.v.links) ∧ W.cell? ⟨g2, o2 + k * 8 + 2, none⟩ = some (.int .i64 b.v.size) ∧ W.cell? ⟨g2, o2 + k * 8 + 3, none⟩ = some (.int .i64 b.v.major) ∧ W.cell? ⟨g2, o2 + k * 8 + 4, none⟩ = some (.int .i64 b.v.minor) ∧ W.cell? ⟨g2, o2 + k * 8 + 5, none⟩ = some (.int .i64 b.v.parent) ∧ W.cell? ⟨g2, o2 + k * 8 + 6, none⟩ = some (.slice b.A b.v.blocks.length b.c) ∧ W.cell? ⟨g2, o2 + k * 8 + 7, none⟩ = some (.slice b.A2 b.v.attrs.length b.c2)) V := fun V hV => by
        obtain ⟨p0, p1, p2, p3, p4, p5, p6, p7⟩ := hca V hV
        obtain ⟨q0, q1, q2, q3, q4, q5, q6, q7⟩ := hcb V hV
        exact ⟨p0, p1, p2, p3, p4, p5, p6, p7, q0, q1, q2, q3, q4, q5, q6, q7⟩
      have HSC := Lib.hid hsc
      have hsame := fun V (hV : Below w.heap.size w V) => same_ino a.v b.v a.A a.c a.A2 a.c2 b.A b.c b.A2 b.c2 V (hia.below hV) (hib.below hV) hia.n1 hia.n2 hib.n1 hib.n2
      have HSA := Lib.hid hsame
      have HNX := Lib.hid hnx
      clear hca hcb hia hib hsc hsame hkx hky hk
      go_upto_region 4 with fail
      refine wp_region_mix [.take 0, .take 1, .take 2, .take 3, .take 4, .take 5, .take 6, .take 7, .one 8, .take 9] 10 (fun W => W.cell? ⟨g, o + k * 8, none⟩ = some (.int .i64 a.v.kind) ∧ W.cell? ⟨g, o + k * 8 + 1, none⟩ = some (.int .i64 a.v.links) ∧ W.cell? ⟨g, o + k * 8 + 2, none⟩ = some (.int .i64 a.v.size) ∧ W.cell? ⟨g, o + k * 8 + 3, none⟩ = some (.int .i64 a.v.major) ∧ W.cell? ⟨g, o + k * 8 + 4, none⟩ = some (.int .i64 a.v.minor) ∧ W.cell? ⟨g, o + k * 8 + 5, none⟩ = some (.int .i64 a.v.parent) ∧ W.cell? ⟨g, o + k * 8 + 6, none⟩ = some (.slice a.A a.v.blocks.length a.c) ∧ W.cell? ⟨g, o + k * 8 + 7, none⟩ = some (.slice a.A2 a.v.attrs.length a.c2) ∧ W.cell? ⟨g2, o2 + k * 8, none⟩ = some (.int .i64 b.v.kind) ∧ W.cell? ⟨g2, o2 + k * 8 + 1, none⟩ = some (.int .i64 b.v.links) ∧ W.cell? ⟨g2, o2 + k * 8 + 2, none⟩ = some (.int .i64 b.v.size) ∧ W.cell? ⟨g2, o2 + k * 8 + 3, none⟩ = some (.int .i64 b.v.major) ∧ W.cell? ⟨g2, o2 + k * 8 + 4, none⟩ = some (.int .i64 b.v.minor) ∧ W.cell? ⟨g2, o2 + k * 8 + 5, none⟩ = some (.int .i64 b.v.parent) ∧ W.cell? ⟨g2, o2 + k * 8 + 6, none⟩ = some (.slice b.A b.v.blocks.length b.c) ∧ W.cell? ⟨g2, o2 + k * 8 + 7, none⟩ = some (.slice b.A2 b.v.attrs.length b.c2)) (by kernel_rfl) (by kernel_rfl) (fun _ _ _ _ _ h => h) (HSC.out _ hnx.drew) ?_
      simp only [List.map_cons, List.map_nil, Ms.fill, List.getD_cons_zero, List.getD_cons_succ]
      iterate 8 (refine mixT_take (by rfl) ?_ (fun w' hw' => ?_) ?_; rotate_left; (focus (go_simp; (try with_reducible rfl))); (try simp only [Act.put, List.setIfInBounds_toArray, List.set_cons_zero, List.set_cons_succ]))
      refine mixT_step (by rfl) fun K hK => ?_
      go_simp
      refine (HSA.out wr.drew hnx.drew).mono ?_
      rintro e w1 ⟨rfl, hb1⟩
      have B1 : Below w.heap.size w w1 := hnx.drew.trans (hb1.mono hnx.drew.size)
      refine hK _ _ (fun _ => HSC.out _ B1) ?_
      clear hK K
      (refine mixT_take (by rfl) ?_ (fun w' hw' => ?_) ?_; rotate_left; (focus (go_simp; (try with_reducible rfl))); (try simp only [Act.put, List.setIfInBounds_toArray, List.set_cons_zero, List.set_cons_succ]))
      refine mixT_nil ?_
      by_cases he : a.v = b.v
      · have hsv : sameIno a.v b.v = true := (sameIno_iff _ _).2 he
        have HE := Lib.hid he
        rw [hsv]
        clear he hsv
        go_wp2_with fail
        go_roundw
        case rel => exact ⟨k + 1, by omega, by go_num, by simp only [hs1.out, hs2.out, List.map_append, HEQ.out, List.map_cons, HE.out, List.map_nil], B1⟩
        case measure => simp [RowKit.intOf]; omega
      · have hsv : sameIno a.v b.v = false := by
          cases h : sameIno a.v b.v
          · rfl
          · exact absurd ((sameIno_iff _ _).1 h) he
        have HN := Lib.hid (HNE.out he)
        rw [hsv]
        clear he hsv
        go_wp2_with fail
        go_ret
        exact ⟨bret (by simp [HN.out]), B1⟩
    · obtain rfl : k = n := by omega
      have hfin : xs.map (·.v) = ys.map (·.v) := by
        have h1 := HEQ.out
        rwa [List.take_of_length_le (by rw [HL.out.1]; exact Nat.le_refl _), List.take_of_length_le (by rw [HL.out.2]; exact Nat.le_refl _)] at h1
      have HF := Lib.hid hfin
      clear hfin
      go_wp2_with fail
      go_ret
      exact ⟨bret (by simp [HF.out]), hnx⟩
end Go.Proofs.YtjocnooekgnedaaGreatDoor
/- P11: InodesNone, walked. -/
namespace Go.Proofs.YtjocnooekgnedaaGreatDoor
open Go.RowKit Go.Maps

attribute [local go_sem] Oper.semAt_some

abbrev tx0 : Array Value := #[.pointer none, .int .i64 0, .int .i64 0, .int .i64 0, .int .i64 0, .int .i64 0, .int .i64 0, .int .i64 0, .int .i64 0, .int .i64 0, .int .i64 0, .int .i64 0, .slice none 0 0, .int .i64 0, .int .i64 0, .int .i64 0, .slice none 0 0, .map none, .bool false, .bool false, .bool false]

set_option maxRecDepth 100000 in
theorem wide_any (v : Ino) (A : Option Addr) (n c : Nat) (A2 : Option Addr) (n2 c2 : Nat) (w : World) :
    Calls Tryz.prog 10 #[.agg (inoC v (.slice A n c) (.slice A2 n2 c2))] w fun e w' => e = .returned (.bool (decide (100 < n) || decide (100 < n2))) ∧ Below w.heap.size w w' := by
  obtain ⟨wA, hA⟩ : ∃ wA, wA = w.alloc (.cells (inoC v (.slice A n c) (.slice A2 n2 c2)) 26) := ⟨_, rfl⟩
  have bV : Blk wA w.heap.size 26 (inoC v (.slice A n c) (.slice A2 n2 c2)) := by rw [hA]; exact Blk.new _ _ _
  have BA : Below w.heap.size w wA := by rw [hA]; exact (Below.refl _ _).alloc (Nat.le_refl _) _
  have c6 : wA.cell? ⟨w.heap.size, 6, none⟩ = some (.slice A n c) := (bV.cells 6).trans rfl
  have c7 : wA.cell? ⟨w.heap.size, 7, none⟩ = some (.slice A2 n2 c2) := (bV.cells 7).trans rfl
  have lV := bV.lt
  by_cases h1 : 100 < n
  · have d1 : (100 : Int) < n := by omega
    have e1 : (decide (100 < n) || decide (100 < n2)) = true := by simp [h1]
    rw [e1]
    clear h1 e1
    go_enter Tryz.func10, Tryz.ntmps10
    go_wp2_with fail
    rw [← hA]
    clear hA
    go_wp2_with fail
    go_ret
    exact ⟨rfl, BA⟩
  · by_cases h2 : 100 < n2
    · have d1 : ¬ (100 : Int) < n := by omega
      have d2 : (100 : Int) < n2 := by omega
      have e1 : (decide (100 < n) || decide (100 < n2)) = true := by simp [h2]
      rw [e1]
      clear h1 h2 e1
      go_enter Tryz.func10, Tryz.ntmps10
      go_wp2_with fail
      rw [← hA]
      clear hA
      go_wp2_with fail
      go_ret
      exact ⟨rfl, BA⟩
    · have d1 : ¬ (100 : Int) < n := by omega
      have d2 : ¬ (100 : Int) < n2 := by omega
      have e1 : (decide (100 < n) || decide (100 < n2)) = false := by simp [h1, h2]
      rw [e1]
      clear h1 h2 e1
      go_enter Tryz.func10, Tryz.ntmps10
      go_wp2_with fail
      rw [← hA]
      clear hA
      go_wp2_with fail
      go_ret
      exact ⟨rfl, BA⟩

set_option maxRecDepth 100000 in
set_option maxHeartbeats 4000000 in
theorem inodesNone_any (n : Int) (v : Ino) (A : Option Addr) (c : Nat) (A2 : Option Addr) (c2 : Nat) (w : World) (hH : HalfAt w) :
    Calls Tryz.prog 8 #[.int .i64 n, .agg (inoC v (.slice A v.blocks.length c) (.slice A2 v.attrs.length c2))] w fun e w' => e = .returned (.bool true) ∧ Below w.heap.size w w' := by
  have hp0 := hH.1
  have HH := Lib.hid hH
  obtain ⟨wA, hA⟩ : ∃ wA, wA = w.alloc (.cells (inoC v (.slice A v.blocks.length c) (.slice A2 v.attrs.length c2)) 26) := ⟨_, rfl⟩
  have bA : Blk wA w.heap.size 26 (inoC v (.slice A v.blocks.length c) (.slice A2 v.attrs.length c2)) := by rw [hA]; exact Blk.new _ _ _
  have BA : Below w.heap.size w wA := by rw [hA]; exact (Below.refl _ _).alloc (Nat.le_refl _) _
  have hwd := wide_any v A v.blocks.length c A2 v.attrs.length c2 wA
  have cA := bA.cells
  have lA := bA.lt
  clear hH
  go_enter Tryz.func8, Tryz.ntmps8
  go_wp2_with fail
  rw [← hA]
  clear hA
  go_wp2_with fail
  refine hwd.mono ?_
  rintro e w1 ⟨rfl, hb1⟩
  have b1 := bA.belowAll hb1
  have B1 := BA.trans (hb1.mono BA.size)
  clear hwd cA lA bA BA hb1
  generalize (decide (100 < v.blocks.length) || decide (100 < v.attrs.length)) = wd
  cases wd
  rotate_left
  · have hs := shown11_any w1 (HH.out.below B1 hp0)
    go_wp2_with fail
    refine hs.mono ?_
    rintro e w2 ⟨rfl, hb2⟩
    go_wp2_with fail
    go_ret
    exact ⟨rfl, B1.trans (hb2.mono B1.size)⟩
  have hsm := small11_any w1
  go_wp2_with fail
  refine hsm.mono ?_
  rintro e w2 ⟨rfl, hb2⟩
  have B2 := B1.trans (hb2.mono B1.size)
  have b2 := b1.belowAll hb2
  have hbg := begun11_fresh 64 8 10 rgSm w2 (HH.out.below B2 hp0)
  clear hsm hb2 b1 B1
  go_wp2_with fail
  refine hbg.mono ?_
  rintro e w3 ⟨D, T, F, Bd, y, rfl, -, htd, hb3, hFl, -⟩
  have B3 := B2.trans (hb3.mono B2.size)
  have b3 := b2.belowAll hb3
  have hT : T ∈ F := by obtain ⟨M, wv, nv, bT, hT, -⟩ := htd.tx.mem; exact hT
  have hT2 := hFl T hT
  have hst : StE (w3.setCell ⟨T, 20, none⟩ (.bool true)) (.pointer (some ⟨T, 0, none⟩)) 9 := htd.tx.ended.st
  have l2 := b2.lt
  have b4 : Blk (w3.setCell ⟨T, 20, none⟩ (.bool true)) w.heap.size 26 (inoC v (.slice A v.blocks.length c) (.slice A2 v.attrs.length c2)) := b3.far (p := ⟨T, 20, none⟩) (by show w.heap.size ≠ T; omega) _
  have B4 : Below w.heap.size w (w3.setCell ⟨T, 20, none⟩ (.bool true)) := B3.setCell (p := ⟨T, 20, none⟩) (by show w.heap.size ≤ T; have := B2.size; omega) _
  have hab := abort_tx T F D (freeTx 64 8 10) w3 htd.tx rfl
  clear hbg htd hb3 hFl b3 B3 b2 B2 hT hT2 l2
  go_wp2_with fail
  refine hab.mono ?_
  rintro e w4 ⟨rfl, hw4⟩
  rw [← hw4] at hst b4 B4
  clear hab hw4
  go_wp2_with fail
  go_loopw [8] (fun q wr => ∃ k : Nat, k ≤ 3 ∧ q = .int .i64 k ∧ Below w.heap.size w wr ∧ Blk wr w.heap.size 26 (inoC v (.slice A v.blocks.length c) (.slice A2 v.attrs.length c2)) ∧ StE wr (.pointer (some ⟨T, 0, none⟩)) 9) (fun q _ => 3 - (RowKit.intOf q).toNat)
  case atStart => exact ⟨0, by omega, rfl, B4, b4, hst⟩
  case round =>
    obtain ⟨k, hk, rfl, hB, hb, hs⟩ := hrel
    clear hst b4 B4
    by_cases hlt : k < 3
    · have d0 : (k : Int) < 3 := by omega
      go_upto_if 39 with fail
      go_cut [9, 10] from 33 to 81 (fun s9 s10 wx => wx = wr ∧ ∃ (tv : Value) (E : Int), tv = s9 ∧ s10 = .int .i64 E ∧ E ≠ 0 ∧ StE wr tv E)
      case first =>
        by_cases h0 : k = 0
        · have d1 : ((k : Int) == 0) = true := by simp; omega
          go_wp2_with fail
          go_meet
          case rel => exact ⟨rfl, _, _, rfl, rfl, by decide, .inl ⟨rfl, rfl⟩⟩
        · have d1 : ((k : Int) == 0) = false := by simp; omega
          go_wp2_with fail
          go_meet
          case rel => exact ⟨rfl, _, _, rfl, rfl, by decide, hs⟩
      case rest =>
        obtain ⟨hwx, tv, E, rfl, rfl, hE, hst⟩ := hcut
        replace hwx := hwx.symm
        subst hwx
        go_upto_if 41 with fail
        go_cut [9, 10] from 33 to 81 (fun s9 s10 wx => ∃ (tv : Value) (E : Int), tv = s9 ∧ s10 = .int .i64 E ∧ E ≠ 0 ∧ StE wx tv E ∧ Below wr.heap.size wr wx)
        case first =>
          by_cases h0 : k = 1
          · have d1 : ((k : Int) == 1) = true := by simp; omega
            go_wp2_with fail
            go_meet
            case rel => exact ⟨_, _, rfl, rfl, by decide, .inr ⟨_, tx0, rfl, Blk.new _ _ _, .inl ⟨rfl, rfl⟩⟩, (Below.refl _ _).alloc (Nat.le_refl _) _⟩
          · have d1 : ((k : Int) == 1) = false := by simp; omega
            go_wp2_with fail
            go_meet
            case rel => exact ⟨_, _, rfl, rfl, hE, hst, Below.refl _ _⟩
        case rest =>
          obtain ⟨tv2, E2, rfl, rfl, hE2, hst2, hb2⟩ := hcut
          have HB2 := hB.trans (hb2.mono hB.size)
          have bb2 := hb.belowAll hb2
          have hs2 := hs.below hb2
          clear hst hE hb hB hs hb2
          have hg := Get_bad tv2 E2 n wc hst2 hE2
          go_wp2_with fail
          refine hg.mono ?_
          rintro e w5 ⟨bv, av, rfl, hob, hoa, hb5⟩
          obtain ⟨Ab, cb, rfl⟩ := own_slice hob
          obtain ⟨Aa, ca, rfl⟩ := own_slice hoa
          simp only
          obtain ⟨w6, hw6⟩ : ∃ W, W = w5.alloc (.cells (inoC ino0 (.slice Ab ino0.blocks.length cb) (.slice Aa ino0.attrs.length ca)) 26) := ⟨_, rfl⟩
          have b56 : Below w5.heap.size w5 w6 := by rw [hw6]; exact (Below.refl _ _).alloc (Nat.le_refl _) _
          have hb6 := hb5.trans (b56.mono hb5.size)
          have hst6 := hst2.below hb6
          have HB6 := HB2.trans (hb6.mono HB2.size)
          have bb6 := bb2.belowAll hb6
          have hs6 := hs2.below hb6
          have HW6 := Lib.hid hw6
          clear hg hb5 b56 hw6 hst2 HB2 bb2 hs2 hb6 hob hoa
          go_upto_region 15 with fail
          have e6 := HW6.out.symm
          simp only [inoC] at e6
          rw [e6]
          clear e6
          have cB := bb6.cells
          have lB := bb6.lt
          have hal := Alloc_bad tv2 E2 v A c A2 c2 w6 hst6 hE2
          go_wp2_with fail
          refine hal.mono ?_
          rintro e w7 ⟨rfl, hb7⟩
          have hst7 := hst6.below hb7
          have HB7 := HB6.trans (hb7.mono HB6.size)
          have bb7 := bb6.belowAll hb7
          have hs7 := hs6.below hb7
          have hall := All_bad tv2 E2 w7 hst7 hE2
          clear hal hb7 hst6 HB6 bb6 hs6 cB lB HW6
          go_wp2_with fail
          refine hall.mono ?_
          rintro e w8 ⟨rfl, hb8⟩
          have hst8 := hst7.below hb8
          have HB8 := HB7.trans (hb8.mono HB7.size)
          have bb8 := bb7.belowAll hb8
          have hs8 := hs7.below hb8
          have cB := bb8.cells
          have lB := bb8.lt
          have hEE : (E2 != E2) = false := by simp
          have hput := Put_bad tv2 E2 n (inoC v (.slice A v.blocks.length c) (.slice A2 v.attrs.length c2)) rfl w8 hst8 hE2
          clear hall hb8 hst7 HB7 bb7 hs7
          go_wp2_with fail
          refine hput.mono ?_
          rintro e w9 ⟨rfl, hb9⟩
          have HB9 := HB8.trans (hb9.mono HB8.size)
          have bb9 := bb8.belowAll hb9
          have hs9 := hs8.below hb9
          clear hput hb9 hst8 HB8 bb8 hs8 cB lB
          go_wp2_with fail
          go_roundw
          case rel => exact ⟨k + 1, by omega, by go_num, HB9, bb9, hs9⟩
          case measure => simp [RowKit.intOf]; omega
    · obtain rfl : k = 3 := by omega
      have hs2 := shown11_any wr (HH.out.below hB hp0)
      go_wp2_with fail
      refine hs2.mono ?_
      rintro e w5 ⟨rfl, hb5⟩
      go_wp2_with fail
      go_ret
      exact ⟨rfl, hB.trans (hb5.mono hB.size)⟩
end Go.Proofs.YtjocnooekgnedaaGreatDoor
/- P11.6: InodesApart, walked. -/
namespace Go.Proofs.YtjocnooekgnedaaGreatDoor
open Go.RowKit Go.Maps

attribute [local go_sem] Oper.semAt_some

/-- What the loop keeps. -/
structure AP (w wr : World) (T : Nat) (F : List Nat) (D : Nat) (y : TxS) (Bd : List Nat) (x : DevS) (vs : List Ino) : Prop where
  td : TD wr T F D y Bd x
  bl : Below w.heap.size w wr
  fl : ∀ b ∈ F, w.heap.size ≤ b
  apt : Apt y x vs
  sm : ∀ v ∈ vs, v.blocks.length ≤ 1000 ∧ v.attrs.length ≤ 1000
section
variable {w wr W : World} {T : Nat} {F F' : List Nat} {D : Nat} {y y' : TxS} {Bd : List Nat} {x : DevS} {vs vs' : List Ino}
theorem AP.below (h : AP w wr T F D y Bd x vs) (hb : Below wr.heap.size wr W) : AP w W T F D y Bd x vs := ⟨h.td.below hb, h.bl.trans (hb.mono h.bl.size), h.fl, h.apt, h.sm⟩
theorem AP.grow (h : AP w wr T F D y Bd x vs) (ht : TxAt W T F' D y') (g : Grow wr F W F') (ha : Apt y' x vs') (hs : ∀ v ∈ vs', v.blocks.length ≤ 1000 ∧ v.attrs.length ≤ 1000) : AP w W T F' D y' Bd x vs' :=
  ⟨h.td.grow ht g, h.bl.trans (g.below h.bl.size h.fl), fun b hb => by
    rcases g.new b hb with e | e
    · exact h.fl b e
    · exact Nat.le_trans h.bl.size e, ha, hs⟩
theorem AP.row (h : AP w wr T F D y Bd x vs) {g : Nat} (h1 : g ∉ F) (h2 : g ∉ Bd) (h3 : g ≠ 0) (h4 : w.heap.size ≤ g) (cs : Array Value) : AP w (wr.setRow g cs) T F D y Bd x vs :=
  ⟨h.td.keep (fun b hm => setRow_other _ _ _ _ fun e => by
    subst e
    rcases hm with hm | hm | hm
    · exact h1 hm
    · exact h2 hm
    · exact h3 hm) (by simp), Below.setRow h.bl h4 cs, h.fl, h.apt, h.sm⟩
end
/-- What Put leaves, whatever it answers but ErrLog. -/
theorem apt_any {y : TxS} {x : DevS} {vs : List Ino} (h : Apt y x vs) (ok : y.Ok) (hsm : ∀ v ∈ vs, v.blocks.length ≤ 1000 ∧ v.attrs.length ≤ 1000) (n : Int) (v : Ino) (hv : v.blocks.length ≤ 1000 ∧ v.attrs.length ≤ 1000) (h12 : (y.iput n v).1 ≠ 12) :
    ∃ vs', Apt (y.iput n v).2 x vs' ∧ (∀ v ∈ vs', v.blocks.length ≤ 1000 ∧ v.attrs.length ≤ 1000) ∧ (y.iput n v).2.recs.length ≤ y.recs.length + 1 ∧
      (((y.iput n v).1 = 0 ∧ ∃ m : Nat, n = (m : Int) + 1 ∧ m < 10 ∧ vs' = vs.set m v) ∨ ((y.iput n v).1 ≠ 0 ∧ (y.iput n v).2.recs.length = y.recs.length ∧ vs' = vs)) := by
  by_cases h0 : (y.iput n v).1 = 0
  · obtain ⟨hn, ha, hl⟩ := apt_put h ok h0
    refine ⟨_, ha, ino_small h hsm hv, hl, .inl ⟨h0, (n - 1).toNat, by omega, by omega, rfl⟩⟩
  · have e := iput_bad ok h.st h0 h12
    rw [e]
    exact ⟨vs, h, hsm, by omega, .inr ⟨h0, rfl, rfl⟩⟩
theorem twos_cells {w : World} {g o : Nat} {xs : List (Int × InoV)} (h : Reads w (some ⟨g, o, none⟩) (xs.flatMap twoL)) {k : Nat} (hk : k < xs.length) : ∀ V, Below w.heap.size w V → V.cell? ⟨g, o + k * 9, none⟩ = some (.int .i64 xs[k].1) ∧ V.cell? ⟨g, o + k * 9 + 1, none⟩ = some (.int .i64 xs[k].2.v.kind) ∧ V.cell? ⟨g, o + k * 9 + 2, none⟩ = some (.int .i64 xs[k].2.v.links) ∧ V.cell? ⟨g, o + k * 9 + 3, none⟩ = some (.int .i64 xs[k].2.v.size) ∧ V.cell? ⟨g, o + k * 9 + 4, none⟩ = some (.int .i64 xs[k].2.v.major) ∧ V.cell? ⟨g, o + k * 9 + 5, none⟩ = some (.int .i64 xs[k].2.v.minor) ∧ V.cell? ⟨g, o + k * 9 + 6, none⟩ = some (.int .i64 xs[k].2.v.parent) ∧ V.cell? ⟨g, o + k * 9 + 7, none⟩ = some (.slice xs[k].2.A xs[k].2.v.blocks.length xs[k].2.c) ∧ V.cell? ⟨g, o + k * 9 + 8, none⟩ = some (.slice xs[k].2.A2 xs[k].2.v.attrs.length xs[k].2.c2) := by
  intro V hV
  obtain ⟨b, off, e, -, h0, hc⟩ := twos_at (h.below hV) hk
  cases e
  exact ⟨h0, hc 0 _ rfl, hc 1 _ rfl, hc 2 _ rfl, hc 3 _ rfl, hc 4 _ rfl, hc 5 _ rfl, hc 6 _ rfl, hc 7 _ rfl⟩

set_option maxRecDepth 100000 in
set_option maxHeartbeats 8000000 in
theorem inodesApart_any (xs : List (Int × InoV)) (A : Option Addr) (c : Nat) (w : World) (hH : HalfAt w) (hR : Reads w A (xs.flatMap twoL)) (hok : ∀ a ∈ xs, InoVOk w a.2) :
    Calls Tryz.prog 9 #[.slice A xs.length c] w fun e w' => e = .returned (.bool true) ∧ Below w.heap.size w w' := by
  have hp0 := hH.1
  have HH := Lib.hid hH
  have HR := Lib.hid hR
  have HOK := Lib.hid hok
  have hshow : ∀ V, Below w.heap.size w V → Calls Tryz.prog 11 #[] V fun e w' => e = .returned (.bool true) ∧ Below V.heap.size V w' := fun V hV => shown11_any V (HH.out.below hV hp0)
  have HSH := Lib.hid hshow
  clear hH hR hok hshow
  by_cases h20 : 20 < xs.length
  · as_aux_lemma =>
      have d1 : (20 : Int) < xs.length := by omega
      have hs := HSH.out w (Below.refl _ _)
      clear h20
      go_enter Tryz.func9, Tryz.ntmps9
      go_wp2_with fail
      refine hs.mono ?_
      rintro e w2 ⟨rfl, hb2⟩
      go_wp2_with fail
      go_ret
      exact ⟨rfl, hb2⟩
  have d1 : ¬ (20 : Int) < xs.length := by omega
  have H20 := Lib.hid h20
  clear h20
  have hsm := small11_any w
  go_enter Tryz.func9, Tryz.ntmps9
  go_wp2_with fail
  refine hsm.mono ?_
  rintro e w2 ⟨rfl, hb2⟩
  have hbg := begun11_fresh 64 8 10 rgSm w2 (HH.out.below hb2 hp0)
  clear hsm
  go_wp2_with fail
  refine hbg.mono ?_
  rintro e w3 ⟨D, T, F, Bd, x, rfl, hF, htd, hb3, hFl, -⟩
  have h3 : AP w w3 T F D ySm Bd x (List.replicate 10 ino0) := ⟨htd, hb2.trans (hb3.mono hb2.size), fun b hb => Nat.le_trans hb2.size (hFl b hb), apt_begin hF, fun v hv => by rw [List.eq_of_mem_replicate hv]; simp [ino0]⟩
  clear hbg htd hb3 hb2 hFl hF d1
  go_wp2_with fail
  go_loopw [6] (fun q wr => ∃ (k : Nat) (F : List Nat) (y : TxS) (vs : List Ino), k ≤ xs.length ∧ q = .int .i64 k ∧ AP w wr T F D y Bd x vs) (fun q _ => xs.length - (RowKit.intOf q).toNat)
  case atStart => exact ⟨0, F, _, _, Nat.zero_le _, rfl, h3⟩
  case round =>
    obtain ⟨k, F, y, vs, hk, rfl, hap⟩ := hrel
    clear h3
    by_cases hlt : k < xs.length
    rotate_left
    · as_aux_lemma =>
        obtain rfl : k = xs.length := by omega
        have hs := HSH.out wr hap.bl
        clear hk hlt
        go_wp2_with fail
        refine hs.mono ?_
        rintro e w4 ⟨rfl, hb4⟩
        go_wp2_with fail
        go_ret
        exact ⟨rfl, hap.bl.trans (hb4.mono hap.bl.size)⟩
    have d1 : (k : Int) < xs.length := by omega
    have hk20 : (k : Int) < 20 := by have := H20.out; omega
    obtain ⟨g, o, rfl, hg, -, -⟩ := twos_at HR.out hlt
    have hce := twos_cells HR.out hlt
    have hia := HOK.out _ (List.getElem_mem hlt)
    generalize xs[k] = a at *
    obtain ⟨an, a⟩ := a
    simp only at hce hia
    have HCE := Lib.hid hce
    have HIA := Lib.hid hia
    have hcw := hce wr hap.bl
    have hwd := wide_any a.v a.A a.v.blocks.length a.c a.A2 a.v.attrs.length a.c2 wr
    obtain ⟨c0, c1, c2, c3, c4, c5, c6, c7, c8⟩ := hcw
    clear hce hia hk
    go_wp2_with fail
    refine hwd.mono ?_
    rintro e w1 ⟨rfl, hb1⟩
    clear hwd c0 c1 c2 c3 c4 c5 c6 c7 c8
    have ha1 := hap.below hb1
    clear hap hb1
    obtain ⟨wd, hwd⟩ : ∃ wd, wd = (decide (100 < a.v.blocks.length) || decide (100 < a.v.attrs.length)) := ⟨_, rfl⟩
    rw [← hwd]
    cases wd
    rotate_left
    · as_aux_lemma =>
        have hs := HSH.out w1 ha1.bl
        clear hwd
        go_wp2_with fail
        refine hs.mono ?_
        rintro e w2 ⟨rfl, hb2⟩
        go_wp2_with fail
        go_ret
        exact ⟨rfl, ha1.bl.trans (hb2.mono ha1.bl.size)⟩
    have hsm : a.v.blocks.length ≤ 1000 ∧ a.v.attrs.length ≤ 1000 := by
      have := hwd.symm
      simp at this
      omega
    have HSM := Lib.hid hsm
    have hall := All_tx decodeAll T F D y Bd x vs w1 ha1.td.tx ha1.td.dev ha1.apt.st ha1.apt.tab
    clear hwd hsm
    go_wp2_with fail
    refine hall.mono ?_
    rintro e w2 hpo
    obtain ⟨A1, cz1, zs, rfl, hzv, hno, hb2⟩ := all_nodes ha1.apt.tab hpo
    have hl1 : zs.length = 10 := by rw [← List.length_map (f := (·.v)), hzv]; exact ha1.apt.len
    rw [hl1]
    rw [hl1] at hno
    have ha2 := ha1.below hb2
    have hFb : ∀ b ∈ F, b < w1.heap.size := fun b hb => (ha1.td.tx.lt b hb).2
    have hBb : ∀ b ∈ Bd, b < w1.heap.size := fun b hb => (ha1.td.dev.lt b hb).2
    have hw1 : 0 < w1.heap.size ∧ w.heap.size ≤ w1.heap.size := ⟨by have := ha1.bl.size; omega, ha1.bl.size⟩
    have hrc := records_tx T F D y w2 ha2.td.tx ha2.apt.cl ha2.apt.st
    generalize w1.heap.size = N1 at hno hFb hBb hw1
    clear hall hpo hb2 ha1
    go_wp2_with fail
    refine hrc.mono ?_
    rintro e w3 ⟨rv, rfl, hro, hb3⟩
    obtain ⟨RA, rc, rfl⟩ := own_slice hro
    have hno3 := hno.below hb3
    have ha3 := ha2.below hb3
    have hN1 : N1 ≤ w3.heap.size := by
      obtain ⟨q, c', hq, hq2, hq3⟩ := own_form (hl1 ▸ hno3.row) (by omega)
      omega
    have hr1 := apt_recs ha3.td.tx.ok ha3.apt.cl
    have hwg : ∀ q, A1 = some ⟨q, 0, none⟩ → q < w3.heap.size := fun q hq => (own_lt hno3.row q (by rw [hq]; rfl)).2
    have HZV := Lib.hid hzv
    have HL1 := Lib.hid hl1
    have HNO := Lib.hid hno3
    have HRL := Lib.hid hr1
    obtain ⟨r1, hr1e⟩ : ∃ r1, r1 = y.recs.length := ⟨_, rfl⟩
    rw [← hr1e]
    have HR1 := Lib.hid hr1e
    clear hrc hro hb3 hno hno3 ha2 hl1 hzv hr1 hr1e
    have hput := fun V (hV : Below w3.heap.size w3 V) => Put_tx encodeAll T F D y an a.v a.A a.c a.A2 a.c2 V (ha3.td.tx.below hV) ha3.apt.st (HIA.out.in_ HSM.out.1 HSM.out.2 |>.below (ha3.bl.trans (hV.mono ha3.bl.size)))
    have HPUT := Lib.hid hput
    clear hput
    go_upto_region 15 with fail
    refine wp_region_mix [.take 0, .take 1, .take 2, .take 3, .take 4, .take 5, .take 6, .take 7, .take 8, .take 9, .take 10, .one 11, .take 12] 13 (fun W => W.cell? ⟨g, o + k * 9, none⟩ = some (.int .i64 an) ∧ W.cell? ⟨g, o + k * 9 + 1, none⟩ = some (.int .i64 a.v.kind) ∧ W.cell? ⟨g, o + k * 9 + 2, none⟩ = some (.int .i64 a.v.links) ∧ W.cell? ⟨g, o + k * 9 + 3, none⟩ = some (.int .i64 a.v.size) ∧ W.cell? ⟨g, o + k * 9 + 4, none⟩ = some (.int .i64 a.v.major) ∧ W.cell? ⟨g, o + k * 9 + 5, none⟩ = some (.int .i64 a.v.minor) ∧ W.cell? ⟨g, o + k * 9 + 6, none⟩ = some (.int .i64 a.v.parent) ∧ W.cell? ⟨g, o + k * 9 + 7, none⟩ = some (.slice a.A a.v.blocks.length a.c) ∧ W.cell? ⟨g, o + k * 9 + 8, none⟩ = some (.slice a.A2 a.v.attrs.length a.c2)) (by kernel_rfl) (by kernel_rfl) (fun _ _ _ _ _ h => h) (HCE.out _ ha3.bl.drew) ?_
    simp only [List.map_cons, List.map_nil, Ms.fill, List.getD_cons_zero, List.getD_cons_succ]
    iterate 11 (refine mixT_take (by rfl) ?_ (fun w' hw' => ?_) ?_; rotate_left; (focus (go_simp; (try with_reducible rfl))); (try simp only [Act.put, List.setIfInBounds_toArray, List.set_cons_zero, List.set_cons_succ]))
    refine mixT_step (by rfl) fun K hK => ?_
    go_simp
    refine (HPUT.out w3.drew (Below.refl _ _).drew).mono ?_
    rintro e w4 ⟨rfl, F4, ht4, hg4⟩
    have hg4' : Grow w3 F w4 F4 := Grow.trans ⟨KeepEx.of_below (Below.refl _ _).drew, fun b hb => .inl hb⟩ hg4
    refine hK _ _ (fun _ => HCE.out _ (ha3.bl.trans (hg4'.below ha3.bl.size ha3.fl))) ?_
    clear hK K HPUT
    (refine mixT_take (by rfl) ?_ (fun w' hw' => ?_) ?_; rotate_left; (focus (go_simp; (try with_reducible rfl))); (try simp only [Act.put, List.setIfInBounds_toArray, List.set_cons_zero, List.set_cons_succ]))
    refine mixT_nil ?_
    obtain ⟨E, hEe⟩ : ∃ E, E = (y.iput an a.v).1 := ⟨_, rfl⟩
    rw [← hEe]
    by_cases h12 : E = 12
    · as_aux_lemma =>
        subst h12
        have B4 : Below w.heap.size w w4 := ha3.bl.trans (hg4'.below ha3.bl.size ha3.fl)
        have hs := HSH.out w4 B4
        clear hEe
        go_wp2_with fail
        refine hs.mono ?_
        rintro e w5 ⟨rfl, hb5⟩
        go_wp2_with fail
        go_ret
        exact ⟨rfl, B4.trans (hb5.mono B4.size)⟩
    obtain ⟨vs', hap', hsm', hrl', hcase⟩ := apt_any ha3.apt ha3.td.tx.ok ha3.sm an a.v HSM.out (by rw [← hEe]; exact h12)
    rw [← hEe] at hcase
    have ha4 := ha3.grow ht4 hg4' hap' hsm'
    have hno4 := HNO.out.grow hg4' hFb
    have hF4 : ∀ b ∈ F4, b < N1 ∨ w3.heap.size ≤ b := fun b hb => (hg4'.new b hb).imp (hFb b) id
    have hsv := ha3.sm
    have hsz4 : w3.heap.size ≤ w4.heap.size := hg4'.keep.size
    have d12 : (E == 12) = false := by simpa using h12
    generalize (y.iput an a.v).2 = y' at *
    clear ht4 hg4 hg4' hap' hsm' ha3 h12 hEe HNO hFb
    have hall := All_tx decodeAll T F4 D y' Bd x vs' w4 ha4.td.tx ha4.td.dev ha4.apt.st ha4.apt.tab
    go_wp2_with fail
    refine hall.mono ?_
    rintro e w5 hpo
    obtain ⟨A5, cz5, zs5, rfl, hzv5, hno5, hb5⟩ := all_nodes ha4.apt.tab hpo
    have hl5 : zs5.length = 10 := by rw [← List.length_map (f := (·.v)), hzv5]; exact ha4.apt.len
    rw [hl5]
    rw [hl5] at hno5
    have ha5 := ha4.below hb5
    have hno5a := hno4.below hb5
    have hN4 := hsz4
    have hrc := records_tx T F4 D y' w5 ha5.td.tx ha5.apt.cl ha5.apt.st
    clear hall hpo ha4
    go_wp2_with fail
    refine hrc.mono ?_
    rintro e w6 ⟨rv, rfl, hro, hb6⟩
    obtain ⟨RA6, rc6, rfl⟩ := own_slice hro
    have hno6 := hno5.below hb6
    have hno6a := hno5a.below hb6
    have ha6 := ha5.below hb6
    clear hrc hro hb6 hno5 hno5a ha5
    obtain ⟨r2, hr2e⟩ : ∃ r2, r2 = y'.recs.length := ⟨_, rfl⟩
    rw [← hr2e] at hrl' hcase ⊢
    rw [← HR1.out] at hrl' hcase
    have d20 : (r1 : Int) ≤ 100 := by have := HRL.out; have := HR1.out; omega
    have d21 : ¬ ((r1 : Int) + 1 < (r2 : Int)) := by omega
    have d22 : ((10 : Int) != 10) = false := by decide
    clear HRL HR1
    have hin6 : ∀ z ∈ zs5, z.v.blocks.length ≤ 1000 ∧ z.v.attrs.length ≤ 1000 := fun z hz => ha6.sm _ (by rw [← hzv5]; exact List.mem_map_of_mem hz)
    have hin1 : ∀ z ∈ zs, z.v.blocks.length ≤ 1000 ∧ z.v.attrs.length ≤ 1000 := fun z hz => hsv _ (by rw [← HZV.out]; exact List.mem_map_of_mem hz)
    rcases hcase with ⟨hE, m, hm, hm10, hvs⟩ | ⟨hE, hr12, hvs⟩
    · as_aux_lemma =>
        subst hE hm
        have HVS := Lib.hid hvs
        obtain ⟨c0, c1, c2, c3, c4, c5, c6, c7, c8⟩ := HCE.out w6 ha6.bl
        have hmw : IntKind.i64.wrap (m : Int) = (m : Int) := by rw [IntKind.wrap_i64]; omega
        have d23 : ¬ (10 : Int) < (m : Int) + 1 := by omega
        have d24 : ¬ (m : Int) + 1 < 1 := by omega
        have d25 : (m : Int) < 10 := by omega
        have HZ5 := Lib.hid hzv5
        have hnd := hno6a.below (Below.refl _ _).drew
        have hnd5 := hno6.below (Below.refl _ _).drew
        obtain ⟨gA, cur, rfl, hgA, hbA, hcz, hset⟩ := hnd.store (k := m) (by rw [HL1.out]; omega) a
        have hgA3 := hwg gA rfl
        have hst := storeAtRow (ty := 26) (o := m * 8) (vs := inoC a.v (.slice a.A a.v.blocks.length a.c) (.slice a.A2 a.v.attrs.length a.c2)) hbA hcz (by simp [Value.oneCell']) (by kernel_rfl)
        obtain ⟨cs, hcs⟩ : ∃ cs, cs = (cur.toList.take (m * 8) ++ inoL a ++ cur.toList.drop (m * 8 + 8)).toArray := ⟨_, rfl⟩
        obtain ⟨hrow, hz7⟩ := hset cs hcs
        have hst' : (Instr.storeAt 26 (.pointer (some ⟨gA, m * 8, none⟩)) (.agg (inoC a.v (.slice a.A a.v.blocks.length a.c) (.slice a.A2 a.v.attrs.length a.c2)))).run Tryz.prog w6.drew = .ok () (w6.drew.setRow gA cs) := by rw [hcs]; exact hst
        have ha7 : AP w (w6.drew.setRow gA cs) T F4 D y' Bd x vs' := (ha6.below (Below.refl _ _).drew).row (fun hm => by rcases hF4 _ hm with h | h <;> omega) (fun hm => by have := hBb _ hm; omega) (by omega) (by omega) cs
        obtain ⟨w7, hw7⟩ : ∃ w7, w7 = w6.drew.setRow gA cs := ⟨_, rfl⟩
        have hsame : Calls Tryz.prog 28 #[.slice (some ⟨gA, 0, none⟩) 10 cz1, .slice A5 10 cz5] w7 fun e w' => e = .returned (.bool true) ∧ Below w7.heap.size w7 w' := by
          have h := sameall_any (zs.set m a) zs5 10 (some ⟨gA, 0, none⟩) A5 cz1 cz5 w7 (by rw [List.length_set]; exact HL1.out) hl5 (by omega) (by rw [hw7]; rw [HL1.out] at hrow; exact Reads.of_own8 hrow)
            (by
              have h5 := hnd5.row
              rw [hl5] at h5
              rw [hw7]
              exact Reads.of_own8 (own_block h5 fun q hq => setRow_other _ _ _ _ (by have := (own_lt h5 q hq).1; omega)))
            (fun z hz => by
              rcases List.mem_or_eq_of_mem_set hz with hz | rfl
              · rw [hw7]
                exact ⟨Reads.of_own (hz7 z hz).1, Reads.of_own (hz7 z hz).2, (hin1 z hz).1, (hin1 z hz).2⟩
              · rw [hw7]
                exact (HIA.out.in_ HSM.out.1 HSM.out.2).below ha7.bl)
            (fun z hz => by
              rw [hw7]
              have h1 := hnd5.r1 z hz
              have h2 := hnd5.r2 z hz
              exact ⟨Reads.of_own (own_block h1 fun q hq => setRow_other _ _ _ _ (by have := (own_lt h1 q hq).1; omega)), Reads.of_own (own_block h2 fun q hq => setRow_other _ _ _ _ (by have := (own_lt h2 q hq).1; omega)), (hin6 z hz).1, (hin6 z hz).2⟩)
          rw [List.map_set, HZV.out, HZ5.out, HVS.out] at h
          simpa using h
        have HST := Lib.hid hst'
        have HA7 := Lib.hid ha7
        have HW7 := Lib.hid hw7
        have HA6 := Lib.hid ha6
        have HSA := Lib.hid hsame
        clear hvs hzv5 hnd hnd5 hset hst hst' hrow hz7 ha7 hsame hbA hcz hcs hno6 hno6a ha6 hin1 hin6 hrl' hno4 hl5 hb5 hN4 hsv hF4 hBb hN1 hw1 hgA hgA3 hwg hw7
        go_upto_region 27 with fail
        clear c0 c1 c2 c3 c4 c5 c6 c7 c8
        refine wp_region_mix [.take 0, .take 1, .take 2, .take 3, .take 4, .take 5, .take 6, .take 7, .take 8, .take 9, .take 10, .take 11, .take 12, .one 13] 14 (fun W => W.cell? ⟨g, o + k * 9, none⟩ = some (.int .i64 ((m : Int) + 1)) ∧ W.cell? ⟨g, o + k * 9 + 1, none⟩ = some (.int .i64 a.v.kind) ∧ W.cell? ⟨g, o + k * 9 + 2, none⟩ = some (.int .i64 a.v.links) ∧ W.cell? ⟨g, o + k * 9 + 3, none⟩ = some (.int .i64 a.v.size) ∧ W.cell? ⟨g, o + k * 9 + 4, none⟩ = some (.int .i64 a.v.major) ∧ W.cell? ⟨g, o + k * 9 + 5, none⟩ = some (.int .i64 a.v.minor) ∧ W.cell? ⟨g, o + k * 9 + 6, none⟩ = some (.int .i64 a.v.parent) ∧ W.cell? ⟨g, o + k * 9 + 7, none⟩ = some (.slice a.A a.v.blocks.length a.c) ∧ W.cell? ⟨g, o + k * 9 + 8, none⟩ = some (.slice a.A2 a.v.attrs.length a.c2)) (by kernel_rfl) (by kernel_rfl) (fun _ _ _ _ _ h => h) (HCE.out _ HA6.out.bl.drew) ?_
        simp only [List.map_cons, List.map_nil, Ms.fill, List.getD_cons_zero, List.getD_cons_succ]
        iterate 13 (refine mixT_take (by rfl) ?_ (fun w' hw' => ?_) ?_; rotate_left; (focus (go_simp; (try with_reducible rfl))); (try simp only [Act.put, List.setIfInBounds_toArray, List.set_cons_zero, List.set_cons_succ]))
        refine mixT_step (by rfl) fun K hK => ?_
        refine op_storeBy _ _ _ rfl _ _ rfl rfl HST.out ?_
        refine hK _ _ (fun _ => HCE.out _ HA7.out.bl) ?_
        clear hK K
        refine mixT_nil ?_
        rw [← HW7.out]
        have ha7 := HA7.out
        rw [← HW7.out] at ha7
        have hsame := HSA.out
        clear HA6 HST HW7 HA7 HSA
        go_wp2_with fail
        refine hsame.mono ?_
        rintro e w8 ⟨rfl, hb8⟩
        have ha8 := ha7.below hb8
        clear hsame ha7 hb8
        go_wp2_with fail
        go_roundw
        case rel => exact ⟨k + 1, F4, y', vs', by omega, by go_num, ha8⟩
        case measure => simp [RowKit.intOf]; omega
    · as_aux_lemma =>
        have dE : (E != 0) = true := by simpa using hE
        have d26 : ((r2 : Int) != (r1 : Int)) = false := by simp; omega
        have hsame : Calls Tryz.prog 28 #[.slice A1 10 cz1, .slice A5 10 cz5] w6 fun e w' => e = .returned (.bool true) ∧ Below w6.heap.size w6 w' := by
          have h1 := hno6a.row
          rw [HL1.out] at h1
          have h5 := hno6.row
          rw [hl5] at h5
          have h := sameall_any zs zs5 10 A1 A5 cz1 cz5 w6 HL1.out hl5 (by omega) (Reads.of_own8 h1) (Reads.of_own8 h5) (fun z hz => hno6a.in_ hz (hin1 z hz)) (fun z hz => hno6.in_ hz (hin6 z hz))
          rw [HZV.out, hzv5, hvs] at h
          simpa using h
        clear hE hr12 hvs hzv5 hno6 hno6a hin1 hin6 hrl' hno4 hl5 hb5 hN4 hsv hF4 hBb hN1 hw1 hwg
        go_wp2_with fail
        refine hsame.mono ?_
        rintro e w8 ⟨rfl, hb8⟩
        have ha8 := ha6.below hb8
        clear hsame ha6 hb8
        go_wp2_with fail
        go_roundw
        case rel => exact ⟨k + 1, F4, y', vs', by omega, by go_num, ha8⟩
        case measure => simp [RowKit.intOf]; omega
end Go.Proofs.YtjocnooekgnedaaGreatDoor
/- P11.6: InodesApart: the row proved, and its tied card. -/
namespace Go.Proofs.YtjocnooekgnedaaGreatDoor
open Go.ChangeShapes Go.WideShapes Go.ChangeAt Go.RowKit Go.Joins Go.Deep

set_option maxRecDepth 100000 in
theorem inodesApart_lifted (os : Os) (started : os.Started) (H : Type) (enc : TypeId × Value → H) :
    ReturnsInHanded {} Tryz.checked os 9 .any (fun w args => (Rows.inodesApartSpec.pre enc Tryz.prog Tryz.f9 [] false w args ∧ laidMetH Tryz.prog half1 w) ∧ sizedMet enc Tryz.prog Tryz.f9 (OpenSpec.ofChange Rows.inodesApartSpec) false w args)
      (Rows.inodesApartSpec.post enc Tryz.prog Tryz.f9 false true false false) := by
  refine returnsInHanded_of_change_and (C := Tryz.checked) (X := fun w _ => laidMetH Tryz.prog half1 w) (fun _ _ _ hh h => h.of_heap hh) Tryz.own started (by kernel_rfl) Tryz.func9
    (ChangeSpec.witness_shaped (enc := enc) (C := Tryz.checked) (os := os) (X := fun w _ => laidMetH Tryz.prog half1 w) false (World.doorLaid Tryz.prog 400 os) #[.slice none 0 0] 8 rfl (World.shaped_of_RefB (by kernel_rfl) (by kernel_rfl)) (by kernel_rfl) (by kernel_rfl) (by kernel_rfl) (door_met os _)) ?_
  intro W base args ds gs before hval0 hW _ _ hL _
  have hval : ∀ (j : Nat) t v, Tryz.f9.params[j]? = some t → args[j]? = some v → Value.okWide Tryz.prog W .any base t v := hval0
  have hW' := hW
  obtain ⟨p, q, hA0, hV, rfl, hfz, hnd⟩ := hW
  have hA : DataW.TrodAll enc Tryz.prog W 0 (fun _ => true) true Tryz.f9.params.toList args.toList ds p := hA0
  rw [Tryz.params9] at hA hval
  obtain ⟨v0, d0, rfl, rfl, h0⟩ := trodAll_one hA
  obtain ⟨rfl, rfl⟩ := trodVars_none hV
  have hH := half_of_laid hL
  have h0k := h0
  clear hA0 hval0
  simp only [List.append_nil] at hW'
  have hlt0 : ∀ x ∈ p, x.block < W.heap.size := fun x hx => by simpa using hW'.lt x (by simpa using hx)
  obtain ⟨tA, tc, tx, rfl, hR0, hw0, hn0⟩ := open_twos (hval 0 67 v0 rfl rfl) h0
  refine (inodesApart_any tx tA tc W hH hR0 hw0).mono fun e W' ⟨he, hnx⟩ => ?_
  subst he
  refine ⟨_, rfl, _, _, _, [], p, [], hW', ?_, ?_, rfl, hnx.frame _, fun h => by cases h⟩
  · exact trodAll_mk1 (shut_bool Tryz.underlying4 true)
  · exact trodAll_mk1 (Below.trod Tryz.laidOut (by kernel_rfl) (of_decide_eq_true (by kernel_rfl)) h0k hnx hlt0)

theorem inodesApart_holds : Rows.InodesApartSaid :=
  OpenClaim.holds_of_wide 9 Tryz.f9 rfl rfl rfl rfl rfl rfl rfl ⟨rfl, rfl, rfl, rfl, rfl⟩ rfl rfl rfl rfl rfl (by kernel_rfl) Tryz.func9 (by kernel_rfl)
    (of_decide_eq_true (by kernel_rfl)) (by unfold Func.isWrapper; first | (rw [if_pos (by decide +kernel)]; kernel_rfl) | (rw [if_neg (by decide +kernel)]; exact ⟨rfl, rfl⟩))
    (fun os started H enc _ => inodesApart_lifted os started H enc)

theorem inodesApartCard_holds : Rows.InodesApartCardSaid :=
  Claim7.holds_tied_plain_at .later [] [.data] true (true, "e8801c0ce7bc0057fd6b75f0dfacb230b8a5f9fbd5fbfd86fb22cd5818a18b38") false
    inodesApart_holds (fun _ h => by cases h) (by kernel_rfl) (fun _ h => by cases h) inodesApart_row_tie rfl ⟨rfl, rfl⟩ (by kernel_rfl) rfl
    (fun f fn hf hfn => by
      obtain rfl : f = 9 := Option.some.inj ((show Tryz.prog.funcNamed "limewash/limewashlaw11.InodesApart" = some 9 by kernel_rfl).symm.trans hf) |>.symm
      obtain rfl : fn = Tryz.f9 := (Option.some.inj (Tryz.func9.symm.trans hfn)).symm
      exact ⟨by kernel_rfl, fun j t ht => by
        rw [Tryz.params9] at ht
        have hm : t ∈ [67] := by simpa using Array.mem_of_getElem? ht
        have hall : ([67].all fun u => !Tryz.prog.wantsStandIn u) = true := by kernel_rfl
        exact (show Tryz.prog.wantsStandIn t = false by simpa using List.all_eq_true.1 hall t hm)⟩)
    (by kernel_rfl)

#print axioms inodesApartCard_holds
end Go.Proofs.YtjocnooekgnedaaGreatDoor
