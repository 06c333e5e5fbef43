/- Parts of the proof, put together by program: LU, LR, LT, LW. -/
import Derived.Test.YtjocnooekgnedaaGreatDoorPart50
import Derived.Test.YtjocnooekgnedaaGreatDoorPart34
import Derived.ProofKit
import Derived.OpenShut
import Derived.Test.YtjocnooekgnedaaGreatDoorPart49
import Derived.BigQuiet
import Derived.Deep.CutRange
import Derived.Deep.CutBlock
set_option linter.unusedVariables false
set_option linter.unusedSimpArgs false
/- Layer 11: arguments opened: a layout, an inode, a list of inodes with numbers. -/
namespace Go.Proofs.YtjocnooekgnedaaGreatDoor
open Go.ChangeShapes Go.WideShapes Go.ChangeAt Go.RowKit Go.Deep

theorem Tryz.cellsInt : Tryz.prog.cellsOf 3 = 1 := by kernel_rfl
theorem Tryz.cellsInts : Tryz.prog.cellsOf 24 = 1 := by kernel_rfl
theorem Tryz.cellsU8 : Tryz.prog.cellsOf 5 = 1 := by kernel_rfl
theorem Tryz.cellsLayout : Tryz.prog.cellsOf 23 = 3 := by kernel_rfl
theorem Tryz.cellsNode : Tryz.prog.cellsOf 26 = 8 := by kernel_rfl
theorem Tryz.cellsTwo : Tryz.prog.cellsOf 69 = 9 := by kernel_rfl
theorem wf_u8_iff {f : Int} (h : (Lit.int .u8 f).wf = true) : 0 ≤ f ∧ f ≤ 255 := by
  simp [Lit.wf, IntKind.min, IntKind.max, IntKind.bits, IntKind.signed] at h; omega
theorem wf_u64_iff {f : Int} (h : (Lit.int .u64 f).wf = true) : 0 ≤ f ∧ f < 18446744073709551616 := by
  simp [Lit.wf, IntKind.min, IntKind.max, IntKind.bits, IntKind.signed] at h; omega
theorem wf_i64_iff {f : Int} (h : (Lit.int .i64 f).wf = true) : -9223372036854775808 ≤ f ∧ f ≤ 9223372036854775807 := by
  simp [Lit.wf, IntKind.min, IntKind.max, IntKind.bits, IntKind.signed] at h; omega

/-- An inode as it came in. -/
structure InoV where
  v : Ino
  A : Option Addr
  c : Nat
  A2 : Option Addr
  c2 : Nat
def inoL (a : InoV) : List Value := (inoC a.v (.slice a.A a.v.blocks.length a.c) (.slice a.A2 a.v.attrs.length a.c2)).toList
structure InoVOk (W : World) (a : InoV) : Prop where
  r1 : Reads W a.A (a.v.blocks.map (.int .i64))
  r2 : Reads W a.A2 (a.v.attrs.map (.int .i64))
  n1 : a.v.blocks.length ≤ maxLen
  n2 : a.v.attrs.length ≤ maxLen
theorem InoVOk.in_ {W : World} {a : InoV} (h : InoVOk W a) (h1 : a.v.blocks.length ≤ 1000) (h2 : a.v.attrs.length ≤ 1000) : InoIn W a.v a.A a.c a.A2 a.c2 := ⟨h.r1, h.r2, h1, h2⟩

section
variable {H : Type} {enc : TypeId × Value → H} {W : World}
set_option maxRecDepth 100000 in
theorem open_ints' {fuel : Nat} {v : Value} {x : DataW H × List MemPlace} (h : DataW.trod enc Tryz.prog W 0 (fun _ => true) true fuel 24 [v] = some x) :
    ∃ (A : Option Addr) (n c : Nat) (xs : List Int), v = .slice A n c ∧ xs.length = n ∧ Reads W A (xs.map (Value.int .i64)) ∧ n ≤ c ∧ c ≤ maxLen ∧ (A = none → n = 0 ∧ c = 0) :=
  open_cells (Value.int .i64) Tryz.underlying24 Tryz.cellsInt (fun n cs x hx => by obtain ⟨b, rfl, _⟩ := DataW.trod_int Tryz.underlying3 hx; exact ⟨b, rfl⟩) h

set_option maxRecDepth 100000 in
/-- An inode as its cells. -/
theorem open_ino_cells {fuel : Nat} {cs : List Value} (hsz : cs.length = 8) {x : DataW H × List MemPlace} (h : DataW.trod enc Tryz.prog W 0 (fun _ => true) true fuel 26 cs = some x) :
    ∃ a : InoV, cs = inoL a ∧ InoVOk W a := by
  match cs, hsz with
  | [c0, c1, c2, c3, c4, c5, c6, c7], _ =>
    obtain ⟨xs, n, _, _, _, hlen, hg⟩ := DataW.trod_struct Tryz.underlying26 h
    have g0 : DataW.trod enc Tryz.prog W 0 (fun _ => true) true n 3 [c0] = xs[0]? := by have := hg 0 _ rfl; simpa [Tryz.cellsInt, Value.cells] using this
    have g1 : DataW.trod enc Tryz.prog W 0 (fun _ => true) true n 3 [c1] = xs[1]? := by have := hg 1 _ rfl; simpa [Tryz.cellsInt, Value.cells] using this
    have g2 : DataW.trod enc Tryz.prog W 0 (fun _ => true) true n 3 [c2] = xs[2]? := by have := hg 2 _ rfl; simpa [Tryz.cellsInt, Value.cells] using this
    have g3 : DataW.trod enc Tryz.prog W 0 (fun _ => true) true n 3 [c3] = xs[3]? := by have := hg 3 _ rfl; simpa [Tryz.cellsInt, Value.cells] using this
    have g4 : DataW.trod enc Tryz.prog W 0 (fun _ => true) true n 3 [c4] = xs[4]? := by have := hg 4 _ rfl; simpa [Tryz.cellsInt, Value.cells] using this
    have g5 : DataW.trod enc Tryz.prog W 0 (fun _ => true) true n 3 [c5] = xs[5]? := by have := hg 5 _ rfl; simpa [Tryz.cellsInt, Value.cells] using this
    have g6 : DataW.trod enc Tryz.prog W 0 (fun _ => true) true n 24 [c6] = xs[6]? := by have := hg 6 _ rfl; simpa [Tryz.cellsInts, Value.cells] using this
    have g7 : DataW.trod enc Tryz.prog W 0 (fun _ => true) true n 24 [c7] = xs[7]? := by have := hg 7 _ rfl; simpa [Tryz.cellsInts, Value.cells] using this
    clear hg
    match xs, hlen with
    | [y0, y1, y2, y3, y4, y5, y6, y7], _ =>
      simp only [List.getElem?_cons_zero, List.getElem?_cons_succ] at g0 g1 g2 g3 g4 g5 g6 g7
      obtain ⟨a0, e0, _, w0⟩ := DataW.trod_int Tryz.underlying3 g0
      obtain ⟨a1, e1, _, w1⟩ := DataW.trod_int Tryz.underlying3 g1
      obtain ⟨a2, e2, _, w2⟩ := DataW.trod_int Tryz.underlying3 g2
      obtain ⟨a3, e3, _, w3⟩ := DataW.trod_int Tryz.underlying3 g3
      obtain ⟨a4, e4, _, w4⟩ := DataW.trod_int Tryz.underlying3 g4
      obtain ⟨a5, e5, _, w5⟩ := DataW.trod_int Tryz.underlying3 g5
      simp at e0 e1 e2 e3 e4 e5
      subst e0 e1 e2 e3 e4 e5
      obtain ⟨A, m, c, l, rfl, q1, q2, q3, q4, q5⟩ := open_ints' g6
      obtain ⟨A2, m2, c2, l2, rfl, p1, p2, p3, p4, p5⟩ := open_ints' g7
      subst q1 p1
      exact ⟨⟨⟨a0, a1, a2, a3, a4, a5, l, l2⟩, A, c, A2, c2⟩, rfl, q2, p2, Nat.le_trans q3 q4, Nat.le_trans p3 p4⟩

set_option maxRecDepth 100000 in
/-- An inode that came in. -/
theorem open_ino {r : Reach} {b0 : Nat} {v : Value} {d : DataW H} {p : List MemPlace} (hv : Value.okWide Tryz.prog W r b0 26 v) (h : DataW.Trod enc Tryz.prog W 0 (fun _ => true) true 26 v d p) :
    ∃ a : InoV, v = .agg (inoC a.v (.slice a.A a.v.blocks.length a.c) (.slice a.A2 a.v.attrs.length a.c2)) ∧ InoVOk W a := by
  obtain ⟨cs, rfl, hsz⟩ := okWide_struct Tryz.underlying26 hv
  rw [Tryz.cellsNode] at hsz
  obtain ⟨l0⟩ := cs
  obtain ⟨fuel, hf⟩ := h
  obtain ⟨a, e, ha⟩ := open_ino_cells (cs := l0) hsz (by simpa [Value.cells] using hf)
  exact ⟨a, by rw [e]; rfl, ha⟩

set_option maxRecDepth 100000 in
/-- A layout that came in. -/
theorem open_lay {r : Reach} {b0 : Nat} {v : Value} {d : DataW H} {p : List MemPlace} (hv : Value.okWide Tryz.prog W r b0 23 v) (h : DataW.Trod enc Tryz.prog W 0 (fun _ => true) true 23 v d p) :
    ∃ s j i : Int, v = .agg #[.int .i64 s, .int .i64 j, .int .i64 i] ∧ (-9223372036854775808 ≤ s ∧ s ≤ 9223372036854775807) ∧ (-9223372036854775808 ≤ j ∧ j ≤ 9223372036854775807) ∧ (-9223372036854775808 ≤ i ∧ i ≤ 9223372036854775807) := by
  obtain ⟨cs, rfl, hsz⟩ := okWide_struct Tryz.underlying23 hv
  rw [Tryz.cellsLayout] at hsz
  obtain ⟨l0⟩ := cs
  obtain ⟨fuel, hf⟩ := h
  have hf2 : DataW.trod enc Tryz.prog W 0 (fun _ => true) true fuel 23 l0 = some (d, p) := by simpa [Value.cells] using hf
  match l0, hsz with
  | [c0, c1, c2], _ =>
    obtain ⟨xs, n, _, _, _, hlen, hg⟩ := DataW.trod_struct Tryz.underlying23 hf2
    have g0 : DataW.trod enc Tryz.prog W 0 (fun _ => true) true n 3 [c0] = xs[0]? := by have := hg 0 _ rfl; simpa [Tryz.cellsInt, Value.cells] using this
    have g1 : DataW.trod enc Tryz.prog W 0 (fun _ => true) true n 3 [c1] = xs[1]? := by have := hg 1 _ rfl; simpa [Tryz.cellsInt, Value.cells] using this
    have g2 : DataW.trod enc Tryz.prog W 0 (fun _ => true) true n 3 [c2] = xs[2]? := by have := hg 2 _ rfl; simpa [Tryz.cellsInt, Value.cells] using this
    clear hg
    match xs, hlen with
    | [y0, y1, y2], _ =>
      simp only [List.getElem?_cons_zero, List.getElem?_cons_succ] at g0 g1 g2
      obtain ⟨a0, e0, _, w0⟩ := DataW.trod_int Tryz.underlying3 g0
      obtain ⟨a1, e1, _, w1⟩ := DataW.trod_int Tryz.underlying3 g1
      obtain ⟨a2, e2, _, w2⟩ := DataW.trod_int Tryz.underlying3 g2
      simp at e0 e1 e2
      subst e0 e1 e2
      exact ⟨a0, a1, a2, rfl, wf_i64_iff w0, wf_i64_iff w1, wf_i64_iff w2⟩

/-- An inode with a number. -/
def twoL (a : Int × InoV) : List Value := .int .i64 a.1 :: inoL a.2
set_option maxRecDepth 100000 in
theorem open_two_cells {fuel : Nat} {cs : List Value} (hsz : cs.length = 9) {x : DataW H × List MemPlace} (h : DataW.trod enc Tryz.prog W 0 (fun _ => true) true fuel 69 cs = some x) :
    ∃ a : Int × InoV, cs = twoL a ∧ InoVOk W a.2 := by
  match cs, hsz with
  | [c0, c1, c2, c3, c4, c5, c6, c7, c8], _ =>
    obtain ⟨xs, n, _, _, _, hlen, hg⟩ := DataW.trod_struct Tryz.underlying69 h
    have g0 : DataW.trod enc Tryz.prog W 0 (fun _ => true) true n 3 [c0] = xs[0]? := by have := hg 0 _ rfl; simpa [Tryz.cellsInt, Value.cells] using this
    have g1 : DataW.trod enc Tryz.prog W 0 (fun _ => true) true n 26 [c1, c2, c3, c4, c5, c6, c7, c8] = xs[1]? := by have := hg 1 _ rfl; simpa [Tryz.cellsInt, Tryz.cellsNode, Value.cells] using this
    clear hg
    match xs, hlen with
    | [y0, y1], _ =>
      simp only [List.getElem?_cons_zero, List.getElem?_cons_succ] at g0 g1
      obtain ⟨a0, e0, _, w0⟩ := DataW.trod_int Tryz.underlying3 g0
      simp at e0
      subst e0
      obtain ⟨a, e, ha⟩ := open_ino_cells (by rfl) g1
      exact ⟨(a0, a), by show _ :: _ = _ :: _; rw [e], ha⟩
set_option maxRecDepth 100000 in
theorem open_twos {r : Reach} {b0 : Nat} {v : Value} {d : DataW H} {p : List MemPlace} (hv : Value.okWide Tryz.prog W r b0 67 v) (h : DataW.Trod enc Tryz.prog W 0 (fun _ => true) true 67 v d p) :
    ∃ (A : Option Addr) (c : Nat) (xs : List (Int × InoV)), v = .slice A xs.length c ∧ Reads W A (xs.flatMap twoL) ∧ (∀ a ∈ xs, InoVOk W a.2) ∧ xs.length ≤ maxLen := by
  obtain ⟨a0, l0, c0, rfl⟩ := okWide_slice Tryz.underlying67 hv
  obtain ⟨fuel, hf⟩ := h
  obtain ⟨A, n, c, xs, h1, h2, h3, h4, h5, h6, -⟩ := open_rows twoL (fun a => InoVOk W a.2) 9 (by omega) Tryz.underlying67 Tryz.cellsTwo (fun n cs x hsz hx => open_two_cells hsz hx) (v := .slice a0 l0 c0) (by simpa [Value.cells] using hf)
  subst h2
  exact ⟨A, c, xs, h1, h3, fun a ha => (h4 a ha).2, by omega⟩

end
theorem Tryz.cellsStr : Tryz.prog.cellsOf 9 = 1 := by kernel_rfl
set_option maxRecDepth 100000 in
/-- Bytes that came in. -/
theorem open_bytes11 {H : Type} {enc : TypeId × Value → H} {W : World} {r : Reach} {b0 : Nat} {v : Value} {d : DataW H} {p : List MemPlace} (hv : Value.okWide Tryz.prog W r b0 29 v) (h : DataW.Trod enc Tryz.prog W 0 (fun _ => true) true 29 v d p) :
    ∃ (A : Option Addr) (c : Nat) (xs : List Int), v = .slice A xs.length c ∧ Reads W A (xs.map (.int .u8)) ∧ (∀ x ∈ xs, 0 ≤ x ∧ x < 256) ∧ xs.length ≤ c ∧ c ≤ maxLen := by
  obtain ⟨a0, l0, c0, rfl⟩ := okWide_slice Tryz.underlying29 hv
  obtain ⟨fuel, hf⟩ := h
  obtain ⟨A, n, c, xs, h1, h2, h3, h4, h5, h6, -⟩ := open_rows (fun a : Int => [Value.int .u8 a]) (fun a => 0 ≤ a ∧ a < 256) 1 (by omega) Tryz.underlying29 Tryz.cellsU8 (fun n cs x _ hx => by
    obtain ⟨z, rfl, _, w⟩ := DataW.trod_int Tryz.underlying5 hx
    exact ⟨z, rfl, by have := wf_u8_iff w; omega⟩) (v := .slice a0 l0 c0) (by simpa [Value.cells] using hf)
  subst h2
  have e : xs.flatMap (fun a : Int => [Value.int .u8 a]) = xs.map (.int .u8) := by
    clear h1 h3 h4 h5 h6
    induction xs with
    | nil => rfl
    | cons a t ih => rw [List.flatMap_cons, ih]; rfl
  rw [e] at h3
  exact ⟨A, c, xs, h1, h3, fun a ha => (h4 a ha).2, h5, h6⟩
end Go.Proofs.YtjocnooekgnedaaGreatDoor
/- Layer 11: InodesAllocs in plain words. No program in sight. -/
namespace Go.Proofs.YtjocnooekgnedaaGreatDoor
open Go.RowKit Go.Maps

def bitU (u g : Nat) : Bool := u / 2 ^ g % 2 == 1
/-- The numbers up to n whose bits are not set. -/
def frL (u : Nat) : Nat → List Int
  | 0 => []
  | n + 1 => if bitU u n = true then frL u n else frL u n ++ [((n : Int) + 1)]
theorem frL_mem (u : Nat) : ∀ (n : Nat) (a : Int), a ∈ frL u n ↔ ∃ g : Nat, a = (g : Int) + 1 ∧ g < n ∧ bitU u g = false
  | 0, a => by
    constructor
    · intro h; cases h
    · rintro ⟨g, -, h, -⟩; omega
  | n + 1, a => by
    unfold frL
    by_cases hb : bitU u n = true
    · rw [if_pos hb, frL_mem u n a]
      constructor
      · rintro ⟨g, h1, h2, h3⟩; exact ⟨g, h1, by omega, h3⟩
      · rintro ⟨g, h1, h2, h3⟩
        refine ⟨g, h1, ?_, h3⟩
        rcases Nat.lt_or_ge g n with h | h
        · exact h
        · obtain rfl : g = n := by omega
          rw [hb] at h3; cases h3
    · rw [if_neg hb, List.mem_append, frL_mem u n a, List.mem_singleton]
      constructor
      · rintro (⟨g, h1, h2, h3⟩ | h)
        · exact ⟨g, h1, by omega, h3⟩
        · exact ⟨n, h, by omega, by simpa using hb⟩
      · rintro ⟨g, h1, h2, h3⟩
        by_cases e : g = n
        · subst e; exact .inr h1
        · exact .inl ⟨g, h1, by omega, h3⟩
theorem frL_bit (u n g : Nat) : ((g : Int) + 1) ∈ frL u n ↔ g < n ∧ bitU u g = false := by
  rw [frL_mem]
  constructor
  · rintro ⟨k, h1, h2, h3⟩
    obtain rfl : g = k := by omega
    exact ⟨h2, h3⟩
  · rintro ⟨h2, h3⟩; exact ⟨g, rfl, h2, h3⟩
theorem frL_pair (u : Nat) : ∀ n, (frL u n).Pairwise (· < ·)
  | 0 => List.Pairwise.nil
  | n + 1 => by
    unfold frL
    split
    · exact frL_pair u n
    · refine List.pairwise_append.2 ⟨frL_pair u n, List.pairwise_singleton _ _, fun a ha b hb => ?_⟩
      obtain ⟨g, h1, h2, -⟩ := (frL_mem u n a).1 ha
      rw [List.mem_singleton] at hb
      omega
theorem frL_le (u : Nat) : ∀ n, (frL u n).length ≤ n
  | 0 => Nat.le_refl _
  | n + 1 => by
    have := frL_le u n
    unfold frL
    split
    · omega
    · simp; omega

theorem rgA {I : Nat} (h : 1 ≤ I ∧ I ≤ 60) : rgE 256 96 I = 0 ∧ rgB 256 96 I = 158 - I := by
  have h1 : rgE 256 96 I = 0 := rgE_0 (by omega) (by omega)
  refine ⟨h1, ?_⟩
  unfold rgB
  rw [if_pos h1]; omega
theorem ino_file0 {I : Nat} (h : 1 ≤ I ∧ I ≤ 60) : inoE 256 96 I (fileI 0 []) = 0 :=
  inoE_ok.2 ⟨(rgA h).1, by decide, by unfold Ino.nums fileI; simp, by unfold Ino.many fileI; simp, (fun b hb => by simp [Ino.all, fileI] at hb), by unfold Ino.all fileI; simp⟩
theorem ino_file1 {I k : Nat} (h : 1 ≤ I ∧ I ≤ 60) (hk : k ≤ 60) : inoE 256 96 I (fileI 1 [(k : Int)]) = 0 :=
  inoE_ok.2 ⟨(rgA h).1, (by decide : (0 : Int) ≤ 2 ∧ (2 : Int) ≤ 4), by unfold Ino.nums fileI; simp, by unfold Ino.many fileI; simp, (fun b hb => by
    obtain rfl : b = k := by simpa [Ino.all, fileI] using hb
    have := (rgA h).2
    omega), by unfold Ino.all fileI; simp⟩

/-- What a transaction is on the way. -/
structure AtA (I : Nat) (y : TxS) (x : DevS) (m : Nat) (free : Nat → Prop) : Prop where
  s : y.s = 256
  j : y.j = 96
  i : y.i = I
  st : y.stateE = 0
  ch : y.changed = false
  len : y.writes.length ≤ m
  tab : ∃ vs, Tab y x vs ∧ ∀ g, g < I → ((vs.getD g ino0).kind = 0 ↔ free g)
theorem AtA.put {I : Nat} {y : TxS} {x : DevS} {m : Nat} {fr : Nat → Prop} (h : AtA I y x m fr) (ok : y.Ok) (hI : 1 ≤ I ∧ I ≤ 60) (hm : m ≤ 60) {g : Nat} (hg : g < I) {v : Ino} (hv : inoE 256 96 I v = 0) (hk : v.kind ≠ 0) :
    (y.iput ((g : Int) + 1) v).1 = 0 ∧ AtA I (y.iput ((g : Int) + 1) v).2 x (m + 1) (fun k => fr k ∧ k ≠ g) := by
  have h0 : (y.iput ((g : Int) + 1) v).1 = 0 := by
    unfold TxS.iput
    rw [if_neg (by simpa using h.st), if_neg (by rw [h.i]; omega), h.s, h.j, h.i, if_neg (by simpa using hv)]
    have hl := (dec_enc_ino (inoE_ok.1 hv)).2
    unfold TxS.write
    rw [if_neg (by simpa using h.st)]
    have hwe : y.writeE (tabAt y ((g : Int) + 1)) 6 (strOfNums (encI v)).size = 0 := by
      have hleft : ¬ y.left < 1 := by
        have := h.len
        unfold TxS.left TxS.most
        rw [h.ch, h.j]
        simp
        omega
      have hta : tabAt y ((g : Int) + 1) = 98 + g := by unfold tabAt; rw [h.j]; omega
      unfold TxS.writeE
      rw [strOfNums_size, hta, h.j, h.s, if_neg (by omega), if_neg (by omega), if_neg (by omega), if_neg (fun hc => hleft hc.2)]
    rw [if_neg (by simpa using hwe)]
  refine ⟨h0, ?_⟩
  obtain ⟨vs, ht, hf⟩ := h.tab
  obtain ⟨hn, ht2⟩ := tab_put ok h.st ht h0
  obtain ⟨-, -, hp⟩ := iput_good (x := x) ok h.st h0
  have hvl : vs.length = I := by have := ht.len; rw [h.i] at this; omega
  refine ⟨hp.same.1.trans h.s, hp.same.2.1.trans h.j, hp.same.2.2.trans h.i, hp.st, hp.ch.trans h.ch, by have := hp.len; have := h.len; omega, _, ht2, fun k hk2 => ?_⟩
  rw [show ((g : Int) + 1 - 1).toNat = g by omega]
  by_cases e : k = g
  · subst e
    rw [List.getD_eq_getElem?_getD, List.getElem?_set_self (by omega)]
    simp [hk]
  · rw [List.getD_eq_getElem?_getD, List.getElem?_set_ne (by omega), ← List.getD_eq_getElem?_getD, hf k hk2]
    simp [e]
theorem AtA.iff {I : Nat} {y : TxS} {x : DevS} {m m' : Nat} {fr fr' : Nat → Prop} (h : AtA I y x m fr) (hm : m ≤ m') (hf : ∀ k, k < I → (fr k ↔ fr' k)) : AtA I y x m' fr' := by
  obtain ⟨vs, ht, hv⟩ := h.tab
  exact ⟨h.s, h.j, h.i, h.st, h.ch, Nat.le_trans h.len hm, vs, ht, fun g hg => (hv g hg).trans (hf g hg)⟩

/-- After n numbers. -/
def PutA (I u n : Nat) (y : TxS) (x : DevS) : Prop := AtA I y x (n - (frL u n).length) (fun g => n ≤ g ∨ bitU u g = false)
theorem putA_begin {I : Nat} (hI : 1 ≤ I ∧ I ≤ 60) (u : Nat) {x : DevS} {N : Nat} (hF : Fresh x 256 96 I N) : PutA I u 0 (freeTx 256 96 I) x := by
  have ht := tab_fresh (rgA hI).1 hF
  refine ⟨rfl, rfl, rfl, rfl, rfl, Nat.zero_le _, _, ht, fun g hg => ?_⟩
  rw [List.getD_eq_getElem?_getD, List.getElem?_replicate, if_pos (by omega)]
  exact ⟨fun _ => .inl (Nat.zero_le _), fun _ => rfl⟩
theorem putA_set {I u n : Nat} {y : TxS} {x : DevS} (h : PutA I u n y x) (ok : y.Ok) (hI : 1 ≤ I ∧ I ≤ 60) (hn : n < I) (hb : bitU u n = true) :
    (y.iput ((n : Int) + 1) (fileI 0 [])).1 = 0 ∧ PutA I u (n + 1) (y.iput ((n : Int) + 1) (fileI 0 [])).2 x := by
  obtain ⟨h1, h2⟩ := AtA.put h ok hI (by omega) hn (ino_file0 hI) (by decide)
  have hl := frL_le u n
  refine ⟨h1, h2.iff (by rw [show frL u (n + 1) = frL u n by conv => lhs; unfold frL; rw [if_pos hb]]; omega) fun k hk => ?_⟩
  by_cases e : k = n
  · subst e; rw [hb]; simp
  · constructor
    · rintro ⟨h | h, -⟩
      · exact .inl (by omega)
      · exact .inr h
    · rintro (h | h)
      · exact ⟨.inl (by omega), e⟩
      · exact ⟨.inr h, e⟩
theorem putA_skip {I u n : Nat} {y : TxS} {x : DevS} (h : PutA I u n y x) (hb : bitU u n = false) : PutA I u (n + 1) y x := by
  have hl := frL_le u n
  refine AtA.iff h ?_ fun k _ => ?_
  · have hb2 : ¬ bitU u n = true := by rw [hb]; simp
    rw [show frL u (n + 1) = frL u n ++ [((n : Int) + 1)] by conv => lhs; unfold frL; rw [if_neg hb2]]
    simp
  · by_cases e : k = n
    · subst e; simp [hb]
    · constructor
      · rintro (h | h)
        · exact .inl (by omega)
        · exact .inr h
      · rintro (h | h)
        · exact .inl (by omega)
        · exact .inr h
/-- After k Allocs. -/
def AlA (I u k : Nat) (y : TxS) (x : DevS) : Prop := AtA I y x (I - (frL u I).length + k) (fun g => ((g : Int) + 1) ∈ (frL u I).drop k)
theorem alA_begin {I u : Nat} {y : TxS} {x : DevS} (h : PutA I u I y x) : AlA I u 0 y x :=
  AtA.iff h (by omega) fun k hk => by
    rw [List.drop_zero, frL_bit]
    constructor
    · rintro (h | h)
      · omega
      · exact ⟨hk, h⟩
    · rintro ⟨-, h⟩; exact .inr h
theorem alA_step {I u k : Nat} {y : TxS} {x : DevS} (h : AlA I u k y x) (ok : y.Ok) (hI : 1 ≤ I ∧ I ≤ 60) (hk : k < (frL u I).length) :
    ∃ z, y.ialloc x (fileI 1 [(k : Int)]) = ((frL u I)[k], 0, z) ∧ AlA I u (k + 1) z x := by
  have hle := frL_le u I
  have hmem : (frL u I)[k] ∈ frL u I := List.getElem_mem hk
  obtain ⟨f, hf1, hf2, hf3⟩ := (frL_mem u I _).1 hmem
  have hd : (frL u I).drop k = (frL u I)[k] :: (frL u I).drop (k + 1) := List.drop_eq_getElem_cons hk
  have hpw : ((frL u I)[k] :: (frL u I).drop (k + 1)).Pairwise (· < ·) := by rw [← hd]; exact (frL_pair u I).sublist (List.drop_sublist _ _)
  have hgt := (List.pairwise_cons.1 hpw).1
  obtain ⟨vs, ht, hv⟩ := h.tab
  have hvl : vs.length = I := by have := ht.len; rw [h.i] at this; omega
  have hfree : (vs.getD f ino0).kind = 0 := (hv f hf2).2 (by rw [hd, hf1]; exact List.mem_cons_self)
  have hused : ∀ g, vs.length - vs.length ≤ g → g < f → (vs.getD g ino0).kind ≠ 0 := fun g _ hg hc => by
    have := (hv g (by omega)).1 hc
    rw [hd, List.mem_cons] at this
    rcases this with h1 | h1
    · omega
    · have := hgt _ h1; omega
  obtain ⟨p1, p2⟩ := AtA.put h ok hI (by omega) hf2 (ino_file1 hI (k := k) (by omega)) (by show (2 : Int) ≠ 0; decide)
  refine ⟨_, ?_, p2.iff (by omega) fun g hg => ?_⟩
  · unfold TxS.ialloc
    rw [if_neg (by simpa using h.st), h.s, h.j, h.i, if_neg (by simpa using ino_file1 hI (k := k) (by omega)), if_neg (by show ¬ (2 : Int) = 0; decide)]
    have he := ialTo_first ht (fileI 1 [(k : Int)]) vs.length (Nat.le_refl _) f (by omega) (by omega) hfree hused
    rw [hvl] at he
    rw [show ((I : Int)).toNat = I by omega, he, if_neg (fun hc => hc p1), hf1]
  · rw [hd, List.mem_cons]
    constructor
    · rintro ⟨h1 | h1, h2⟩
      · exact absurd (show g = f by omega) h2
      · exact h1
    · intro h1
      refine ⟨.inr h1, fun e => ?_⟩
      subst e
      have := hgt _ h1
      omega
theorem alA_end {I u : Nat} {y : TxS} {x : DevS} (h : AlA I u (frL u I).length y x) (hI : 1 ≤ I ∧ I ≤ 60) :
    y.ialloc x (fileI 1 [((frL u I).length : Int)]) = (0, 11, y) := by
  have hle := frL_le u I
  obtain ⟨vs, ht, hv⟩ := h.tab
  have hvl : vs.length = I := by have := ht.len; rw [h.i] at this; omega
  unfold TxS.ialloc
  rw [if_neg (by simpa using h.st), h.s, h.j, h.i, if_neg (by simpa using ino_file1 hI (k := (frL u I).length) (by omega)), if_neg (by show ¬ (2 : Int) = 0; decide)]
  have he := ialTo_none ht (fileI 1 [((frL u I).length : Int)]) vs.length (Nat.le_refl _) (fun g _ hg hc => by
    have := (hv g (by omega)).1 hc
    rw [List.drop_length] at this
    cases this)
  rw [hvl] at he
  rw [show ((I : Int)).toNat = I by omega, he]
end Go.Proofs.YtjocnooekgnedaaGreatDoor
/- P11.7: InodesAllocs, walked. -/
namespace Go.Proofs.YtjocnooekgnedaaGreatDoor
open Go.RowKit Go.Maps

attribute [local go_sem] Oper.semAt_some

/-- A transaction at play, a layout's box, and a list of numbers that grows. -/
structure AA (w wr : World) (T : Nat) (F : List Nat) (D : Nat) (y : TxS) (Bd : List Nat) (x : DevS) (N0 I : Nat) (v : Value) (l : List Int) : Prop where
  td : TD wr T F D y Bd x
  bl : Below w.heap.size w wr
  fl : ∀ b ∈ F, w.heap.size < b
  lay : Blk wr w.heap.size 23 #[.int .i64 256, .int .i64 96, .int .i64 I]
  own : wr.ownsRow N0 3 1 v l.length (l.map (.int .i64))
  far : ∀ g, v.ownBlock = some g → g ∉ F
  bd : ∀ b ∈ Bd, b < N0
  n0 : w.heap.size < N0 ∧ N0 ≤ wr.heap.size
theorem AA.below {w wr W : World} {T : Nat} {F : List Nat} {D : Nat} {y : TxS} {Bd : List Nat} {x : DevS} {N0 I : Nat} {v : Value} {l : List Int} (h : AA w wr T F D y Bd x N0 I v l) (hb : Below wr.heap.size wr W) : AA w W T F D y Bd x N0 I v l :=
  ⟨h.td.below hb, h.bl.trans (hb.mono h.bl.size), h.fl, h.lay.belowAll hb, own_below h.own hb, h.far, h.bd, ⟨h.n0.1, Nat.le_trans h.n0.2 hb.size⟩⟩
theorem AA.grow {w wr W : World} {T : Nat} {F F' : List Nat} {D : Nat} {y y' : TxS} {Bd : List Nat} {x : DevS} {N0 I : Nat} {v : Value} {l : List Int} (h : AA w wr T F D y Bd x N0 I v l) (ht : TxAt W T F' D y') (g : Grow wr F W F') : AA w W T F' D y' Bd x N0 I v l :=
  ⟨h.td.grow ht g, h.bl.trans (g.below h.bl.size fun b hb => Nat.le_of_lt (h.fl b hb)), fun b hb => by
    rcases g.new b hb with e | e
    · exact h.fl b e
    · have := h.n0; omega, (g.blk h.lay fun hm => by have := h.fl _ hm; omega), own_block h.own fun q hq => g.keep.block q (own_lt h.own q hq).2 (h.far q hq), fun q hq => g.notin (h.far q hq) (own_lt h.own q hq).2, h.bd, ⟨h.n0.1, Nat.le_trans h.n0.2 g.keep.size⟩⟩
theorem AA.app {w wr wX W : World} {T : Nat} {F : List Nat} {D : Nat} {y : TxS} {Bd : List Nat} {x : DevS} {N0 I : Nat} {v v' : Value} {l : List Int} {a : Int} (h : AA w wr T F D y Bd x N0 I v l) (hb : Below wr.heap.size wr wX) (g : wX.grownBy W v.ownBlock)
    (ho : W.ownsRow N0 3 1 v' (l.length + 1) (l.map (.int .i64) ++ [.int .i64 a])) (hat : v'.ownBlock = v.ownBlock ∨ v'.ownBlock = some wX.heap.size) : AA w W T F D y Bd x N0 I v' (l ++ [a]) := by
  have hX := h.below hb
  have hlt := (fun b (hb : b ∈ F ++ Bd) => (List.mem_append.1 hb).elim (fun hb => (hX.td.tx.lt b hb).2) (fun hb => (hX.td.dev.lt b hb).2) : ∀ b ∈ F ++ Bd, b < wX.heap.size)
  refine ⟨hX.td.keep (fun b hm => g.block b ?_ fun e => ?_) g.size, hX.bl.grown g hX.bl.size fun k hk => Nat.le_trans (Nat.le_of_lt h.n0.1) (own_lt hX.own k hk).1, h.fl, hX.lay.grown g fun e => ?_, ?_, fun q hq hm => ?_, h.bd, ⟨h.n0.1, Nat.le_trans hX.n0.2 g.size⟩⟩
  · rcases hm with hm | hm | rfl
    · exact hlt b (List.mem_append_left _ hm)
    · exact hlt b (List.mem_append_right _ hm)
    · have := hX.n0; omega
  · have h1 := (own_lt hX.own b e.symm).1
    rcases hm with hm | hm | rfl
    · exact h.far b e.symm hm
    · have := h.bd b hm; omega
    · have := h.n0; omega
  · have h1 := (own_lt hX.own _ e.symm).1
    have := h.n0; omega
  · rw [List.length_append, List.map_append]; exact ho
  · rcases hat with e | e
    · exact h.far q (e ▸ hq) hm
    · rw [e] at hq
      have := hlt q (List.mem_append_left _ hm)
      cases hq
      omega
theorem reads_one (w : World) (a : Int) : Reads (w.alloc (.cells #[.int .i64 a] 3)) (some ⟨w.heap.size, 0, none⟩) [.int .i64 a] := by
  have := Blk.new w 3 #[.int .i64 a]
  exact .inr ⟨_, 0, rfl, this.lt, fun k u hu => by rw [Nat.zero_add]; exact (this.cells k).trans (by simpa using hu)⟩

set_option maxRecDepth 100000 in
set_option maxHeartbeats 8000000 in
theorem inodesAllocs_any (b u : Int) (hb : 0 ≤ b ∧ b ≤ 255) (hu : 0 ≤ u ∧ u < 18446744073709551616) (w : World) (hH : HalfAt w) :
    Calls Tryz.prog 6 #[.int .u8 b, .int .u64 u] w fun e w' => e = .returned (.bool true) ∧ Below w.heap.size w w' := by
  have hp0 := hH.1
  have HH := Lib.hid hH
  obtain ⟨I, hI⟩ : ∃ I : Nat, (1 : Int) + b % 60 = I := ⟨(1 + b % 60).toNat, by omega⟩
  have hI1 : 1 ≤ I ∧ I ≤ 60 := by omega
  have g1 : b.tmod 60 = b % 60 := Int.tmod_eq_emod_of_nonneg hb.1
  have g2 : IntKind.i64.wrap b = b := by rw [IntKind.wrap_i64]; omega
  have g3 : IntKind.i64.wrap (b % 60) = b % 60 := by rw [IntKind.wrap_i64]; omega
  have g4 : IntKind.i64.wrap (1 + b % 60) = 1 + b % 60 := by rw [IntKind.wrap_i64]; omega
  obtain ⟨U, hU⟩ : ∃ U : Nat, u = U := ⟨u.toNat, by omega⟩
  subst hU
  have hU2 : U < 18446744073709551616 := by omega
  obtain ⟨i0, hi, hz0, hz1, hz2⟩ := info_parts Tryz.info3
  obtain ⟨wA, hA⟩ : ∃ wA, wA = w.alloc (.cells #[.int .i64 256, .int .i64 96, .int .i64 I] 23) := ⟨_, rfl⟩
  have bA : Blk wA w.heap.size 23 #[.int .i64 256, .int .i64 96, .int .i64 I] := by rw [hA]; exact Blk.new _ _ _
  have BA : Below w.heap.size w wA := by rw [hA]; exact (Below.refl _ _).alloc (Nat.le_refl _) _
  have zA : w.heap.size < wA.heap.size := bA.lt
  have hbg := begun11_fresh 256 96 I (rgA hI1).1 wA (HH.out.below BA hp0)
  have cA := bA.cells
  have lA := bA.lt
  have HI := Lib.hid hI1
  have HU := Lib.hid hU2
  clear hH hI1 hu hU2
  go_enter Tryz.func6, Tryz.ntmps6
  go_wp2_with fail
  rw [← hA]
  clear hA
  refine hbg.mono ?_
  rintro e w2 ⟨D, T, F, Bd, x, rfl, hF, htd, hb2, hFl, hBl⟩
  have h2 : AA w w2 T F D (freeTx 256 96 I) Bd x w2.heap.size I (.slice none 0 0) [] :=
    ⟨htd, BA.trans (hb2.mono BA.size), fun b hm => by have := hFl b hm; omega, bA.belowAll hb2, World.ownsRow_nil _ _ _ _, (fun g h => by cases h), fun b hm => (htd.dev.lt b hm).2, ⟨by have := hb2.size; omega, Nat.le_refl _⟩⟩
  have hP := putA_begin HI.out U hF
  generalize w2.heap.size = N0 at h2
  clear hbg cA lA bA BA hF htd hb2 hFl hBl zA
  go_wp2_with fail
  go_loopw [1, 9, 10] (fun q1 v q wr => ∃ (n m : Nat) (F : List Nat) (y : TxS), m = n + 1 ∧ n ≤ I ∧ q1 = .int .u64 ((U / 2 ^ n : Nat) : Int) ∧ q = .int .i64 m ∧ AA w wr T F D y Bd x N0 I v (frL U n) ∧ PutA I U n y x) (fun _ _ q _ => I + 1 - (RowKit.intOf q).toNat)
  case atStart => exact ⟨0, 1, F, _, rfl, Nat.zero_le _, by simp, rfl, h2, hP⟩
  case round =>
    obtain ⟨n, m, F, y, hm, hn, rfl, rfl, ha, hP⟩ := hrel
    clear h2
    obtain ⟨fa, fc, rfl⟩ := own_slice ha.own
    have cL := ha.lay.cells
    have lL := ha.lay.lt
    by_cases hlt : n < I
    · have d1 : (m : Int) ≤ I := by omega
      obtain ⟨V, hV⟩ : ∃ V, V = U / 2 ^ n := ⟨_, rfl⟩
      have hV2 : V < 18446744073709551616 := by rw [hV]; exact Nat.lt_of_le_of_lt (Nat.div_le_self _ _) HU.out
      have hV3 : V / 2 = U / 2 ^ (n + 1) := by rw [hV, Nat.div_div_eq_div_mul, Nat.pow_succ]
      have hbit : bitU U n = (V % 2 == 1) := by rw [hV]; rfl
      rw [← hV]
      have e1 : (V : Int).tmod 2 = (V : Int) % 2 := Int.tmod_eq_emod_of_nonneg (by omega)
      have e2 : IntKind.u64.wrap ((V : Int) % 2) = (V : Int) % 2 := by rw [IntKind.wrap_u64]; omega
      have e3 : (V : Int).tdiv 2 = (V : Int) / 2 := Int.tdiv_eq_ediv_of_nonneg (by omega)
      have e4 : IntKind.u64.wrap ((V : Int) / 2) = (V : Int) / 2 := by rw [IntKind.wrap_u64]; omega
      have HV := Lib.hid (And.intro hV hV3)
      have HM := Lib.hid hm
      clear hV hV3 hm
      by_cases hodd : V % 2 = 1
      · have e5 : ((V : Int) % 2 == 1) = true := by simp; omega
        have hbt : bitU U n = true := by rw [hbit]; simpa using hodd
        obtain ⟨p1, p2⟩ := putA_set hP ha.td.tx.ok HI.out hlt hbt
        have hst : y.stateE = 0 := AtA.st hP
        have hPt := fun W (hb : Below wr.heap.size wr W) => Put_tx encodeAll T F D y (m : Int) (fileI 0 []) none 0 none 0 W (ha.td.tx.below hb) hst (inoIn_nil W 0)
        rw [show ((n : Int) + 1) = (m : Int) by have := HM.out; omega] at p1 p2
        rw [p1] at hPt
        have HPT := Lib.hid hPt
        have hfl : frL U (n + 1) = frL U n := by conv => lhs; unfold frL; rw [if_pos hbt]
        have HFL := Lib.hid hfl
        have HP2 := Lib.hid p2
        clear hP p1 p2 hst hPt hbt hbit hodd hfl hV2
        go_wp2_with fail
        refine (file_any 0 none 0 0 wr).mono ?_
        rintro e w3 ⟨rfl, hb3⟩
        have ha3 := ha.below hb3
        have hpt := HPT.out w3 hb3
        clear cL lL ha
        go_wp2_with fail
        refine hpt.mono ?_
        rintro e w4 ⟨rfl, F', ht4, hg4⟩
        have ha4 := ha3.grow ht4 hg4
        clear hpt HPT ha3 ht4 hg4 hb3
        go_wp2_with fail
        go_roundw
        case rel => exact ⟨n + 1, m + 1, F', _, by have := HM.out; omega, by omega, by rw [← HV.out.2]; simp, by go_num, by rw [HFL.out]; exact ha4, HP2.out⟩
        case measure => simp [RowKit.intOf]; omega
      · have e5 : ((V : Int) % 2 == 1) = false := by simp; omega
        have hbt : bitU U n = false := by rw [hbit]; simpa using hodd
        have p2 := putA_skip hP hbt
        have hbt2 : ¬ bitU U n = true := by rw [hbt]; simp
        have hfl : frL U (n + 1) = frL U n ++ [(m : Int)] := by
          conv => lhs; unfold frL; rw [if_neg hbt2]
          have := HM.out
          rw [show ((n : Int) + 1) = (m : Int) by omega]
        have HFL := Lib.hid hfl
        have HP2 := Lib.hid p2
        obtain ⟨wX, hX⟩ : ∃ wX, wX = wr.alloc (.cells #[.int .i64 (m : Int)] 3) := ⟨_, rfl⟩
        have rX : Reads wX (some ⟨wr.heap.size, 0, none⟩) [.int .i64 (m : Int)] := by rw [hX]; exact reads_one _ _
        have bX : Below wr.heap.size wr wX := by rw [hX]; exact (Below.refl _ _).alloc (Nat.le_refl _) _
        have haX := ha.below bX
        have hoX := haX.own
        have hle := frL_le U n
        have hnX := haX.n0
        have HX := Lib.hid hX
        clear hP p2 hbt hbt2 hbit hodd hfl hV2 hX
        go_wp2_with (at_builtin; rw [← HX.out]; refine wpList_append_any _ rfl (.tmp 41) (.tmp 43) _ rfl N0 3 i0 (.int .i64 0) 8 Tryz.underlying24 hi hz0 hz1 hz2 rfl (.slice fa (frL U n).length fc) _ _ rfl hoX (some ⟨wr.heap.size, 0, none⟩) 1 1 [.int .i64 (m : Int)] rfl rfl (fun h => by cases h) rX (by simp [Value.oneCell']) (by simp only [maxLen]; omega) (by omega) (by omega) ?_; intro v' w4 hown hgrow hat; have ha4 := ha.app bX hgrow hown hat)
        go_roundw
        case rel => exact ⟨n + 1, m + 1, F, y, by have := HM.out; omega, by omega, by rw [← HV.out.2]; simp, by go_num, by rw [HFL.out]; exact ha4, HP2.out⟩
        case measure => simp [RowKit.intOf]; omega
    · obtain rfl : n = I := by omega
      have d1 : ¬ (m : Int) ≤ n := by omega
      have hA0 := alA_begin hP
      clear hP hm
      have hle := frL_le U n
      have HLE := Lib.hid hle
      obtain ⟨ln, hln⟩ : ∃ ln, ln = (frL U n).length := ⟨_, rfl⟩
      have HLN := Lib.hid hln
      rw [← hln]
      have ha0 : AA w wr T F D y Bd x N0 n (.slice fa ln fc) (frL U n) := by rw [hln]; exact ha
      clear ha hln hle
      go_wp2_with fail
      go_loopw [11] (fun q wq => ∃ (k : Nat) (F : List Nat) (y : TxS), k ≤ ln ∧ q = .int .i64 k ∧ AA w wq T F D y Bd x N0 n (.slice fa ln fc) (frL U n) ∧ AlA n U k y x) (fun q _ => ln + 1 - (RowKit.intOf q).toNat)
      case atStart => exact ⟨0, F, y, Nat.zero_le _, rfl, ha0, hA0⟩
      case round =>
        obtain ⟨k, F2, y2, hk, rfl, hb, hAl⟩ := hrel
        clear ha0 hA0
        have d2 : (k : Int) ≤ ln := by omega
        have hst : y2.stateE = 0 := AtA.st hAl
        obtain ⟨wX, hX⟩ : ∃ wX, wX = wr.alloc (.cells #[.int .i64 (k : Int)] 3) := ⟨_, rfl⟩
        have nX : Blk wX wr.heap.size 3 #[.int .i64 (k : Int)] := by rw [hX]; exact Blk.new _ _ _
        have bX : Below wr.heap.size wr wX := by rw [hX]; exact (Below.refl _ _).alloc (Nat.le_refl _) _
        have hbX := hb.below bX
        have HX := Lib.hid hX
        clear hX hb bX
        have hAT := fun W (hb : Below wX.heap.size wX W) => Alloc_tx decodeAll encodeAll T F2 D y2 Bd x (fileI 1 [(k : Int)]) (some ⟨wr.heap.size, 0, none⟩) 1 none 0 W (hbX.td.tx.below hb) (hbX.td.dev.below hb) hst (inoIn_new (nX.belowAll hb) (by simp))
        by_cases hkl : k < ln
        · have hke : k < (frL U n).length := by rw [← HLN.out]; exact hkl
          obtain ⟨z, hz, hz2⟩ := alA_step hAl hbX.td.tx.ok HI.out hke
          rw [hz] at hAT
          have HAT := Lib.hid hAT
          have HZ := Lib.hid hz2
          have d3 : ((k : Int) == (ln : Int)) = false := by simp; omega
          have d4 : (k : Int) < ln := by omega
          have hk60 : (k : Int) < 60 := by have := HLE.out; have := HI.out; have := HLN.out; omega
          clear hAl hst hAT hz hz2
          go_wp2_with fail
          rw [← HX.out]
          refine (file_any 1 (some ⟨wr.heap.size, 0, none⟩) 1 1 wX).mono ?_
          rintro e w3 ⟨rfl, hb3⟩
          have hat := HAT.out w3 hb3
          have hb4 := hbX.below hb3
          clear HAT hb3 nX HX
          go_wp2_with fail
          refine hat.mono ?_
          rintro e w4 ⟨rfl, F4, ht4, hg4⟩
          have hb5 := hb4.grow ht4 hg4
          clear hat ht4 hg4 hb4 hbX
          have ho5 := hb5.own
          rw [← HLN.out] at ho5
          have hRd := Reads.of_own ho5
          obtain ⟨gb, go_, rfl, -, hc⟩ := hRd.at_ (k := k) (by simpa using hke)
          rw [List.getElem_map] at hc
          generalize (frL U n)[k] = a at hc
          have hne : (a != a) = false := by simp
          go_wp2_with fail
          go_roundw
          case rel => exact ⟨k + 1, F4, z, by omega, by go_num, hb5, HZ.out⟩
          case measure => simp [RowKit.intOf]; omega
        · obtain rfl : k = ln := by omega
          have hz := alA_end (y := y2) (x := x) (u := U) (by rw [← HLN.out]; exact hAl) HI.out
          rw [← HLN.out] at hz
          rw [hz] at hAT
          have HAT := Lib.hid hAT
          have d3 : ((k : Int) == (k : Int)) = true := by simp
          clear hAl hst hAT hz
          go_wp2_with fail
          rw [← HX.out]
          refine (file_any 1 (some ⟨wr.heap.size, 0, none⟩) 1 1 wX).mono ?_
          rintro e w3 ⟨rfl, hb3⟩
          have hat := HAT.out w3 hb3
          have hb4 := hbX.below hb3
          clear HAT hb3 nX HX
          go_wp2_with fail
          refine hat.mono ?_
          rintro e w4 ⟨rfl, F4, ht4, hg4⟩
          have hb5 := hb4.grow ht4 hg4
          clear hat ht4 hg4 hb4 hbX
          have hsh := shown11_any w4 (HH.out.below hb5.bl hp0)
          go_wp2_with fail
          refine hsh.mono ?_
          rintro e w5 ⟨rfl, hb6⟩
          go_wp2_with fail
          go_ret
          exact ⟨rfl, hb5.bl.trans (hb6.mono hb5.bl.size)⟩
end Go.Proofs.YtjocnooekgnedaaGreatDoor
/- P11.7: InodesAllocs: the row proved, and its tied card. -/
namespace Go.Proofs.YtjocnooekgnedaaGreatDoor
open Go.ChangeShapes Go.WideShapes Go.ChangeAt Go.RowKit Go.Joins Go.Deep

set_option maxRecDepth 100000 in
theorem inodesAllocs_lifted (os : Os) (started : os.Started) (H : Type) (enc : TypeId × Value → H) :
    ReturnsInHanded {} Tryz.checked os 6 .any (fun w args => (Rows.inodesAllocsSpec.pre enc Tryz.prog Tryz.f6 [] false w args ∧ laidMetH Tryz.prog half1 w) ∧ sizedMet enc Tryz.prog Tryz.f6 (OpenSpec.ofChange Rows.inodesAllocsSpec) false w args)
      (Rows.inodesAllocsSpec.post enc Tryz.prog Tryz.f6 false true false false) := by
  refine returnsInHanded_of_change_and (C := Tryz.checked) (X := fun w _ => laidMetH Tryz.prog half1 w) (fun _ _ _ hh h => h.of_heap hh) Tryz.own started (by kernel_rfl) Tryz.func6
    (ChangeSpec.witness_shaped (enc := enc) (C := Tryz.checked) (os := os) (X := fun w _ => laidMetH Tryz.prog half1 w) false (World.doorLaid Tryz.prog 400 os) #[.int .u8 0, .int .u64 0] 8 rfl (World.shaped_of_RefB (by kernel_rfl) (by kernel_rfl)) (by kernel_rfl) (by kernel_rfl) (by kernel_rfl) (door_met os _)) ?_
  intro W base args ds gs before hval0 hW _ _ hL _
  have hval : ∀ (j : Nat) t v, Tryz.f6.params[j]? = some t → args[j]? = some v → Value.okWide Tryz.prog W .any base t v := hval0
  have hW' := hW
  obtain ⟨p, q, hA0, hV, rfl, hfz, hnd⟩ := hW
  have hA : DataW.TrodAll enc Tryz.prog W 0 (fun _ => true) true Tryz.f6.params.toList args.toList ds p := hA0
  rw [Tryz.params6] at hA hval
  obtain ⟨v0, v1, d0, d1, p0, p1, rfl, rfl, rfl, h0, h1⟩ := trodAll_two hA
  obtain ⟨rfl, rfl⟩ := trodVars_none hV
  have hH := half_of_laid hL
  have h0k := h0
  have h1k := h1
  clear hA0 hval0
  simp only [List.append_nil] at hW'
  have hlt0 : ∀ x ∈ p0, x.block < W.heap.size := fun x hx => by simpa using hW'.lt x (by simp [hx])
  have hlt1 : ∀ x ∈ p1, x.block < W.heap.size := fun x hx => by simpa using hW'.lt x (by simp [hx])
  obtain ⟨b, rfl, rfl, _, hw0⟩ := open_int Tryz.underlying5 (hval 0 5 v0 rfl rfl) h0
  obtain ⟨u, rfl, rfl, _, hw1⟩ := open_int Tryz.underlying40 (hval 1 40 v1 rfl rfl) h1
  refine (inodesAllocs_any b u (wf_u8_iff hw0) (wf_u64_iff hw1) W hH).mono fun e W' ⟨he, hnx⟩ => ?_
  subst he
  refine ⟨_, rfl, _, _, _, [], p0 ++ p1, [], hW', ?_, ?_, rfl, hnx.frame _, fun h => by cases h⟩
  · exact trodAll_mk1 (shut_bool Tryz.underlying4 true)
  · exact trodAll_mk2 (Below.trod Tryz.laidOut (by kernel_rfl) (of_decide_eq_true (by kernel_rfl)) h0k hnx hlt0) (Below.trod Tryz.laidOut (by kernel_rfl) (of_decide_eq_true (by kernel_rfl)) h1k hnx hlt1)

theorem inodesAllocs_holds : Rows.InodesAllocsSaid :=
  OpenClaim.holds_of_wide 6 Tryz.f6 rfl rfl rfl rfl rfl rfl rfl ⟨rfl, rfl, rfl, rfl, rfl⟩ rfl rfl rfl rfl rfl (by kernel_rfl) Tryz.func6 (by kernel_rfl)
    (of_decide_eq_true (by kernel_rfl)) (by unfold Func.isWrapper; first | (rw [if_pos (by decide +kernel)]; kernel_rfl) | (rw [if_neg (by decide +kernel)]; exact ⟨rfl, rfl⟩))
    (fun os started H enc _ => inodesAllocs_lifted os started H enc)

theorem inodesAllocsCard_holds : Rows.InodesAllocsCardSaid :=
  Claim7.holds_tied_plain_at .later [] [.data] true (true, "e8801c0ce7bc0057fd6b75f0dfacb230b8a5f9fbd5fbfd86fb22cd5818a18b38") false
    inodesAllocs_holds (fun _ h => by cases h) (by kernel_rfl) (fun _ h => by cases h) inodesAllocs_row_tie rfl ⟨rfl, rfl⟩ (by kernel_rfl) rfl
    (fun f fn hf hfn => by
      obtain rfl : f = 6 := Option.some.inj ((show Tryz.prog.funcNamed "limewash/limewashlaw11.InodesAllocs" = some 6 by kernel_rfl).symm.trans hf) |>.symm
      obtain rfl : fn = Tryz.f6 := (Option.some.inj (Tryz.func6.symm.trans hfn)).symm
      exact ⟨by kernel_rfl, fun j t ht => by
        rw [Tryz.params6] at ht
        have hm : t ∈ [5, 40] := by simpa using Array.mem_of_getElem? ht
        have hall : ([5, 40].all fun u => !Tryz.prog.wantsStandIn u) = true := by kernel_rfl
        exact (show Tryz.prog.wantsStandIn t = false by simpa using List.all_eq_true.1 hall t hm)⟩)
    (by kernel_rfl)

#print axioms inodesAllocsCard_holds
end Go.Proofs.YtjocnooekgnedaaGreatDoor
