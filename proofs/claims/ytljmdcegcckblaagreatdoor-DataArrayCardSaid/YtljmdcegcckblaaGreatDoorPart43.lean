/- Parts of the proof, put together by program: N3, NP, NO, NQ, NR, DR. -/
import Derived.Test.YtljmdcegcckblaaGreatDoorPart42
import Derived.Test.YtljmdcegcckblaaGreatDoorPart01
import Derived.Test.YtljmdcegcckblaaGreatDoorProg
import Derived.ProofKit
import Derived.Deep.Slices
import Derived.Test.YtljmdcegcckblaaGreatDoorPart08
import Derived.Test.YtljmdcegcckblaaGreatDoorRows
import Derived.Test.YtljmdcegcckblaaGreatDoorCards
import Derived.Test.YtljmdcegcckblaaGreatDoorTie
import Derived.Lib.LaidTab
import Derived.Lib.SmallJoins
import Derived.LaidMore
import Derived.OpenShut
import Derived.Stop.Joined
import Derived.SevenTiedAt
/- The laws of layer 12: the example, walked. -/
namespace Go.Proofs.YtljmdcegcckblaaGreatDoor
open Go.RowKit Go.Maps

/-- A list which the transaction does not touch. -/
structure Keeps (w : World) (F : List Nat) (A : Option Addr) (c : Nat) (l : List Int) : Prop where
  sl : SlI w A c l
  out : ∀ a, A = some a → a.block ∉ F ∧ a.block < w.heap.size
theorem Keeps.grow {w w' : World} {F F' : List Nat} {A : Option Addr} {c : Nat} {l : List Int} (h : Keeps w F A c l) (g : Grow w F w' F') : Keeps w' F' A c l :=
  ⟨⟨h.sl.reads.growF g fun a e => (h.out a e).1, h.sl.nil, h.sl.cap⟩, fun a e => ⟨g.notin (h.out a e).1 (h.out a e).2, Nat.lt_of_lt_of_le (h.out a e).2 g.keep.size⟩⟩
theorem Keeps.below {w w' : World} {F : List Nat} {A : Option Addr} {c : Nat} {l : List Int} (h : Keeps w F A c l) (hb : Below w.heap.size w w') : Keeps w' F A c l :=
  ⟨h.sl.below hb, fun a e => ⟨(h.out a e).1, Nat.lt_of_lt_of_le (h.out a e).2 hb.size⟩⟩
theorem Keeps.of_did {w' : World} {base : Nat} {F' : List Nat} {v : Value} {l : List Int} (ho : w'.ownsRow base 3 1 v l.length (l.map (.int .i64))) (hf : ∀ q, v.ownBlock = some q → q ∉ F') : ∃ A c, v = .slice A l.length c ∧ Keeps w' F' A c l := by
  obtain ⟨A, c, rfl, hs⟩ := SlI.of_own ho
  exact ⟨A, c, rfl, hs, fun a e => by subst e; exact ⟨hf a.block rfl, (own_lt ho a.block rfl).2⟩⟩
theorem Grow.lo {w w' : World} {F F' : List Nat} {n : Nat} (g : Grow w F w' F') (hn : n ≤ w.heap.size) (hF : ∀ b ∈ F, n ≤ b) : ∀ b ∈ F', n ≤ b := fun b hb => by
  rcases g.new b hb with h | h
  · exact hF b h
  · omega
theorem slI_nil (w : World) : SlI w none 0 [] := ⟨.inl rfl, by simp, by simp⟩
theorem lettersB_size (c : Int) (n : Nat) : (lettersB c n).size = n := by unfold lettersB; rw [strOfNums_size]; simp

def AwakePost (w : World) (e : Ending) (w' : World) : Prop := e = .returned (.bool true) ∧ Below w.heap.size w w'

set_option maxRecDepth 100000 in
set_option maxHeartbeats 8000000 in
theorem awake_any (w : World) (hH : HalfAt w) : Calls Tryz.prog 8 #[] w (AwakePost w) := by
  have hbg : Calls Tryz.prog 9 #[.agg #[.int .i64 64, .int .i64 8, .int .i64 40]] w (BegunPost w 64 8 40) := begun_fresh 64 8 40 (by decide) w hH
  unfold AwakePost
  go_enter Tryz.func8, Tryz.ntmps8
  go_wp2_with fail
  refine hbg.mono ?_
  rintro e w1 ⟨D, T, F1, B, y, rfl, hF, h1, B1, hF1, hB1⟩
  rw [show freeTx 64 8 40 = yA from by unfold freeTx yA; rw [show (rgB 64 8 40).toNat = 14 from by decide]] at h1
  obtain ⟨a1, a2, a3, a4, a5, a6, a7, a8, a9, a10, a11, a12⟩ := awake_plain (x := y) (fun a h1 h2 => hF.blank a (by rcases h1 with h | h; exact .inl h; exact .inr (by omega)) h2)
  have hl1 := letters_any 97 100 (by omega) w1
  clear hbg hF
  go_wp2_with fail
  refine hl1.mono ?_
  rintro e w2 ⟨rfl, hb2⟩
  have h2 := h1.below hb2
  have B2 := B1.trans (hb2.mono B1.size)
  have c1 : Calls Tryz.prog 19 #[.pointer (some ⟨T, 0, none⟩), .int .i64 8, .slice none 0 0, .int .i64 0, .int .i64 0, .string (lettersB 97 100)] w2 (DwPost w2 T F1 D B y (aw1 y)) :=
    dwrite_tx T F1 D yA B y 8 none 0 [] (by simp) 0 0 (lettersB 97 100) (by rw [lettersB_size]; omega) (by omega) (by omega) w2 h2 (slI_nil w2)
  clear hl1 hb2 h1 B1
  go_wp2_with fail
  refine c1.mono ?_
  rintro e w3 ⟨v3, he, ho3, F3, h3, g3, f3⟩
  rw [a1, a3] at he
  rw [a2] at ho3
  subst he
  obtain ⟨A3, c3, rfl, k3⟩ := Keeps.of_did ho3 f3
  have B3 := B2.trans (g3.below B2.size hF1)
  have hF3 := g3.lo B2.size hF1
  clear c1 h2 B2 ho3 f3 g3 a1 a2 a3
  have c2 : Calls Tryz.prog 14 #[.pointer (some ⟨T, 0, none⟩), .int .i64 8, .slice A3 2 c3, .int .i64 100, .int .i64 94, .int .i64 9] w3 fun e w' => e = .returned (.tuple #[.string (aw2 y).1, .int .i64 (aw2 y).2]) ∧ Below w3.heap.size w3 w' :=
    dread_tx T F3 D (aw1 y).2.1 B y 8 A3 c3 [0, 1] (by simp) 100 94 9 (by omega) w3 h3.tx h3.dev k3.sl
  rw [a4] at c2
  go_wp2_with fail
  refine c2.mono ?_
  rintro e w4 ⟨rfl, hb4⟩
  have h4 := h3.below hb4
  have k4 := k3.below hb4
  have B4 := B3.trans (hb4.mono B3.size)
  clear c2 h3 k3 B3 hb4
  have c3' : Calls Tryz.prog 19 #[.pointer (some ⟨T, 0, none⟩), .int .i64 8, .slice A3 2 c3, .int .i64 100, .int .i64 96, .string ⟨#[98, 98]⟩] w4 (DwPost w4 T F3 D B y (aw3 y)) :=
    dwrite_tx T F3 D (aw1 y).2.1 B y 8 A3 c3 [0, 1] (by simp) 100 96 ⟨#[98, 98]⟩ (by decide) (by omega) (by omega) w4 h4 k4.sl
  go_wp2_with fail
  refine c3'.mono ?_
  rintro e w5 ⟨v5, he, ho5, F5, h5, g5, f5⟩
  rw [a5, a7] at he
  rw [a6] at ho5
  subst he
  obtain ⟨A5, c5, rfl, m5⟩ := Keeps.of_did ho5 f5
  have k5 := k4.grow g5
  have B5 := B4.trans (g5.below B4.size hF3)
  have hF5 := g5.lo B4.size hF3
  clear c3' h4 k4 B4 ho5 f5 g5 a4 a5 a6 a7
  have c4 : Calls Tryz.prog 33 #[.pointer (some ⟨T, 0, none⟩), .int .i64 8, .slice A5 2 c5, .int .i64 100, .int .i64 3] w5 (DcPost w5 T F5 D B y (aw4 y)) :=
    dcut_tx T F5 D (aw3 y).2.1 B y 8 A5 c5 [0, 1] (by simp) 100 3 (by omega) w5 h5 m5.sl
  go_wp2_with fail
  refine c4.mono ?_
  rintro e w6 ⟨v6, he, ho6, F6, h6, g6, f6⟩
  rw [a8] at he
  rw [a9] at ho6
  subst he
  obtain ⟨A6, c6, rfl, n6⟩ := Keeps.of_did ho6 f6
  have k6 := k5.grow g6
  have m6 := m5.grow g6
  have B6 := B5.trans (g6.below B5.size hF5)
  have hF6 := g6.lo B5.size hF5
  clear c4 h5 k5 m5 B5 ho6 f6 g6 a8 a9
  have c5' : Calls Tryz.prog 33 #[.pointer (some ⟨T, 0, none⟩), .int .i64 8, .slice A6 1 c6, .int .i64 3, .int .i64 5] w6 (DcPost w6 T F6 D B y (aw5 y)) :=
    dcut_tx T F6 D (aw4 y).2.1 B y 8 A6 c6 [0] (by simp) 3 5 (by omega) w6 h6 n6.sl
  go_wp2_with fail
  refine c5'.mono ?_
  rintro e w7 ⟨v7, he, ho7, F7, h7, g7, f7⟩
  rw [a10] at he
  rw [a11] at ho7
  subst he
  obtain ⟨A7, c7, rfl, p7⟩ := Keeps.of_did ho7 f7
  have k7 := (k6.grow g7).sl
  have m7 := (m6.grow g7).sl
  have n7 := (n6.grow g7).sl
  have B7 := B6.trans (g7.below B6.size hF6)
  have d7 := p7.sl
  clear c5' h6 k6 m6 n6 B6 ho7 f7 g7 a10 a11
  have c6' : Calls Tryz.prog 14 #[.pointer (some ⟨T, 0, none⟩), .int .i64 8, .slice A7 1 c7, .int .i64 5, .int .i64 0, .int .i64 768] w7 fun e w' => e = .returned (.tuple #[.string (aw6 y).1, .int .i64 (aw6 y).2]) ∧ Below w7.heap.size w7 w' :=
    dread_tx T F7 D (aw5 y).2.1 B y 8 A7 c7 [0] (by simp) 5 0 768 (by omega) w7 h7.tx h7.dev d7
  rw [a12] at c6'
  go_wp2_with fail
  refine c6'.mono ?_
  rintro e w8 ⟨rfl, hb8⟩
  have k8 := k7.below hb8
  have m8 := m7.below hb8
  have n8 := n7.below hb8
  have d8 := d7.below hb8
  have B8 := B7.trans (hb8.mono B7.size)
  clear c6' k7 m7 n7 d7 h7 p7 B7 hb8 a12 hF1 hF3 hF5 hF6 hB1
  obtain ⟨w9, hw9⟩ : ∃ w9, w9 = w8.alloc (.cells #[.int .i64 0, .int .i64 1] 3) := ⟨_, rfl⟩
  have b9 : Below w8.heap.size w8 w9 := by rw [hw9]; (repeat' (first | (with_reducible exact Below.refl _ _) | (with_reducible assumption) | (with_reducible refine Below.alloc ?_ ?_ _) | (with_reducible refine Below.drew ?_) | (with_reducible refine below_drewN' ?_ _) | (with_reducible refine Below.setCell ?_ ?_ _) | (with_reducible exact Nat.le_refl _) | omega | (simp; done) | (simp; omega)))
  have r9 : Reads w9 (some ⟨w8.heap.size, 0, none⟩) ([0, 1].map (.int .i64)) := by
    have := Blk.new w8 3 #[.int .i64 0, .int .i64 1]
    rw [← hw9] at this
    exact .inr ⟨_, 0, rfl, this.lt, fun k u hu => by rw [Nat.zero_add]; exact (this.cells k).trans (by simpa using hu)⟩
  have HW := Lib.hid hw9
  clear hw9
  go_wp2_with fail
  rw [← HW.out]
  have s1 : Calls Tryz.prog 26 #[.slice A3 2 c3, .slice (some ⟨w8.heap.size, 0, none⟩) 2 2] w9 fun e w' => e = .returned (.bool true) ∧ Below w9.heap.size w9 w' := by
    simpa using sameInts_any A3 (some ⟨w8.heap.size, 0, none⟩) c3 2 [0, 1] [0, 1] (by simp) (by simp) w9 (k8.below b9).reads r9
  refine s1.mono ?_
  rintro e w10 ⟨rfl, hb10⟩
  have B10 := B8.trans ((b9.trans (hb10.mono b9.size)).mono B8.size)
  have s2 : Calls Tryz.prog 26 #[.slice A5 2 c5, .slice A3 2 c3] w10 fun e w' => e = .returned (.bool true) ∧ Below w10.heap.size w10 w' := by
    simpa using sameInts_any A5 A3 c5 c3 [0, 1] [0, 1] (by simp) (by simp) w10 (((m8.below b9).below hb10).reads) (((k8.below b9).below hb10).reads)
  have n10 := (n8.below b9).below hb10
  have d10 := (d8.below b9).below hb10
  clear s1 HW r9 hb10 k8 m8 n8 d8 b9 B8
  go_wp2_with fail
  refine s2.mono ?_
  rintro e w11 ⟨rfl, hb11⟩
  have B11 := B10.trans (hb11.mono B10.size)
  have n11 := n10.below hb11
  have d11 := d10.below hb11
  obtain ⟨w12, hw12⟩ : ∃ w12, w12 = w11.alloc (.cells #[.int .i64 0] 3) := ⟨_, rfl⟩
  have b12 : Below w11.heap.size w11 w12 := by rw [hw12]; (repeat' (first | (with_reducible exact Below.refl _ _) | (with_reducible assumption) | (with_reducible refine Below.alloc ?_ ?_ _) | (with_reducible refine Below.drew ?_) | (with_reducible refine below_drewN' ?_ _) | (with_reducible refine Below.setCell ?_ ?_ _) | (with_reducible exact Nat.le_refl _) | omega | (simp; done) | (simp; omega)))
  have r12 : Reads w12 (some ⟨w11.heap.size, 0, none⟩) ([0].map (.int .i64)) := by
    have := Blk.new w11 3 #[.int .i64 0]
    rw [← hw12] at this
    exact .inr ⟨_, 0, rfl, this.lt, fun k u hu => by rw [Nat.zero_add]; exact (this.cells k).trans (by simpa using hu)⟩
  have HW := Lib.hid hw12
  clear s2 hw12 n10 d10 B10 hb11
  go_wp2_with fail
  rw [← HW.out]
  have s3 : Calls Tryz.prog 26 #[.slice A6 1 c6, .slice (some ⟨w11.heap.size, 0, none⟩) 1 1] w12 fun e w' => e = .returned (.bool true) ∧ Below w12.heap.size w12 w' := by
    simpa using sameInts_any A6 (some ⟨w11.heap.size, 0, none⟩) c6 1 [0] [0] (by simp) (by simp) w12 (n11.below b12).reads r12
  refine s3.mono ?_
  rintro e w13 ⟨rfl, hb13⟩
  have B13 := B11.trans ((b12.trans (hb13.mono b12.size)).mono B11.size)
  have s4 : Calls Tryz.prog 26 #[.slice A7 1 c7, .slice A6 1 c6] w13 fun e w' => e = .returned (.bool true) ∧ Below w13.heap.size w13 w' := by
    simpa using sameInts_any A7 A6 c7 c6 [0] [0] (by simp) (by simp) w13 (((d11.below b12).below hb13).reads) (((n11.below b12).below hb13).reads)
  clear s3 HW r12 hb13 n11 d11 b12 B11
  go_wp2_with fail
  refine s4.mono ?_
  rintro e w14 ⟨rfl, hb14⟩
  have B14 := B13.trans (hb14.mono B13.size)
  clear s4 hb14 B13
  go_wp2_with fail
  go_ret
  exact ⟨rfl, B14⟩
end Go.Proofs.YtljmdcegcckblaaGreatDoor
/- Arguments opened: a slice of one-cell elements as a list. -/
namespace Go.Proofs.YtljmdcegcckblaaGreatDoor
open Go.ChangeShapes Go.WideShapes Go.ChangeAt Go.RowKit Go.Deep

theorem list_of {α : Type} (q : Nat → α → Prop) (n : Nat) (h : ∀ i, i < n → ∃ a, q i a) : ∃ xs : List α, xs.length = n ∧ ∀ i (hi : i < xs.length), q i xs[i] := by
  induction n with
  | zero => exact ⟨[], rfl, fun i hi => by simp at hi⟩
  | succ n ih =>
    obtain ⟨xs, hl, hx⟩ := ih (fun i hi => h i (by omega))
    obtain ⟨a, ha⟩ := h n (by omega)
    refine ⟨xs ++ [a], by simp [hl], fun i hi => ?_⟩
    by_cases hin : i < xs.length
    · rw [List.getElem_append_left hin]; exact hx i hin
    · have : i = n := by simp at hi; omega
      subst this
      rw [List.getElem_append_right (by omega)]
      simpa [hl] using ha

/-- A slice of one-cell elements that came in. -/
theorem open_cells {H : Type} {enc : TypeId × Value → H} {P : Program} {W : World} {α : Type} (mk : α → Value) {t e : TypeId} {fuel : Nat} {v : Value} {x : DataW H × List MemPlace} (ht : P.underlying t = some (.slice e)) (hC : P.cellsOf e = 1)
    (hel : ∀ n cs x, DataW.trod enc P W 0 (fun _ => true) true n e cs = some x → ∃ a, cs = [mk a])
    (h : DataW.trod enc P W 0 (fun _ => true) true fuel t [v] = some x) :
    ∃ (A : Option Addr) (n c : Nat) (xs : List α), v = .slice A n c ∧ xs.length = n ∧ Reads W A (xs.map mk) ∧ n ≤ c ∧ c ≤ maxLen ∧ (A = none → n = 0 ∧ c = 0) := by
  rcases open_slice ht h with ⟨h0, _⟩ | ⟨a, len, cap, m, n, D, Pl, hcs, hb, hl, hm, hmm, hx, hi⟩
  · simp only [List.cons.injEq, and_true] at h0
    subst h0
    exact ⟨none, 0, 0, [], rfl, rfl, Reads.nil, Nat.le_refl _, Nat.zero_le _, fun _ => ⟨rfl, rfl⟩⟩
  · simp only [List.cons.injEq, and_true] at hcs
    subst hcs
    simp only [if_true] at hmm
    have hat : ∀ i, i < len → ∃ u : α, W.cell? (a.add i) = some (mk u) := by
      intro i hi'
      obtain ⟨cs', hc, ht'⟩ := hi i (by omega)
      rw [hC, Nat.mul_one] at hc
      obtain ⟨u, rfl⟩ := hel n cs' _ ht'
      obtain ⟨_, _, hat⟩ := World.cells?_some hc
      have := hat 0 (by omega)
      refine ⟨u, ?_⟩
      simpa [Addr.add] using this
    obtain ⟨xs, hxl, hxs⟩ := list_of (fun i u => W.cell? (a.add i) = some (mk u)) len hat
    refine ⟨some a, len, cap, xs, rfl, hxl, ?_, hl, hm, fun h => by cases h⟩
    rcases Nat.eq_zero_or_pos len with h0 | h0
    · left
      have : xs = [] := List.eq_nil_of_length_eq_zero (by omega)
      simp [this]
    · right
      obtain ⟨b, off, spot⟩ := a
      have h1 := hxs 0 (by omega)
      have hspot : spot = none := by simpa [Addr.add] using World.cell?_spot h1
      subst hspot
      refine ⟨b, off, rfl, ?_, fun j u hu => ?_⟩
      · have := World.block_lt_of_cell? W _ h1
        simpa [Addr.add] using this
      · rw [List.getElem?_map] at hu
        by_cases hj : j < xs.length
        · rw [List.getElem?_eq_getElem hj, Option.map_some, Option.some.injEq] at hu
          subst hu
          have := hxs j hj
          unfold Addr.add at this
          split at this
          · rename_i hj0; subst hj0; simpa using this
          · exact this
        · rw [List.getElem?_eq_none (by omega)] at hu; simp at hu

end Go.Proofs.YtljmdcegcckblaaGreatDoor
/- Arguments opened: an act. -/
namespace Go.Proofs.YtljmdcegcckblaaGreatDoor
open Go.ChangeShapes Go.WideShapes Go.ChangeAt Go.RowKit Go.Deep

theorem Tryz.cellsInt : Tryz.prog.cellsOf 3 = 1 := by kernel_rfl
theorem Tryz.cellsU8 : Tryz.prog.cellsOf 5 = 1 := by kernel_rfl
theorem Tryz.cellsStr : Tryz.prog.cellsOf 9 = 1 := by kernel_rfl
theorem Tryz.cellsInts : Tryz.prog.cellsOf 34 = 1 := by kernel_rfl
theorem Tryz.cellsAct : Tryz.prog.cellsOf 41 = 8 := by kernel_rfl

section
variable {H : Type} {enc : TypeId × Value → H} {W : World}

set_option maxRecDepth 100000 in
theorem open_ints' {fuel : Nat} {v : Value} {x : DataW H × List MemPlace} (h : DataW.trod enc Tryz.prog W 0 (fun _ => true) true fuel 34 [v] = some x) :
    ∃ (A : Option Addr) (n c : Nat) (xs : List Int), v = .slice A n c ∧ xs.length = n ∧ Reads W A (xs.map (Value.int .i64)) ∧ n ≤ c ∧ c ≤ maxLen ∧ (A = none → n = 0 ∧ c = 0) :=
  open_cells (Value.int .i64) Tryz.underlying34 Tryz.cellsInt (fun n cs x hx => by obtain ⟨b, rfl, _⟩ := DataW.trod_int Tryz.underlying3 hx; exact ⟨b, rfl⟩) h

set_option maxRecDepth 100000 in
/-- An act as its cells. -/
theorem open_act_cells {fuel : Nat} {cs : List Value} (hsz : cs.length = 8) {x : DataW H × List MemPlace} (h : DataW.trod enc Tryz.prog W 0 (fun _ => true) true fuel 41 cs = some x) :
    ∃ (wh f kd off n size : Int) (A : Option Addr) (m c : Nat) (l : List Int) (s : ByteArray), cs = [.int .u8 wh, .int .u8 f, .int .i64 kd, .int .i64 off, .int .i64 n, .int .i64 size, .slice A m c, .string s] ∧
      (Lit.int .u8 wh).wf = true ∧ (Lit.int .u8 f).wf = true ∧ (Lit.int .i64 kd).wf = true ∧ (Lit.int .i64 off).wf = true ∧ (Lit.int .i64 n).wf = true ∧ (Lit.int .i64 size).wf = true ∧ l.length = m ∧ Reads W A (l.map (Value.int .i64)) ∧ m ≤ c ∧ c ≤ maxLen ∧ (A = none → m = 0 ∧ c = 0) ∧ s.size ≤ maxLen := by
  match cs, hsz with
  | [c0, c1, c2, c3, c4, c5, c6, c7], _ =>
    obtain ⟨xs, n, _, _, _, hlen, hg⟩ := DataW.trod_struct Tryz.underlying41 h
    have g0 : DataW.trod enc Tryz.prog W 0 (fun _ => true) true n 5 [c0] = xs[0]? := by have := hg 0 _ rfl; simpa [Tryz.cellsU8, Value.cells] using this
    have g1 : DataW.trod enc Tryz.prog W 0 (fun _ => true) true n 5 [c1] = xs[1]? := by have := hg 1 _ rfl; simpa [Tryz.cellsU8, Value.cells] using this
    have g2 : DataW.trod enc Tryz.prog W 0 (fun _ => true) true n 3 [c2] = xs[2]? := by have := hg 2 _ rfl; simpa [Tryz.cellsInt, Value.cells] using this
    have g3 : DataW.trod enc Tryz.prog W 0 (fun _ => true) true n 3 [c3] = xs[3]? := by have := hg 3 _ rfl; simpa [Tryz.cellsInt, Value.cells] using this
    have g4 : DataW.trod enc Tryz.prog W 0 (fun _ => true) true n 3 [c4] = xs[4]? := by have := hg 4 _ rfl; simpa [Tryz.cellsInt, Value.cells] using this
    have g5 : DataW.trod enc Tryz.prog W 0 (fun _ => true) true n 3 [c5] = xs[5]? := by have := hg 5 _ rfl; simpa [Tryz.cellsInt, Value.cells] using this
    have g6 : DataW.trod enc Tryz.prog W 0 (fun _ => true) true n 34 [c6] = xs[6]? := by have := hg 6 _ rfl; simpa [Tryz.cellsInts, Value.cells] using this
    have g7 : DataW.trod enc Tryz.prog W 0 (fun _ => true) true n 9 [c7] = xs[7]? := by have := hg 7 _ rfl; simpa [Tryz.cellsStr, Value.cells] using this
    clear hg
    match xs, hlen with
    | [y0, y1, y2, y3, y4, y5, y6, y7], _ =>
      simp only [List.getElem?_cons_zero, List.getElem?_cons_succ] at g0 g1 g2 g3 g4 g5 g6 g7
      obtain ⟨a0, e0, _, w0⟩ := DataW.trod_int Tryz.underlying5 g0
      obtain ⟨a1, e1, _, w1⟩ := DataW.trod_int Tryz.underlying5 g1
      obtain ⟨a2, e2, _, w2⟩ := DataW.trod_int Tryz.underlying3 g2
      obtain ⟨a3, e3, _, w3⟩ := DataW.trod_int Tryz.underlying3 g3
      obtain ⟨a4, e4, _, w4⟩ := DataW.trod_int Tryz.underlying3 g4
      obtain ⟨a5, e5, _, w5⟩ := DataW.trod_int Tryz.underlying3 g5
      obtain ⟨s, e7, _, w7⟩ := DataW.trod_string Tryz.underlying9 g7
      simp at e0 e1 e2 e3 e4 e5 e7
      subst e0 e1 e2 e3 e4 e5 e7
      obtain ⟨A, m, c, l, rfl, q1, q2, q3, q4, q5⟩ := open_ints' g6
      exact ⟨a0, a1, a2, a3, a4, a5, A, m, c, l, s, rfl, w0, w1, w2, w3, w4, w5, q1, q2, q3, q4, q5, w7⟩

set_option maxRecDepth 100000 in
/-- An act that came in. -/
theorem open_act {r : Reach} {b0 : Nat} {v : Value} {d : DataW H} {p : List MemPlace} (hv : Value.okWide Tryz.prog W r b0 41 v) (h : DataW.Trod enc Tryz.prog W 0 (fun _ => true) true 41 v d p) :
    ∃ (wh f kd off n size : Int) (A : Option Addr) (m c : Nat) (s : ByteArray), v = .agg #[.int .u8 wh, .int .u8 f, .int .i64 kd, .int .i64 off, .int .i64 n, .int .i64 size, .slice A m c, .string s] ∧
      (Lit.int .u8 f).wf = true ∧ (Lit.int .i64 size).wf = true := by
  obtain ⟨cs, rfl, hsz⟩ := okWide_struct Tryz.underlying41 hv
  rw [Tryz.cellsAct] at hsz
  obtain ⟨l0⟩ := cs
  obtain ⟨fuel, hf⟩ := h
  obtain ⟨wh, f, kd, off, n, size, A, m, c, l, s, e, -, wf, -, -, -, wz, -⟩ := open_act_cells (cs := l0) hsz (by simpa [Value.cells] using hf)
  subst e
  exact ⟨wh, f, kd, off, n, size, A, m, c, s, rfl, wf, wz⟩
end
theorem wf_u8_iff {f : Int} (h : (Lit.int .u8 f).wf = true) : 0 ≤ f ∧ f ≤ 255 := by
  simp [Lit.wf, IntKind.min, IntKind.max, IntKind.bits, IntKind.signed] at h; omega
theorem wf_i64_iff {f : Int} (h : (Lit.int .i64 f).wf = true) : -9223372036854775808 ≤ f ∧ f ≤ 9223372036854775807 := by
  simp [Lit.wf, IntKind.min, IntKind.max, IntKind.bits, IntKind.signed] at h; omega

end Go.Proofs.YtljmdcegcckblaaGreatDoor
/- Arguments opened: a slice of structs as a list. -/
namespace Go.Proofs.YtljmdcegcckblaaGreatDoor
open Go.ChangeShapes Go.WideShapes Go.ChangeAt Go.RowKit Go.Deep

/-- A slice of elements of k cells that came in. -/
theorem open_rows {H : Type} {enc : TypeId × Value → H} {P : Program} {W : World} {α : Type} (mk : α → List Value) (good : α → Prop) (k : Nat) (hk : 0 < k) {t e : TypeId} {fuel : Nat} {v : Value} {x : DataW H × List MemPlace} (ht : P.underlying t = some (.slice e)) (hC : P.cellsOf e = k)
    (hel : ∀ n cs x, cs.length = k → DataW.trod enc P W 0 (fun _ => true) true n e cs = some x → ∃ a, cs = mk a ∧ good a)
    (h : DataW.trod enc P W 0 (fun _ => true) true fuel t [v] = some x) :
    ∃ (A : Option Addr) (n c : Nat) (xs : List α), v = .slice A n c ∧ xs.length = n ∧ Reads W A (xs.flatMap mk) ∧ (∀ a ∈ xs, (mk a).length = k ∧ good a) ∧ n ≤ c ∧ c ≤ maxLen ∧ (A = none → n = 0 ∧ c = 0) := by
  rcases open_slice ht h with ⟨h0, _⟩ | ⟨a, len, cap, m, n, D, Pl, hcs, hb, hl, hm, hmm, hx, hi⟩
  · simp only [List.cons.injEq, and_true] at h0
    subst h0
    exact ⟨none, 0, 0, [], rfl, rfl, Reads.nil, fun _ h => (by cases h), Nat.le_refl _, Nat.zero_le _, fun _ => ⟨rfl, rfl⟩⟩
  · simp only [List.cons.injEq, and_true] at hcs
    subst hcs
    simp only [if_true] at hmm
    have hat : ∀ i, i < len → ∃ u : α, (mk u).length = k ∧ good u ∧ ∀ j, j < k → W.cell? (a.add (i * k + j)) = (mk u)[j]? := by
      intro i hi'
      obtain ⟨cs', hc, ht'⟩ := hi i (by omega)
      rw [hC] at hc
      obtain ⟨_, hlen, hat⟩ := World.cells?_some hc
      obtain ⟨u, rfl, hg⟩ := hel n cs' _ hlen ht'
      exact ⟨u, hlen, hg, fun j hj => by rw [← Go.Deep.add_add]; exact hat j hj⟩
    obtain ⟨xs, hxl, hxs⟩ := list_of (fun i u => (mk u).length = k ∧ good u ∧ ∀ j, j < k → W.cell? (a.add (i * k + j)) = (mk u)[j]?) len hat
    have hgd : ∀ u ∈ xs, (mk u).length = k ∧ good u := fun u hu => by
      obtain ⟨i, hi', rfl⟩ := List.mem_iff_getElem.1 hu
      exact ⟨(hxs i hi').1, (hxs i hi').2.1⟩
    refine ⟨some a, len, cap, xs, rfl, hxl, ?_, hgd, hl, hm, fun h => by cases h⟩
    rcases Nat.eq_zero_or_pos len with h0 | h0
    · left
      have : xs = [] := List.eq_nil_of_length_eq_zero (by omega)
      simp [this]
    · right
      obtain ⟨b, off, spot⟩ := a
      have h1 := (hxs 0 (by omega)).2.2 0 hk
      have hv0 : ∃ u, (mk (xs[0]'(by omega)))[0]? = some u := ⟨_, List.getElem?_eq_getElem (by rw [(hxs 0 (by omega)).1]; exact hk)⟩
      obtain ⟨u0, hu0⟩ := hv0
      rw [hu0] at h1
      have hspot : spot = none := by simpa [Addr.add] using World.cell?_spot h1
      subst hspot
      refine ⟨b, off, rfl, ?_, fun j u hu => ?_⟩
      · have := World.block_lt_of_cell? W _ h1
        simpa [Addr.add] using this
      · have hjl : j < xs.length * k := by
          have hlt := (List.getElem?_eq_some_iff.1 hu).1
          have : (xs.flatMap mk).length = xs.length * k := by
            clear hu hlt hxl hxs hu0 h1
            induction xs with
            | nil => simp
            | cons y t ih => rw [List.flatMap_cons, List.length_append, (hgd y (by simp)).1, ih (fun u hu => hgd u (List.mem_cons_of_mem _ hu)), List.length_cons, Nat.add_mul, Nat.one_mul, Nat.add_comm]
          rwa [this] at hlt
        have hq : j / k < xs.length := by rw [Nat.div_lt_iff_lt_mul hk]; exact hjl
        have hr : j % k < k := Nat.mod_lt _ hk
        have e := flat_get (f := mk) (m := k) (fun s hs => (hgd s hs).1) hr hq
        have hj : j / k * k + j % k = j := by rw [Nat.mul_comm]; exact Nat.div_add_mod j k
        rw [hj, hu] at e
        have h2 := (hxs (j / k) hq).2.2 (j % k) hr
        rw [hj, ← e] at h2
        unfold Addr.add at h2
        split at h2
        · rename_i hj0; subst hj0; simpa using h2
        · exact h2

end Go.Proofs.YtljmdcegcckblaaGreatDoor
/- Arguments opened: acts. -/
namespace Go.Proofs.YtljmdcegcckblaaGreatDoor
open Go.ChangeShapes Go.WideShapes Go.ChangeAt Go.RowKit Go.Deep

/-- An act as it lies in memory. -/
structure ActV where
  wh : Int
  f : Int
  kd : Int
  off : Int
  n : Int
  size : Int
  A : Option Addr
  m : Nat
  c : Nat
  s : ByteArray
def actL (a : ActV) : List Value := [.int .u8 a.wh, .int .u8 a.f, .int .i64 a.kd, .int .i64 a.off, .int .i64 a.n, .int .i64 a.size, .slice a.A a.m a.c, .string a.s]
/-- What is known of one that came in. -/
structure ActOk (W : World) (a : ActV) : Prop where
  wh : 0 ≤ a.wh ∧ a.wh ≤ 255
  f : 0 ≤ a.f ∧ a.f ≤ 255
  kd : -9223372036854775808 ≤ a.kd ∧ a.kd ≤ 9223372036854775807
  off : -9223372036854775808 ≤ a.off ∧ a.off ≤ 9223372036854775807
  n : -9223372036854775808 ≤ a.n ∧ a.n ≤ 9223372036854775807
  size : -9223372036854775808 ≤ a.size ∧ a.size ≤ 9223372036854775807
  list : ∃ l : List Int, l.length = a.m ∧ Reads W a.A (l.map (.int .i64)) ∧ a.m ≤ a.c ∧ (a.A = none → a.m = 0 ∧ a.c = 0)
  str : a.s.size ≤ maxLen

set_option maxRecDepth 100000 in
theorem open_acts {H : Type} {enc : TypeId × Value → H} {W : World} {fuel : Nat} {v : Value} {x : DataW H × List MemPlace} (h : DataW.trod enc Tryz.prog W 0 (fun _ => true) true fuel 24 [v] = some x) :
    ∃ (A : Option Addr) (n c : Nat) (xs : List ActV), v = .slice A n c ∧ xs.length = n ∧ Reads W A (xs.flatMap actL) ∧ (∀ a ∈ xs, ActOk W a) ∧ n ≤ c ∧ c ≤ maxLen ∧ (A = none → n = 0 ∧ c = 0) := by
  obtain ⟨A, n, c, xs, h1, h2, h3, h4, h5⟩ := open_rows actL (ActOk W) 8 (by omega) Tryz.underlying24 Tryz.cellsAct (fun n cs x hsz hx => by
    obtain ⟨wh, f, kd, off, n', size, A, m, c, l, s, e, w0, w1, w2, w3, w4, w5, q1, q2, q3, -, q5, q6⟩ := open_act_cells hsz hx
    exact ⟨⟨wh, f, kd, off, n', size, A, m, c, s⟩, e, ⟨wf_u8_iff w0, wf_u8_iff w1, wf_i64_iff w2, wf_i64_iff w3, wf_i64_iff w4, wf_i64_iff w5, ⟨l, q1, q2, q3, q5⟩, q6⟩⟩) h
  exact ⟨A, n, c, xs, h1, h2, h3, fun a ha => (h4 a ha).2, h5⟩

end Go.Proofs.YtljmdcegcckblaaGreatDoor
/- The laws of layer 12: what their rows share. -/
namespace Go.Proofs.YtljmdcegcckblaaGreatDoor
open Go.ChangeShapes Go.WideShapes Go.ChangeAt Go.RowKit Go.Joins Go.Deep

theorem Tryz.own : ownKnob Tryz.prog.godebug = none := by kernel_rfl
theorem Tryz.laidOut : laidOutB Tryz.prog = true := by kernel_rfl
theorem gHalf : Tryz.prog.globalNamed "limewash/sums.half" = some 0 := by kernel_rfl
def half1 : List (String × DataW Unit) := [("limewash/sums.half", Rows.laid_limewash_sums_half)]

/-- The heap that the program's start leaves meets the condition. -/
theorem door_met (os : Os) (args : Array Value) : laidMetH Tryz.prog half1 ((World.doorLaid Tryz.prog 400 os).forCall (fun _ _ => 0) ⟨#[], args, []⟩).memory :=
  laidMetH_of_parts3 (fuel := 8) (laidMet_of_run' 8 (by kernel_rfl) (by kernel_rfl)) (by kernel_rfl) (by kernel_rfl)

theorem gHalfType : (Tryz.prog.globals[0]?).map (·.type) = some 256 := by kernel_rfl
theorem half_of_laid {W : World} (h : laidMetH Tryz.prog half1 W) : HalfAt W := by
  rw [MakeChecks.laidMetH_plain _ _ _ (by kernel_rfl)] at h
  have hT : Lib.TabIs Tryz.prog W "limewash/sums.half" .u32 halfL := Lib.tabIs_of_head (n := 16) (e := 126) gHalf gHalfType (by kernel_rfl) (by kernel_rfl) (by kernel_rfl) (by kernel_rfl) h
  have hc : ∀ j, j < 16 → W.cell? ⟨0, j, none⟩ = some (.int .u32 (halfL.getD j 0)) := fun j hj => hT.cell gHalf j hj
  exact ⟨block_lt_of_cell (hc 0 (by omega)), hc⟩

theorem Tryz.cellsStart : Tryz.prog.cellsOf 23 = 2 := by kernel_rfl
section
variable {H : Type} {enc : TypeId × Value → H} {W : World}
set_option maxRecDepth 100000 in
theorem open_start {r : Reach} {b0 : Nat} {v : Value} {d : DataW H} {p : List MemPlace} (hv : Value.okWide Tryz.prog W r b0 23 v) (h : DataW.Trod enc Tryz.prog W 0 (fun _ => true) true 23 v d p) :
    ∃ j i : Int, v = .agg #[.int .u8 j, .int .u8 i] ∧ (0 ≤ j ∧ j ≤ 255) ∧ (0 ≤ i ∧ i ≤ 255) := by
  obtain ⟨cs, rfl, hsz⟩ := okWide_struct Tryz.underlying23 hv
  rw [Tryz.cellsStart] at hsz
  obtain ⟨l0⟩ := cs
  obtain ⟨fuel, hf⟩ := h
  have hf2 : DataW.trod enc Tryz.prog W 0 (fun _ => true) true fuel 23 l0 = some (d, p) := by simpa [Value.cells] using hf
  match l0, hsz with
  | [c0, c1], _ =>
    obtain ⟨xs, n, _, _, _, hlen, hg⟩ := DataW.trod_struct Tryz.underlying23 hf2
    have g0 : DataW.trod enc Tryz.prog W 0 (fun _ => true) true n 5 [c0] = xs[0]? := by have := hg 0 _ rfl; simpa [Tryz.cellsU8, Value.cells] using this
    have g1 : DataW.trod enc Tryz.prog W 0 (fun _ => true) true n 5 [c1] = xs[1]? := by have := hg 1 _ rfl; simpa [Tryz.cellsU8, Value.cells] using this
    clear hg
    match xs, hlen with
    | [y0, y1], _ =>
      simp only [List.getElem?_cons_zero, List.getElem?_cons_succ] at g0 g1
      obtain ⟨a0, e0, _, w0⟩ := DataW.trod_int Tryz.underlying5 g0
      obtain ⟨a1, e1, _, w1⟩ := DataW.trod_int Tryz.underlying5 g1
      simp at e0 e1
      subst e0 e1
      exact ⟨a0, a1, rfl, wf_u8_iff w0, wf_u8_iff w1⟩
set_option maxRecDepth 100000 in
theorem open_actv {r : Reach} {b0 : Nat} {v : Value} {d : DataW H} {p : List MemPlace} (hv : Value.okWide Tryz.prog W r b0 24 v) (h : DataW.Trod enc Tryz.prog W 0 (fun _ => true) true 24 v d p) :
    ∃ (A : Option Addr) (c : Nat) (xs : List ActV), v = .slice A xs.length c ∧ Reads W A (xs.flatMap actL) ∧ (∀ a ∈ xs, ActOk W a) ∧ xs.length ≤ maxLen := by
  obtain ⟨a0, l0, c0, rfl⟩ := okWide_slice Tryz.underlying24 hv
  obtain ⟨fuel, hf⟩ := h
  obtain ⟨A, n, c, xs, h1, h2, h3, h4, h5, h6, -⟩ := open_acts (v := .slice a0 l0 c0) (by simpa [Value.cells] using hf)
  subst h2
  exact ⟨A, c, xs, h1, h3, h4, by omega⟩
end
end Go.Proofs.YtljmdcegcckblaaGreatDoor
