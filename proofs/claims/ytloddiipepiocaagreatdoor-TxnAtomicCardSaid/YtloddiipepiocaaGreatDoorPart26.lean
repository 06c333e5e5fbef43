/- Parts of the proof, put together by program: H9, ZF, Y3. -/
import Derived.Test.YtloddiipepiocaaGreatDoorPart13
import Derived.Test.YtloddiipepiocaaGreatDoorPart21
import Derived.Test.YtloddiipepiocaaGreatDoorPart24
import Derived.Test.YtloddiipepiocaaGreatDoorPart25
import Derived.Test.YtloddiipepiocaaGreatDoorPart08
set_option linter.unusedVariables false
set_option linter.unusedSimpArgs false
/- General words for transactions: a transaction and its device; slices of ints; what is kept. -/
namespace Go.Proofs.YtloddiipepiocaaGreatDoor
open Go.RowKit Go.Maps

theorem KeepEx.widen {B : Nat} {bs bs' : List Nat} {w w' : World} (h : KeepEx B bs w w') (hs : ∀ k, k ∈ bs → k ∈ bs') : KeepEx B bs' w w' := ⟨h.os, h.tape, h.output, h.size, fun k hk hn => h.block k hk (fun e => hn (hs k e))⟩

theorem Reads.growF {w w' : World} {F F' : List Nat} {A : Option Addr} {xs : List Value} (h : Reads w A xs) (g : Grow w F w' F') (hn : ∀ a, A = some a → a.block ∉ F) : Reads w' A xs := by
  rcases h with h | ⟨b, off, rfl, hl, hc⟩
  · exact .inl h
  · exact .inr ⟨b, off, rfl, Nat.lt_of_lt_of_le hl g.keep.size, fun k u hu => (World.cell?_of_block (w := w) (a := ⟨b, off + k, none⟩) (g.keep.block b hl (hn _ rfl))).trans (hc k u hu)⟩
theorem Reads.blk_lt {w : World} {A : Option Addr} {xs : List Value} (h : Reads w A xs) (h0 : 0 < xs.length) : ∀ a, A = some a → a.block < w.heap.size := by
  rcases h with rfl | ⟨b, off, rfl, hl, -⟩
  · simp at h0
  · intro a ha; cases ha; exact hl
theorem own_lt {w : World} {base : Nat} {e : TypeId} {size : Nat} {v : Value} {n : Nat} {xs : List Value} (h : w.ownsRow base e size v n xs) : ∀ q, v.ownBlock = some q → base ≤ q ∧ q < w.heap.size := by
  intro q hq
  rcases h.2 with ⟨rfl, -⟩ | ⟨g, cap, cur, rfl, hb, hk, -⟩
  · cases hq
  · cases hq; exact ⟨hb, (Array.getElem?_eq_some_iff.1 hk).1⟩

/-- A slice of ints that came in, or none. -/
structure SlI (w : World) (A : Option Addr) (c : Nat) (l : List Int) : Prop where
  reads : Reads w A (l.map (.int .i64))
  nil : A = none → l = [] ∧ c = 0
  cap : l.length ≤ c
theorem SlI.below {w w' : World} {A : Option Addr} {c : Nat} {l : List Int} (h : SlI w A c l) (hb : Below w.heap.size w w') : SlI w' A c l := ⟨h.reads.below hb, h.nil, h.cap⟩
theorem SlI.of_own {w : World} {base : Nat} {v : Value} {l : List Int} (h : w.ownsRow base 3 1 v l.length (l.map (.int .i64))) : ∃ A c, v = .slice A l.length c ∧ SlI w A c l := by
  rcases h.2 with ⟨rfl, h0⟩ | ⟨g, cap, cur, rfl, -, -, hn, -⟩
  · obtain rfl := List.length_eq_zero_iff.1 h0
    exact ⟨none, 0, rfl, .inl rfl, fun _ => ⟨rfl, rfl⟩, Nat.le_refl _⟩
  · exact ⟨_, cap, rfl, Reads.of_own h, (fun e => by cases e), hn⟩

/-- A transaction and the device that it is on. -/
structure TD (w : World) (T : Nat) (F : List Nat) (D : Nat) (y : TxS) (B : List Nat) (x : DevS) : Prop where
  tx : TxAt w T F D y
  dev : DevAt w D B x
  dis : ∀ b ∈ F, b ∉ B
theorem TD.below {w w' : World} {T : Nat} {F : List Nat} {D : Nat} {y : TxS} {B : List Nat} {x : DevS} (h : TD w T F D y B x) (hb : Below w.heap.size w w') : TD w' T F D y B x := ⟨h.tx.below hb, h.dev.below hb, h.dis⟩
theorem TD.F0 {w : World} {T : Nat} {F : List Nat} {D : Nat} {y : TxS} {B : List Nat} {x : DevS} (h : TD w T F D y B x) : 0 ∉ F := fun hm => by have := (h.tx.lt 0 hm).1; omega
theorem TD.grow {w w' : World} {T : Nat} {F F' : List Nat} {D : Nat} {y y' : TxS} {B : List Nat} {x : DevS} (h : TD w T F D y B x) (ht : TxAt w' T F' D y') (g : Grow w F w' F') : TD w' T F' D y' B x :=
  ⟨ht, h.dev.grow g h.dis h.F0, fun b hb hm => by
    rcases g.new b hb with hf | hf
    · exact h.dis b hf hm
    · have := (h.dev.lt b hm).2; omega⟩
theorem TD.set_ {w : World} {T : Nat} {F : List Nat} {D : Nat} {y : TxS} {B : List Nat} {x : DevS} (h : TD w T F D y B x) {p : Addr} (hF : p.block ∉ F) (hB : p.block ∉ B) (h0 : p.block ≠ 0) (u : Value) : TD (w.setCell p u) T F D y B x :=
  ⟨h.tx.set_ hF u, h.dev.set_ hB h0 u, h.dis⟩
theorem TD.keep {w w' : World} {T : Nat} {F : List Nat} {D : Nat} {y : TxS} {B : List Nat} {x : DevS} (h : TD w T F D y B x) (hk : ∀ b, b ∈ F ∨ b ∈ B ∨ b = 0 → w'.heap[b]? = w.heap[b]?) (hs : w.heap.size ≤ w'.heap.size) : TD w' T F D y B x :=
  ⟨h.tx.frame (fun b hb => hk b (.inl hb)) hs, h.dev.frame (fun b hb => hk b (.inr hb)) hs, h.dis⟩

/-- A world that is kept below n0 but for the blocks of F; and what has become of F. -/
structure GrowN (n0 : Nat) (w : World) (F : List Nat) (w' : World) (F' : List Nat) : Prop where
  keep : KeepEx n0 F w w'
  new : ∀ b ∈ F', b ∈ F ∨ n0 ≤ b
theorem GrowN.refl (n0 : Nat) (w : World) (F : List Nat) : GrowN n0 w F w F := ⟨KeepEx.refl _ _ _, fun _ h => .inl h⟩
theorem GrowN.trans {n0 : Nat} {w w1 w2 : World} {F F1 F2 : List Nat} (h : GrowN n0 w F w1 F1) (k : GrowN n0 w1 F1 w2 F2) : GrowN n0 w F w2 F2 :=
  ⟨⟨k.keep.os.trans h.keep.os, k.keep.tape.trans h.keep.tape, k.keep.output.trans h.keep.output, Nat.le_trans h.keep.size k.keep.size, fun b hb hn => (k.keep.block b hb (fun hm => (h.new b hm).elim hn (fun h9 => by omega))).trans (h.keep.block b hb hn)⟩,
   fun b hb => (k.new b hb).elim (fun h1 => h.new b h1) .inr⟩
theorem Grow.toN {n0 : Nat} {w w' : World} {F F' : List Nat} (h : Grow w F w' F') (hn : n0 ≤ w.heap.size) : GrowN n0 w F w' F' :=
  ⟨⟨h.keep.os, h.keep.tape, h.keep.output, h.keep.size, fun b hb hm => h.keep.block b (by omega) hm⟩, fun b hb => (h.new b hb).imp id (fun h1 => by omega)⟩
theorem GrowN.of_below {n0 : Nat} {w w' : World} (h : Below w.heap.size w w') (hn : n0 ≤ w.heap.size) (F : List Nat) : GrowN n0 w F w' F := (Grow.of_below h F).toN hn
theorem GrowN.set_ {n0 : Nat} {w V : World} {F F' : List Nat} (h : GrowN n0 w F V F') {p : Addr} (hp : n0 ≤ p.block) (u : Value) : GrowN n0 w F (V.setCell p u) F' :=
  ⟨h.keep.trans (KeepEx.setCell V (.inr hp) u), h.new⟩
theorem GrowN.toGrow {w w' : World} {F F' : List Nat} (h : GrowN w.heap.size w F w' F') : Grow w F w' F' := ⟨h.keep, h.new⟩

theorem newDev_ge {n : Nat} (hn : 64 ≤ n ∧ n ≤ 256) {a : Int} (ha : 0 ≤ a ∧ a < n) : (newDev n).ge a = 70 := by
  have hr : (newDev n).reads a = zsec := by
    show (List.replicate n zsec).getD a.toNat [] = zsec
    rw [List.getD_eq_getElem?_getD, List.getElem?_replicate, if_pos (by omega)]; rfl
  show getE false (List.replicate n zsec).length a ((newDev n).reads a) = 70
  unfold getE
  rw [if_pos (show Go.Proofs.YtloddiipepiocaaGreatDoor.atE _ _ a = 0 from by unfold Go.Proofs.YtloddiipepiocaaGreatDoor.atE; rw [if_neg (by simp), if_neg (by rw [List.length_replicate]; omega)]), hr]
  unfold openE
  rw [if_neg (by omega), if_pos rfl]
theorem fr_blank {x : DevS} {a : Int} (h : x.ge a = 70) : x.fr a = noFr := by unfold DevS.fr; rw [h, if_neg (by decide)]
def yA : TxS := ⟨64, 8, 40, List.replicate 14 false, List.replicate 14 false, [], false, false, false⟩

end Go.Proofs.YtloddiipepiocaaGreatDoor
/- Layers 9 and 10 in plain words: Commit on a device that has power; a device that was formatted. No program in sight. -/
namespace Go.Proofs.YtloddiipepiocaaGreatDoor
open Go.RowKit Go.Maps

theorem sameFr.trans {x y z : DevS} {b : Int} (h : sameFr x y b) (k : sameFr y z b) : sameFr x z b := ⟨k.1.trans h.1, k.2.trans h.2⟩
theorem sameFr.refl (x : DevS) (b : Int) : sameFr x x b := ⟨rfl, rfl⟩

theorem puts_runs {L : List (Int × Fr)} (hn : (L.map (·.1)).Nodup) : ∀ (k : Nat) {x : DevS} {n : Nat}, (∀ p ∈ L, 0 ≤ p.1 ∧ p.1 < x.stable.length ∧ 1 ≤ p.2.kind ∧ p.2.kind ≤ 255 ∧ p.2.data.size ≤ 112 ∧ 0 ≤ p.2.seq ∧ p.2.seq < 4294967296) → k ≤ L.length → x.Runs (n + k) →
    (x.puts L k).1 = 0 ∧ (x.puts L k).2.Runs n ∧ (x.puts L k).2.stable.length = x.stable.length ∧ (∀ p ∈ L.take k, (x.puts L k).2.ge p.1 = 0 ∧ (x.puts L k).2.fr p.1 = p.2) ∧ (∀ b : Int, 0 ≤ b → b < x.stable.length → b ∉ (L.take k).map (·.1) → sameFr x (x.puts L k).2 b) := by
  intro k
  induction k with
  | zero => intro x n _ _ h; exact ⟨rfl, h, rfl, fun p hp => by simp at hp, fun b _ _ _ => sameFr.refl _ _⟩
  | succ k ih =>
    intro x n hv hk h
    obtain ⟨i1, i2, i3, i4, i5⟩ := ih (n := n + 1) hv (by omega) (h.mono (by omega))
    have hkl : k < L.length := by omega
    have hgd : L.getD k default = L[k] := by rw [List.getD_eq_getElem?_getD, List.getElem?_eq_getElem hkl]; rfl
    have hp := hv L[k] (List.getElem_mem hkl)
    have e : x.puts L (k + 1) = (x.puts L k).2.put L[k].1 L[k].2.kind L[k].2.seq L[k].2.data := by
      show (if (x.puts L k).1 ≠ 0 then x.puts L k else _) = _
      rw [if_neg (by simpa using i1), hgd]
    obtain ⟨j1, j2⟩ := put_runs i2 (a := L[k].1) (kind := L[k].2.kind) (seq := L[k].2.seq) (s := L[k].2.data) (by rw [i3]; exact ⟨hp.1, hp.2.1⟩) ⟨hp.2.2.1, hp.2.2.2.1⟩ hp.2.2.2.2.1 hp.2.2.2.2.2
    have htk : L.take (k + 1) = L.take k ++ [L[k]] := by rw [List.take_succ_eq_append_getElem hkl]
    have hnew : L[k].1 ∉ (L.take k).map (·.1) := by
      have h2 : (L.map (·.1)).take (k + 1) = (L.take k).map (·.1) ++ [L[k].1] := by rw [← List.map_take, htk, List.map_append]; rfl
      have h3 : ((L.take k).map (·.1) ++ [L[k].1]).Nodup := by rw [← h2]; exact hn.sublist (List.take_sublist _ _)
      intro hm
      exact (List.nodup_append.1 h3).2.2 _ hm _ (by simp) rfl
    rw [e]
    refine ⟨j1, j2.runs, j2.size.trans i3, fun p hpm => ?_, fun b hb1 hb2 hbn => ?_⟩
    · rw [htk] at hpm
      rcases List.mem_append.1 hpm with hpm | hpm
      · have h4 := i4 p hpm
        have h5 := hv p (List.mem_of_mem_take hpm)
        have h6 := j2.old p.1 h5.1 (by rw [i3]; exact h5.2.1) (fun e2 => hnew (by rw [← e2]; exact List.mem_map_of_mem hpm))
        exact ⟨h6.1.trans h4.1, h6.2.trans h4.2⟩
      · obtain rfl : p = L[k] := by simpa using hpm
        exact j2.new
    · rw [htk, List.map_append] at hbn
      have h5 := i5 b hb1 hb2 (fun hm => hbn (List.mem_append_left _ hm))
      exact h5.trans (j2.old b hb1 (by rw [i3]; exact hb2) (fun e2 => hbn (by rw [e2]; simp)))

/-- A device on which a call has come to its end: it is flushed. -/
theorem done_runs {x : DevS} {n : Nat} (h : x.Runs n) : DevS.done (0, x) = (0, x.flushed) := by
  unfold DevS.done DevS.flush
  rw [if_neg (by simp)]
  simp [readyE, h.on]

/-- A formatted journal: its head, at the number q. -/
structure HeadAt (x : DevS) (F q : Int) : Prop where
  ge : x.ge F = 0
  fr : x.fr F = ⟨1, q, ⟨#[]⟩⟩
theorem HeadAt.head {x : DevS} {F Z q : Int} (h : HeadAt x F q) (hc : checkE F Z = 0) : x.head F Z = (0, q) := by
  unfold DevS.head
  rw [if_neg (by simpa using hc), if_neg (by rw [h.ge]; simp), if_neg (by rw [h.fr]; simp), h.fr]
theorem HeadAt.same {x y : DevS} {F q : Int} (h : HeadAt x F q) (hs : sameFr x y F) : HeadAt y F q := ⟨hs.1.trans h.ge, hs.2.trans h.fr⟩

theorem blanks_runs {a : Int} (ha : 0 ≤ a) : ∀ (k : Nat) {x : DevS} {n : Nat}, a + k ≤ x.stable.length → x.Runs (n + k) →
    (x.blanks a k).1 = 0 ∧ (x.blanks a k).2.Runs n ∧ (x.blanks a k).2.stable.length = x.stable.length ∧ (∀ b : Int, a ≤ b → b < a + k → (x.blanks a k).2.ge b = 70) ∧ (∀ b : Int, 0 ≤ b → b < x.stable.length → (b < a ∨ a + k ≤ b) → sameFr x (x.blanks a k).2 b) := by
  intro k
  induction k with
  | zero => intro x n _ h; exact ⟨rfl, h, rfl, fun b h1 h2 => by omega, fun b _ _ _ => sameFr.refl _ _⟩
  | succ k ih =>
    intro x n hk h
    obtain ⟨i1, i2, i3, i4, i5⟩ := ih (n := n + 1) (by omega) (h.mono (by omega))
    have e : x.blanks a (k + 1) = (x.blanks a k).2.write (a + k) zsec := by
      show (if (x.blanks a k).1 ≠ 0 then x.blanks a k else _) = _
      rw [if_neg (by simpa using i1)]
    obtain ⟨j1, j2⟩ := blank_runs i2 (a := a + k) (by omega)
    rw [e]
    refine ⟨j1, j2.runs, j2.size.trans i3, fun b h1 h2 => ?_, fun b hb1 hb2 hb3 => ?_⟩
    · by_cases hb : b = a + k
      · rw [hb]; exact j2.new.1
      · exact (j2.old b (by omega) (by omega) hb).1.trans (i4 b h1 (by omega))
    · exact (i5 b hb1 hb2 (by omega)).trans (j2.old b hb1 (by omega) (by omega))

theorem checkE_zero {F Z : Int} (h : checkE F Z = 0) : 8 ≤ Z ∧ Z ≤ 96 ∧ 0 ≤ F ∧ F ≤ 256 - Z := by
  unfold checkE at h; split at h
  · cases h
  · omega
theorem jfmt_runs {x : DevS} {F Z : Int} {n : Nat} (hc : checkE F Z = 0) (hF : F + Z ≤ x.stable.length) (h : x.Runs (n + 1 + (Z - 1).toNat)) :
    ∃ y, x.jfmt F Z = (0, y) ∧ y.Runs n ∧ y.stable.length = x.stable.length ∧ HeadAt y F 0 ∧ (∀ b : Int, F + 1 ≤ b → b < F + Z → y.ge b = 70) ∧ (∀ b : Int, 0 ≤ b → b < x.stable.length → (b < F ∨ F + Z ≤ b) → sameFr x y b) := by
  have hz := checkE_zero hc
  obtain ⟨j1, j2⟩ := put_runs (n := n + (Z - 1).toNat) (h.mono (by omega)) (a := F) (kind := 1) (seq := 0) (s := ⟨#[]⟩) (by omega) (by omega) (Nat.zero_le _) (by omega)
  obtain ⟨i1, i2, i3, i4, i5⟩ := blanks_runs (a := F + 1) (by omega) (Z - 1).toNat (n := n) (by rw [j2.size]; omega) j2.runs
  have hz1 : F + 1 + ((Z - 1).toNat : Int) = F + Z := by omega
  rw [hz1] at i4 i5
  obtain ⟨f1, f2, f3⟩ := flush_same i2
  refine ⟨((x.put F 1 0 ⟨#[]⟩).2.blanks (F + 1) (Z - 1).toNat).2.flushed, ?_, f1, f2.trans (i3.trans j2.size), ?_, fun b h1 h2 => ?_, fun b h1 h2 h3 => ?_⟩
  · unfold DevS.jfmt DevS.flush
    rw [if_neg (by simpa using hc), if_neg (by simpa using j1), if_neg (by simpa using i1), i2.on]
    rfl
  · have hF2 : F < (x.put F 1 0 ⟨#[]⟩).2.stable.length := by rw [j2.size]; omega
    have h0 : HeadAt (x.put F 1 0 ⟨#[]⟩).2 F 0 := ⟨j2.new.1, j2.new.2⟩
    exact (h0.same (i5 F (by omega) hF2 (by omega))).same (f3 F (by omega) (by rw [i3]; exact hF2))
  · exact (f3 b (by omega) (by rw [i3, j2.size]; omega)).1.trans (i4 b h1 h2)
  · exact ((j2.old b h1 h2 (by omega)).trans (i5 b h1 (by rw [j2.size]; exact h2) (by omega))).trans (f3 b h1 (by rw [i3, j2.size]; exact h2))

/-! What is valid. -/
theorem validTo_all {n F Z : Int} {l : List Rec} : ∀ {m : Nat}, validTo n F Z l m = 0 → ∀ k, k < m → recE n F Z (l.take k) (l.getD k default) = 0 := by
  intro m
  induction m with
  | zero => intro _ k hk; omega
  | succ m ih =>
    intro h k hk
    unfold validTo at h
    by_cases h1 : validTo n F Z l m = 0
    · rw [if_neg (by simpa using h1)] at h
      by_cases e : k = m
      · rw [e]; exact h
      · exact ih h1 k (by omega)
    · rw [if_pos (by simpa using h1)] at h; exact absurd h h1
theorem recE_zero' {n F Z : Int} {l : List Rec} {r : Rec} (h : recE n F Z l r = 0) : ¬ (F ≤ r.at_ ∧ r.at_ < F + Z) ∧ 0 ≤ r.at_ ∧ r.at_ < n ∧ 1 ≤ r.kind ∧ r.kind ≤ 255 ∧ r.data.size ≤ 96 ∧ r.at_ ∉ l.map (·.at_) := by
  unfold recE at h
  by_cases h1 : F ≤ r.at_ ∧ r.at_ < F + Z
  · rw [if_pos h1] at h; cases h
  · rw [if_neg h1] at h
    by_cases h2 : r.at_ < 0 ∨ n ≤ r.at_ ∨ r.kind < 1 ∨ 255 < r.kind
    · rw [if_pos h2] at h; cases h
    · rw [if_neg h2] at h
      by_cases h3 : 96 < r.data.size
      · rw [if_pos h3] at h; cases h
      · rw [if_neg h3] at h
        by_cases h4 : r.at_ ∈ l.map (·.at_)
        · rw [if_pos h4] at h; cases h
        · exact ⟨h1, by omega, by omega, by omega, by omega, by omega, h4⟩
structure ValidL (n F Z : Int) (l : List Rec) : Prop where
  len : (l.length : Int) ≤ mostN Z
  rec_ : ∀ k, (hk : k < l.length) → ¬ (F ≤ l[k].at_ ∧ l[k].at_ < F + Z) ∧ 0 ≤ l[k].at_ ∧ l[k].at_ < n ∧ 1 ≤ l[k].kind ∧ l[k].kind ≤ 255 ∧ l[k].data.size ≤ 96 ∧ l[k].at_ ∉ (l.take k).map (·.at_)
theorem validL {n F Z : Int} {l : List Rec} (h : validE n F Z l = 0) : ValidL n F Z l := by
  unfold validE at h
  by_cases h1 : mostN Z < l.length
  · rw [if_pos h1] at h; cases h
  · rw [if_neg h1] at h
    refine ⟨by omega, fun k hk => ?_⟩
    have h2 := validTo_all h k hk
    have e : l.getD k default = l[k] := by rw [List.getD_eq_getElem?_getD, List.getElem?_eq_getElem hk]; rfl
    rw [e] at h2
    exact recE_zero' h2
theorem nodup_of_take {α : Type} {l : List α} (h : ∀ k, (hk : k < l.length) → l[k] ∉ l.take k) : l.Nodup := by
  rw [List.nodup_iff_pairwise_ne] 
  rw [List.pairwise_iff_getElem]
  intro i j hi hj hij e
  apply h j hj
  rw [← e]
  exact List.mem_take_iff_getElem.2 ⟨i, by omega, rfl⟩
theorem ValidL.nodup {n F Z : Int} {l : List Rec} (h : ValidL n F Z l) : (l.map (·.at_)).Nodup := nodup_of_take fun k hk => by
  have hk' : k < l.length := by simpa using hk
  have := (h.rec_ k hk').2.2.2.2.2.2
  rw [← List.map_take]
  simpa using this

/-! The frames of the journal. -/
theorem strL_str {l : List Int} (h : Bytes l) : strL (strOfNums l) = l := by
  unfold strL strOfNums
  simp only [List.map_map]
  conv => rhs; rw [← List.map_id l]
  apply List.map_congr_left
  intro x hx
  have := h x hx
  simp only [Function.comp, UInt8.toNat_ofNat', id]
  omega
theorem strL_app (a b : ByteArray) : strL ⟨a.data ++ b.data⟩ = strL a ++ strL b := by unfold strL; simp
theorem bits_at : ∀ a : Fin 257, bits .or .i64 ((a.val : Int) % 256) ((a.val : Int) / 256 % 256 * 256) = a.val := by decide +kernel
theorem logS_str {r : Rec} (ha : 0 ≤ r.at_ ∧ r.at_ < 257) (hk : 0 ≤ r.kind ∧ r.kind < 256) : strL (logS r) = [r.at_ % 256, r.at_ / 256 % 256, r.kind] ++ strL r.data := by
  unfold logS
  have e1 : strL (⟨(shortS r.at_).data ++ (bstr [r.kind % 256]).data ++ r.data.data⟩ : ByteArray) = strL ⟨(shortS r.at_).data ++ (bstr [r.kind % 256]).data⟩ ++ strL r.data := strL_app ⟨(shortS r.at_).data ++ (bstr [r.kind % 256]).data⟩ r.data
  rw [e1, strL_app]
  have e2 : strL (shortS r.at_) = [r.at_ % 256, r.at_ / 256 % 256] := strL_str (fun x hx => by
    simp only [List.mem_cons, List.mem_nil_iff, or_false] at hx
    rcases hx with rfl | rfl <;> omega)
  have e3 : strL (bstr [r.kind % 256]) = [r.kind % 256] := strL_str (fun x hx => by
    simp only [List.mem_cons, List.mem_nil_iff, or_false] at hx
    rcases hx with rfl; omega)
  rw [e2, e3, Int.emod_eq_of_lt hk.1 hk.2]
  rfl
theorem logS_size {r : Rec} : (logS r).size = 3 + r.data.size := by
  unfold logS shortS bstr
  show ((strOfNums [r.at_ % 256, r.at_ / 256 % 256]).data ++ (strOfNums [r.kind % 256]).data ++ r.data.data).size = _
  rw [Array.size_append, Array.size_append]
  show (strOfNums [r.at_ % 256, r.at_ / 256 % 256]).size + (strOfNums [r.kind % 256]).size + r.data.size = _
  rw [strOfNums_size, strOfNums_size]; simp
theorem recOf_log {r : Rec} {q : Int} (ha : 0 ≤ r.at_ ∧ r.at_ < 257) (hk : 0 ≤ r.kind ∧ r.kind < 256) (hd : r.data.size ≤ 96) : recOf ⟨2, q, logS r⟩ = r := by
  unfold recOf
  rw [if_neg (by simp only [logS_size]; omega)]
  simp only [logS_str ha hk]
  have e1 : bits .or .i64 (([r.at_ % 256, r.at_ / 256 % 256, r.kind] ++ strL r.data).getD 0 0) (([r.at_ % 256, r.at_ / 256 % 256, r.kind] ++ strL r.data).getD 1 0 * 256) = r.at_ := by
    show bits .or .i64 (r.at_ % 256) (r.at_ / 256 % 256 * 256) = r.at_
    have h := bits_at ⟨r.at_.toNat, by omega⟩
    simp only [Int.toNat_of_nonneg ha.1] at h
    exact h
  have e2 : ([r.at_ % 256, r.at_ / 256 % 256, r.kind] ++ strL r.data).getD 2 0 = r.kind := rfl
  have e3 : (logS r).extract 3 (logS r).size = r.data := by
    have h3 : ((shortS r.at_).data ++ (bstr [r.kind % 256]).data).size = 3 := by
      rw [Array.size_append]
      show (strOfNums _).size + (strOfNums _).size = 3
      rw [strOfNums_size, strOfNums_size]; rfl
    apply ByteArray.ext
    rw [ByteArray.data_extract]
    unfold logS
    show ((shortS r.at_).data ++ (bstr [r.kind % 256]).data ++ r.data.data).extract 3 _ = r.data.data
    rw [Array.extract_append, h3]
    have e4 : ((shortS r.at_).data ++ (bstr [r.kind % 256]).data).extract 3 (ByteArray.size ⟨(shortS r.at_).data ++ (bstr [r.kind % 256]).data ++ r.data.data⟩) = #[] := by
      apply Array.eq_empty_of_size_eq_zero
      rw [Array.size_extract, h3]; omega
    rw [e4]
    have e5 : (ByteArray.size ⟨(shortS r.at_).data ++ (bstr [r.kind % 256]).data ++ r.data.data⟩) - 3 = r.data.data.size := by
      show ((shortS r.at_).data ++ (bstr [r.kind % 256]).data ++ r.data.data).size - 3 = _
      rw [Array.size_append, h3]; omega
    rw [e5, Nat.sub_self]
    simp
  rw [e1, e2, e3]

theorem next_bds (q : Int) : 0 ≤ next q ∧ next q < 4294967296 := by unfold next; omega
theorem logL_get' {F q : Int} {l : List Rec} {k : Nat} (hk : k < l.length) : (logL F q l)[k]? = some (F + 1 + k, ⟨2, q, logS l[k]⟩) := by
  unfold logL
  rw [List.getElem?_map, List.getElem?_zipIdx, List.getElem?_eq_getElem hk]; simp
theorem logL_mem {F q : Int} {l : List Rec} {p : Int × Fr} (h : p ∈ logL F q l) : ∃ k, ∃ hk : k < l.length, p = (F + 1 + k, ⟨2, q, logS l[k]⟩) := by
  obtain ⟨k, hk, rfl⟩ := List.mem_iff_getElem.1 h
  have hk' : k < l.length := by rw [logL_length] at hk; exact hk
  refine ⟨k, hk', ?_⟩
  have := logL_get' (F := F) (q := q) hk'
  rw [List.getElem?_eq_getElem hk] at this
  exact Option.some.inj this
theorem logL_nodup (F q : Int) (l : List Rec) : ((logL F q l).map (·.1)).Nodup := by
  refine nodup_of_take fun k hk hm => ?_
  have hk' : k < l.length := by simpa [logL_length] using hk
  rw [← List.map_take] at hm
  obtain ⟨p, hp, he⟩ := List.mem_map.1 hm
  obtain ⟨i, hi, hpi⟩ := List.mem_take_iff_getElem.1 hp
  have hi2 : i < l.length := by have := hi; rw [logL_length] at this; omega
  have h1 := logL_get' (F := F) (q := q) hi2
  have h2 := logL_get' (F := F) (q := q) hk'
  rw [List.getElem?_eq_getElem (by rw [logL_length]; exact hi2), hpi] at h1
  rw [List.getElem_map] at he
  rw [List.getElem?_eq_getElem (by rw [logL_length]; exact hk')] at h2
  rw [Option.some.inj h1, Option.some.inj h2] at he
  have hik : i < k := by omega
  simp only at he
  omega

/-- The log of a transaction. -/
structure LogAt (z : DevS) (F q : Int) (l : List Rec) : Prop where
  recs : ∀ k, (hk : k < l.length) → z.ge (F + 1 + k) = 0 ∧ z.fr (F + 1 + k) = ⟨2, next q, logS l[k]⟩
  mark : z.ge (F + 1 + l.length) = 0 ∧ z.fr (F + 1 + l.length) = ⟨3, next q, shortS l.length⟩
theorem log_runs {x : DevS} {F Z q : Int} {n : Nat} {l : List Rec} (hc : checkE F Z = 0) (hF : F + Z ≤ x.stable.length) (hh : HeadAt x F q) (hv : ValidL x.stable.length F Z l) (hv0 : validE x.stable.length F Z l = 0) (h : x.Runs (n + 1 + l.length)) :
    ∃ z, x.log F Z l = (0, z) ∧ z.Runs n ∧ z.stable.length = x.stable.length ∧ HeadAt z F q ∧ LogAt z F q l ∧ (∀ b : Int, 0 ≤ b → b < x.stable.length → (b < F ∨ F + Z ≤ b) → sameFr x z b) := by
  have hz := checkE_zero hc
  have hm : (l.length : Int) ≤ Z - 2 := by have := hv.len; unfold mostN at this; omega
  have hnx := next_bds q
  obtain ⟨i1, i2, i3, i4, i5⟩ := puts_runs (logL_nodup F (next q) l) l.length (x := x) (n := n + 1) (fun p hp => by
    obtain ⟨k, hk, rfl⟩ := logL_mem hp
    have h9 := hv.rec_ k hk
    refine ⟨by show 0 ≤ F + 1 + (k : Int); omega, by show F + 1 + (k : Int) < _; omega, by show (1 : Int) ≤ 2; omega, by show (2 : Int) ≤ 255; omega, ?_, hnx.1, hnx.2⟩
    show (logS l[k]).size ≤ 112
    rw [logS_size]; omega) (by rw [logL_length]; exact Nat.le_refl _) h
  have htk : (logL F (next q) l).take l.length = logL F (next q) l := List.take_of_length_le (by rw [logL_length]; exact Nat.le_refl _)
  rw [htk] at i4 i5
  have hsz2 : (shortS l.length).size ≤ 112 := by unfold shortS bstr; rw [strOfNums_size]; simp
  obtain ⟨j1, j2⟩ := put_runs i2 (a := F + 1 + l.length) (kind := 3) (seq := next q) (s := shortS l.length) (by rw [i3]; omega) (by omega) hsz2 hnx
  obtain ⟨f1, f2, f3⟩ := flush_same j2.runs
  have hnin : ∀ b : Int, (b < F + 1 ∨ F + 1 + l.length ≤ b) → b ∉ (logL F (next q) l).map (·.1) := fun b hb hm => by
    obtain ⟨p, hp, he⟩ := List.mem_map.1 hm
    obtain ⟨k, hk, rfl⟩ := logL_mem hp
    simp only at he; omega
  have hall : ∀ b : Int, 0 ≤ b → b < x.stable.length → b ≠ F + 1 + l.length → sameFr (x.puts (logL F (next q) l) l.length).2 ((x.puts (logL F (next q) l) l.length).2.put (F + 1 + l.length) 3 (next q) (shortS l.length)).2.flushed b := fun b h1 h2 h3 =>
    (j2.old b h1 (by rw [i3]; exact h2) h3).trans (f3 b h1 (by rw [j2.size, i3]; exact h2))
  refine ⟨((x.puts (logL F (next q) l) l.length).2.put (F + 1 + l.length) 3 (next q) (shortS l.length)).2.flushed, ?_, f1, f2.trans (j2.size.trans i3), ?_, ⟨fun k hk => ?_, ?_⟩, fun b h1 h2 h3 => ?_⟩
  · unfold DevS.log
    rw [hh.head hc]
    simp only
    rw [if_neg (by simp), if_neg (by simpa using hv0), if_neg (by simpa using i1)]
    rw [show (x.puts (logL F (next q) l) l.length).2.put (F + 1 + l.length) 3 (next q) (shortS l.length) = (0, ((x.puts (logL F (next q) l) l.length).2.put (F + 1 + l.length) 3 (next q) (shortS l.length)).2) from Prod.ext j1 rfl]
    exact done_runs j2.runs
  · exact (hh.same (i5 F (by omega) (by omega) (hnin F (by omega)))).same (hall F (by omega) (by omega) (by omega))
  · have h4 := i4 (F + 1 + k, ⟨2, next q, logS l[k]⟩) (List.mem_of_getElem? (logL_get' hk))
    have h5 := hall (F + 1 + k) (by omega) (by omega) (by omega)
    exact ⟨h5.1.trans h4.1, h5.2.trans h4.2⟩
  · have h5 := f3 (F + 1 + l.length) (by omega) (by rw [j2.size, i3]; omega)
    exact ⟨h5.1.trans j2.new.1, h5.2.trans j2.new.2⟩
  · exact (i5 b h1 h2 (hnin b (by omega))).trans (hall b h1 h2 (by omega))

end Go.Proofs.YtloddiipepiocaaGreatDoor
/- Plain laws of layer 7: the sector of a frame that was opened; the reference's Open. No program in sight. -/
namespace Go.Proofs.YtloddiipepiocaaGreatDoor
open Go.RowKit

theorem byteD {xs : List Int} (hb : Bytes xs) (k : Nat) : 0 ≤ xs.getD k 0 ∧ xs.getD k 0 < 256 := by
  rw [List.getD_eq_getElem?_getD]
  cases e : xs[k]? with
  | none => exact (by decide : (0 : Int) ≤ 0 ∧ (0 : Int) < 256)
  | some x => exact hb x (List.mem_of_getElem? e)
/-- The bytes of a number that was read. -/
theorem nb_read {xs : List Int} (hb : Bytes xs) (a : Nat) {j : Nat} (hj : j < 4) : nb (readN xs a) j = xs.getD (a + j) 0 := by
  have h0 := byteD hb (a + 0)
  have h1 := byteD hb (a + 1)
  have h2 := byteD hb (a + 2)
  have h3 := byteD hb (a + 3)
  obtain ⟨x0, e0⟩ : ∃ x : Nat, xs.getD (a + 0) 0 = x := ⟨_, (Int.toNat_of_nonneg h0.1).symm⟩
  obtain ⟨x1, e1⟩ : ∃ x : Nat, xs.getD (a + 1) 0 = x := ⟨_, (Int.toNat_of_nonneg h1.1).symm⟩
  obtain ⟨x2, e2⟩ : ∃ x : Nat, xs.getD (a + 2) 0 = x := ⟨_, (Int.toNat_of_nonneg h2.1).symm⟩
  obtain ⟨x3, e3⟩ : ∃ x : Nat, xs.getD (a + 3) 0 = x := ⟨_, (Int.toNat_of_nonneg h3.1).symm⟩
  rw [e0] at h0
  rw [e1] at h1
  rw [e2] at h2
  rw [e3] at h3
  have hn : ∀ j, j < 4 → xs.getD (a + j) 0 = nb ((x0 + 256 * x1 + 65536 * x2 + 16777216 * x3 : Nat) : Int) j := fun j hj => by
    have h4 : j = 0 ∨ j = 1 ∨ j = 2 ∨ j = 3 := by omega
    unfold nb
    rcases h4 with rfl | rfl | rfl | rfl
    · rw [e0]; show (x0 : Int) = _ / 1 % 256; omega
    · rw [e1]; show (x1 : Int) = _ / 256 % 256; omega
    · rw [e2]; show (x2 : Int) = _ / 65536 % 256; omega
    · rw [e3]; show (x3 : Int) = _ / 16777216 % 256; omega
  have hr := readK_of xs a (x0 + 256 * x1 + 65536 * x2 + 16777216 * x3) 4 (by omega) hn
  rw [hn j hj]
  unfold readN
  rw [hr]
  have : (x0 + 256 * x1 + 65536 * x2 + 16777216 * x3) % 2 ^ (8 * 4) = x0 + 256 * x1 + 65536 * x2 + 16777216 * x3 := Nat.mod_eq_of_lt (by show _ < 4294967296; omega)
  rw [this]
theorem take_getD {l : List Int} {k m : Nat} (h : k < m) : (l.take m).getD k 0 = l.getD k 0 := by
  rw [List.getD_eq_getElem?_getD, List.getD_eq_getElem?_getD, List.getElem?_take, if_pos h]
theorem readN_bds (xs : List Int) (a : Nat) : 0 ≤ readN xs a ∧ readN xs a < 4294967296 := readK_bounds xs a 4
theorem ext_getD {xs ys : List Int} (hl : xs.length = ys.length) (h : ∀ j, j < xs.length → xs.getD j 0 = ys.getD j 0) : xs = ys :=
  List.ext_getElem hl fun j h1 h2 => by
    have := h j h1
    rw [List.getD_eq_getElem?_getD, List.getD_eq_getElem?_getD, List.getElem?_eq_getElem h1, List.getElem?_eq_getElem h2] at this
    exact this
theorem openE_zero {a : Int} {xs : List Int} (h : openE a xs = 0) : (0 ≤ a ∧ a < 256) ∧ xs ≠ zsec ∧ readN xs 124 = crc (xs.take 124) ∧ xs.getD 0 0 = 76 ∧ xs.getD 1 0 ≠ 0 ∧ xs.getD 2 0 ≤ 112 ∧ xs.getD 3 0 = 0 ∧ readN xs 120 < 256 ∧ padOk xs = true ∧ readN xs 120 = a := by
  unfold openE at h
  split at h
  · cases h
  split at h
  · cases h
  split at h
  · cases h
  split at h
  · cases h
  split at h
  · cases h
  split at h
  · cases h
  rename_i h1 h2 h3 h4 h5 h6
  exact ⟨by omega, h2, by simpa using h3, by omega, by omega, by omega, by omega, by omega, by simpa using h5, by simpa using h6⟩
set_option maxHeartbeats 4000000 in
/-- A frame that was opened is the frame of its sector. -/
theorem seal_open {a : Int} {xs : List Int} (hl : xs.length = 128) (hb : Bytes xs) (h : openE a xs = 0) :
    sealE a (xs.getD 1 0) (openStr xs).size = 0 ∧ sealL a (xs.getD 1 0) (readN xs 4) (openStr xs) = xs ∧ (openStr xs).size = (xs.getD 2 0).toNat := by
  obtain ⟨ha, -, hsum, h0, h1, h2, h3, -, hpad, hpl⟩ := openE_zero h
  have b1 := byteD hb 1
  have b2 := byteD hb 2
  have hsz : (openStr xs).size = (xs.getD 2 0).toNat := by
    unfold openStr
    rw [strOfNums_size, List.length_drop, List.length_take]
    omega
  have hE : sealE a (xs.getD 1 0) (openStr xs).size = 0 := by
    unfold sealE
    rw [hsz, if_neg (by omega), if_neg (by omega)]
  have hs112 : (openStr xs).size ≤ 112 := by omega
  have hq := readN_bds xs 4
  have hSb := sealL_bytes (a := a) (kind := xs.getD 1 0) (readN xs 4) hE
  have hSl := sealL_length a (xs.getD 1 0) (readN xs 4) (openStr xs) hs112
  have hstr : strL (openStr xs) = (xs.take (8 + (xs.getD 2 0).toNat)).drop 8 := by
    unfold openStr
    exact strL_str fun x hx => hb x (List.mem_of_mem_take (List.mem_of_mem_drop hx))
  obtain ⟨n, hn⟩ : ∃ n, n = (xs.getD 2 0).toNat := ⟨_, rfl⟩
  rw [← hn] at hstr
  have hpn : ∀ j, 8 + n ≤ j → j < 120 → xs.getD j 0 = 0 := fun j h1 h2 => by
    unfold padOk at hpad
    rw [← hn, List.all_eq_true] at hpad
    have hj : j < xs.length := by omega
    have e : xs.getD j 0 = xs[j] := by rw [List.getD_eq_getElem?_getD, List.getElem?_eq_getElem hj]; rfl
    have hm : xs[j] ∈ (xs.take 120).drop (8 + n) := by
      refine List.mem_iff_getElem?.2 ⟨j - (8 + n), ?_⟩
      rw [List.getElem?_drop, List.getElem?_take, show 8 + n + (j - (8 + n)) = j by omega, if_pos h2, List.getElem?_eq_getElem hj]
    have := hpad _ hm
    rw [e]
    simpa using this
  refine ⟨hE, ?_, hsz⟩
  have hpre : ∀ j, j < 124 → (sealL a (xs.getD 1 0) (readN xs 4) (openStr xs)).getD j 0 = xs.getD j 0 := fun j hj => by
    by_cases c1 : 120 ≤ j
    · obtain ⟨i, rfl⟩ : ∃ i, j = 120 + i := ⟨j - 120, by omega⟩
      rw [← nb_read hSb 120 (by omega), sealL_place hs112 (by omega), ← nb_read hb 120 (by omega), hpl]
    by_cases c2 : 4 ≤ j ∧ j < 8
    · obtain ⟨i, rfl⟩ : ∃ i, j = 4 + i := ⟨j - 4, by omega⟩
      rw [← nb_read hSb 4 (by omega), sealL_seq hs112 hq, ← nb_read hb 4 (by omega)]
    by_cases c3 : j < 4
    · have h5 : j = 0 ∨ j = 1 ∨ j = 2 ∨ j = 3 := by omega
      rcases h5 with rfl | rfl | rfl | rfl
      · rw [sealL_0 hs112, h0]
      · rw [sealL_1 hs112]
      · rw [sealL_2 hs112, hsz]; omega
      · rw [sealL_3 hs112, h3]
    rw [sealL_getD hs112 (by omega)]
    by_cases c4 : j < 8 + (openStr xs).size
    · obtain ⟨i, rfl⟩ : ∃ i, j = 8 + i := ⟨j - 8, by omega⟩
      rw [seal1_mid hs112 (by omega), hstr, List.getD_eq_getElem?_getD, List.getElem?_drop, List.getElem?_take, if_pos (by omega), List.getD_eq_getElem?_getD]
    · rw [seal1_hi hs112 (by omega), seal0_zero hs112 (by omega), hpn j (by omega) (by omega)]
  refine ext_getD (by rw [hSl, hl]) fun j hj => ?_
  rw [hSl] at hj
  by_cases c1 : j < 124
  · exact hpre j c1
  obtain ⟨i, rfl⟩ : ∃ i, j = 124 + i := ⟨j - 124, by omega⟩
  rw [← nb_read hSb 124 (by omega), sealL_sum hs112, ← nb_read hb 124 (by omega), hsum]
  congr 2
  refine ext_getD (by rw [List.length_take, List.length_take, hSl, hl]) fun k hk => ?_
  rw [List.length_take] at hk
  rw [take_getD (by omega), take_getD (by omega)]
  exact hpre k (by omega)
/-- The reference's Open. -/
def refOpenE (a : Int) (xs : List Int) : Int :=
  if a < 0 ∨ 256 ≤ a then 7 else if xs = zsec then 70 else if readN xs 124 ≠ crc (xs.take 124) then 71 else
  if 256 ≤ readN xs 120 ∨ 112 < xs.getD 2 0 then 6 else
  if sealE (readN xs 120) (xs.getD 1 0) (openStr xs).size ≠ 0 ∨ sealL (readN xs 120) (xs.getD 1 0) (readN xs 4) (openStr xs) ≠ xs then 6 else if readN xs 120 ≠ a then 72 else 0
theorem refOpenE_eq {a : Int} {xs : List Int} (hl : xs.length = 128) (hb : Bytes xs) : refOpenE a xs = openE a xs := by
  unfold refOpenE
  by_cases c1 : a < 0 ∨ 256 ≤ a
  · rw [if_pos c1]; unfold openE; rw [if_pos c1]
  rw [if_neg c1]
  by_cases c2 : xs = zsec
  · rw [if_pos c2]; unfold openE; rw [if_neg c1, if_pos c2]
  rw [if_neg c2]
  by_cases c3 : readN xs 124 ≠ crc (xs.take 124)
  · rw [if_pos c3]; unfold openE; rw [if_neg c1, if_neg c2, if_pos c3]
  rw [if_neg c3]
  have b1 := byteD hb 1
  have hp0 := readK_bounds xs 120 4
  have hp0' : 0 ≤ readN xs 120 := hp0.1
  by_cases c4 : xs.getD 0 0 ≠ 76 ∨ xs.getD 1 0 = 0 ∨ 120 < 8 + xs.getD 2 0 ∨ xs.getD 3 0 ≠ 0 ∨ 256 ≤ readN xs 120
  · have e : openE a xs = 6 := by unfold openE; rw [if_neg c1, if_neg c2, if_neg c3, if_pos c4]
    rw [e]
    by_cases d1 : 256 ≤ readN xs 120 ∨ 112 < xs.getD 2 0
    · rw [if_pos d1]
    rw [if_neg d1, if_pos]
    refine Classical.byContradiction fun hn => ?_
    have hn1 : sealE (readN xs 120) (xs.getD 1 0) (openStr xs).size = 0 := Classical.byContradiction fun q => hn (.inl q)
    have hn2 : sealL (readN xs 120) (xs.getD 1 0) (readN xs 4) (openStr xs) = xs := Classical.byContradiction fun q => hn (.inr q)
    have ho := open_seal hn1 (readN_bds xs 4)
    rw [hn2] at ho
    have hz := openE_zero ho
    omega
  by_cases c5 : padOk xs = false
  · have e : openE a xs = 6 := by unfold openE; rw [if_neg c1, if_neg c2, if_neg c3, if_neg c4, if_pos c5]
    rw [e, if_neg (by omega), if_pos]
    refine Classical.byContradiction fun hn => ?_
    have hn1 : sealE (readN xs 120) (xs.getD 1 0) (openStr xs).size = 0 := Classical.byContradiction fun q => hn (.inl q)
    have hn2 : sealL (readN xs 120) (xs.getD 1 0) (readN xs 4) (openStr xs) = xs := Classical.byContradiction fun q => hn (.inr q)
    have ho := open_seal hn1 (readN_bds xs 4)
    rw [hn2] at ho
    have hz := (openE_zero ho).2.2.2.2.2.2.2.2.1
    rw [hz] at c5
    cases c5
  have ho : openE (readN xs 120) xs = 0 := by
    unfold openE
    rw [if_neg (by omega), if_neg c2, if_neg c3, if_neg c4, if_neg c5, if_neg (by simp)]
  obtain ⟨s1, s2, -⟩ := seal_open hl hb ho
  have e : openE a xs = if readN xs 120 ≠ a then 72 else 0 := by unfold openE; rw [if_neg c1, if_neg c2, if_neg c3, if_neg c4, if_neg c5]
  rw [e, if_neg (by omega), if_neg (by rw [s1, s2]; simp)]
end Go.Proofs.YtloddiipepiocaaGreatDoor
