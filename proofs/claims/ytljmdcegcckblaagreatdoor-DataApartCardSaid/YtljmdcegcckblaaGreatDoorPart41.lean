/- Parts of the proof, put together by program: DP, DU, NP, NO, NQ, NR. -/
import Derived.Test.YtljmdcegcckblaaGreatDoorPart40
import Derived.Test.YtljmdcegcckblaaGreatDoorPart34
import Derived.Test.YtljmdcegcckblaaGreatDoorPart01
import Derived.Test.YtljmdcegcckblaaGreatDoorProg
import Derived.ProofKit
import Derived.Deep.Slices
import Derived.Test.YtljmdcegcckblaaGreatDoorPart08
/- P12.7 in plain words: what no call touches. No program in sight. -/
namespace Go.Proofs.YtljmdcegcckblaaGreatDoor
open Go.RowKit Go.Maps

/-- Blocks that were taken, and are in no list l, are as they were. -/
structure Apart (y0 : TxS) (l : List Int) (y : TxS) : Prop where
  same : y.Same y0
  len : y.now.length = y0.now.length
  keep : ∀ k : Nat, k < y0.now.length → y0.now.getD k false = true → (k : Int) ∉ l → y.now.getD k false = true ∧ atRec y.writes (rgD y0.s y0.j y0.i + k) = atRec y0.writes (rgD y0.s y0.j y0.i + k)
theorem Apart.refl (y : TxS) (l : List Int) : Apart y l y := ⟨⟨rfl, rfl, rfl⟩, rfl, fun _ _ h _ => ⟨h, rfl⟩⟩
theorem Apart.brk {y0 y : TxS} {l : List Int} (h : Apart y0 l y) : Apart y0 l y.brk := ⟨h.same, h.len, h.keep⟩
theorem Apart.change {y0 y : TxS} {l : List Int} (h : Apart y0 l y) {us : List Bool} (hl : us.length = y.now.length) (hu : ∀ k : Nat, k < y.now.length → y0.now.getD k false = true → y.now.getD k false = true → (k : Int) ∉ l → us.getD k false = true) (n : Nat) : Apart y0 l (y.change us n) := by
  unfold TxS.change
  split
  · exact h
  · split
    · exact h
    · exact ⟨h.same, hl.trans h.len, fun k hk h0 hn => ⟨hu k (by rw [h.len]; exact hk) h0 (h.keep k hk h0 hn).1 hn, (h.keep k hk h0 hn).2⟩⟩
theorem Apart.write {y0 y : TxS} {l : List Int} (h : Apart y0 l y) (a kd : Int) (d : ByteArray) (ha : ∀ k : Nat, k < y0.now.length → y0.now.getD k false = true → (k : Int) ∉ l → a ≠ rgD y0.s y0.j y0.i + k) : Apart y0 l (y.write a kd d).2 := by
  unfold TxS.write
  split
  · exact h
  · split
    · exact h.brk
    · exact ⟨h.same, h.len, fun k hk h0 hn => ⟨(h.keep k hk h0 hn).1, by
        show atRec (insRec y.writes ⟨a, kd, d⟩) _ = _
        rw [insRec_at, if_neg (ha k hk h0 hn)]
        exact (h.keep k hk h0 hn).2⟩⟩
theorem Apart.take {y0 y : TxS} {l : List Int} (h : Apart y0 l y) (a b : Int) (hin : y.takeE a b = 0 → ∀ x ∈ allocd y.may a.toNat b.toNat, 0 ≤ x) : Apart y0 l (y.take a b).2 := by
  unfold TxS.take
  split
  · exact h
  · split
    · exact h.brk
    · rename_i he
      refine h.change (setAll_length _ _ _) (fun k hk h0 hn hl => ?_) _
      rw [List.getD_eq_getElem?_getD, setAll_val _ _ _ k hk (hin (by simpa using he))]
      rw [List.getD_eq_getElem?_getD, List.getElem?_eq_getElem hk] at hn
      simp only [Option.getD_some] at hn ⊢
      split
      · rfl
      · exact hn
theorem Apart.free {y0 y : TxS} {l m : List Int} (h : Apart y0 l y) (hm : ∀ x ∈ m, x ∈ l) (hin : y.freeE m = 0 → ∀ x ∈ m, 0 ≤ x) : Apart y0 l (y.free m).2 := by
  unfold TxS.free
  split
  · exact h
  · split
    · exact h.brk
    · rename_i he
      refine h.change (setAll_length _ _ _) (fun k hk h0 hn hl => ?_) _
      rw [List.getD_eq_getElem?_getD, setAll_val _ _ _ k hk (hin (by simpa using he))]
      rw [List.getD_eq_getElem?_getD, List.getElem?_eq_getElem hk] at hn
      simp only [Option.getD_some] at hn ⊢
      rw [if_neg (fun hc => hl (hm _ hc))]
      exact hn
theorem freeE_in {y : TxS} {m : List Int} (h : y.freeE m = 0) : ∀ x ∈ m, 0 ≤ x := by
  have h1 : TnE y.s y.j y.i y.now m false 4 = 0 := by
    refine Classical.byContradiction fun hc => ?_
    unfold TxS.freeE at h
    rw [if_pos hc] at h
    exact hc h
  unfold TnE at h1
  split at h1
  · split at h1
    · rename_i h2
      exact fun x hx => (LsE_all h2 x hx).1
    · rename_i h2; exact absurd h1 h2
  · rename_i h2; exact absurd h1 h2
theorem secV_apart {s j i b : Int} {k : Nat} (hz : 0 < rgD s j i) (h : 0 ≤ b → b ≠ k) : SecV s j i b ≠ rgD s j i + k := by
  unfold SecV
  split
  · rename_i h1
    unfold SecE at h1
    split at h1
    · split at h1
      · cases h1
      · have := h (by omega); omega
    · rename_i h2; exact absurd h1 h2
  · omega
theorem Apart.puts {y0 y : TxS} {l : List Int} (h : Apart y0 l y) (x : DevS) (kd : Int) (L : List Int) (ps : List ByteArray) (hL : ∀ b ∈ L, b ∈ l ∨ y0.now.getD b.toNat false = false) (hz : 0 < rgD y0.s y0.j y0.i) : ∀ k, k ≤ L.length → Apart y0 l (y.puts x kd L ps k).2 := by
  intro k
  induction k with
  | zero => intro _; exact h
  | succ k ih =>
    intro hk
    have ih := ih (by omega)
    unfold TxS.puts
    split
    · exact ih
    · split
      · exact ih
      · refine ih.write _ _ _ fun m _ h0 hn => ?_
        rw [h.same.1, h.same.2.1, h.same.2.2]
        refine secV_apart hz fun hb0 e => ?_
        have hm : L.getD k 0 ∈ L := by rw [List.getD_eq_getElem?_getD, List.getElem?_eq_getElem (by omega)]; exact List.getElem_mem _
        rcases hL _ hm with h1 | h1
        · rw [e] at h1; exact hn h1
        · rw [e, Int.toNat_natCast, h0] at h1; cases h1
theorem apart_fit {y : TxS} (ok : y.Ok) (hs : y.stateE = 0) (l : List Int) (n : Nat) : Apart y l (y.fit l n).2.1 ∧ ((y.fit l n).1 = 0 → (y.fit l n).2.2.length = n ∧ ∀ b ∈ (y.fit l n).2.2, b ∈ l ∨ y.now.getD b.toNat false = false) := by
  have hml : y.may.length = y.now.length := orL_length (ok.now.trans ok.was.symm)
  have hCm : CkE y.s y.j y.i y.may.length = 0 := by rw [hml]; exact ok_ckE ok
  unfold TxS.fit
  by_cases h1 : n < l.length
  · rw [if_pos h1]
    exact ⟨(Apart.refl y l).free (fun x hx => List.mem_of_mem_drop hx) freeE_in, fun _ => ⟨by simp; omega, fun b hb => .inl (List.mem_of_mem_take hb)⟩⟩
  · rw [if_neg h1]
    by_cases h2 : l.length < n
    · rw [if_pos h2]
      simp only
      generalize l.getD (l.length - 1) 0 = near at *
      refine ⟨(Apart.refl y l).take _ _ fun hE => ?_, fun hE => ?_⟩
      · have hA : AlE y.s y.j y.i y.may near ((n : Int) - l.length) = 0 := by
          refine Classical.byContradiction fun hc => ?_
          unfold TxS.takeE at hE
          rw [if_pos hc] at hE
          exact hc hE
        exact allocd_nonneg (AlE_near hCm hA)
      · obtain ⟨g1, g2⟩ := take_good ok hs hE
        refine ⟨by rw [List.length_append]; omega, fun b hb => ?_⟩
        rcases List.mem_append.1 hb with hb | hb
        · exact .inl hb
        · refine .inr ?_
          obtain ⟨k1, k2, -, k4, -⟩ := g2 b hb
          have hx' : b.toNat < y.now.length := by omega
          rw [List.getD_eq_getElem?_getD, List.getElem?_eq_getElem hx'] at k4 ⊢
          exact k4
    · rw [if_neg h2]
      exact ⟨Apart.refl y l, fun _ => ⟨by simp only; omega, fun b hb => .inl hb⟩⟩
/-- Store touches its list's blocks, and blocks that were free. -/
theorem apart_store {y : TxS} (ok : y.Ok) (hz : 0 < rgD y.s y.j y.i) (hs : y.stateE = 0) (x : DevS) (kd : Int) (l : List Int) (ps : List ByteArray) : Apart y l (y.store x kd l ps).2.1 := by
  obtain ⟨a1, a2⟩ := apart_fit ok hs l ps.length
  unfold TxS.store
  by_cases h1 : (y.fit l ps.length).1 ≠ 0
  · rw [if_pos h1]; exact a1
  · rw [if_neg h1]
    obtain ⟨b1, b2⟩ := a2 (by simpa using h1)
    have hp := a1.puts x kd _ ps b2 hz ps.length (by omega)
    split <;> exact hp
theorem apart_dwrite {y : TxS} (ok : y.Ok) (hz : 0 < rgD y.s y.j y.i) (hs : y.stateE = 0) (x : DevS) (kd : Int) (l : List Int) (size off : Int) (s : ByteArray) : Apart y l (y.dwrite x kd l size off s).2.1 := by
  unfold TxS.dwrite
  split
  · exact Apart.refl y l
  · split
    · exact Apart.refl y l
    · split <;> exact apart_store ok hz hs x kd l _
theorem apart_dcut {y : TxS} (ok : y.Ok) (hz : 0 < rgD y.s y.j y.i) (hs : y.stateE = 0) (x : DevS) (kd : Int) (l : List Int) (size to_ : Int) : Apart y l (y.dcut x kd l size to_).2.1 := by
  unfold TxS.dcut
  split
  · exact Apart.refl y l
  · split
    · exact Apart.refl y l
    · exact apart_store ok hz hs x kd l _
end Go.Proofs.YtljmdcegcckblaaGreatDoor
/- P12.7 in plain words: what a call leaves. No program in sight. -/
namespace Go.Proofs.YtljmdcegcckblaaGreatDoor
open Go.RowKit Go.Maps

theorem TxS.Clean.fit {y : TxS} (h : y.Clean) (l : List Int) (n : Nat) : (y.fit l n).2.1.Clean := by
  unfold TxS.fit
  split
  · exact h.free _
  · split
    · exact h.take _ _
    · exact h
theorem TxS.Clean.puts {y : TxS} (h : y.Clean) (x : DevS) (kd : Int) (l : List Int) (ps : List ByteArray) : ∀ k, (y.puts x kd l ps k).2.Clean := by
  intro k
  induction k with
  | zero => exact h
  | succ k ih =>
    unfold TxS.puts
    split
    · exact ih
    · split
      · exact ih
      · exact ih.write _ _ _
theorem TxS.Clean.store {y : TxS} (h : y.Clean) (x : DevS) (kd : Int) (l : List Int) (ps : List ByteArray) : (y.store x kd l ps).2.1.Clean := by
  unfold TxS.store
  split
  · exact h.fit _ _
  · split <;> exact (h.fit _ _).puts _ _ _ _ _
theorem TxS.Clean.dwrite {y : TxS} (h : y.Clean) (x : DevS) (kd : Int) (l : List Int) (size off : Int) (s : ByteArray) : (y.dwrite x kd l size off s).2.1.Clean := by
  unfold TxS.dwrite
  split
  · exact h
  · split
    · exact h
    · split <;> exact h.store _ _ _ _
theorem TxS.Clean.dcut {y : TxS} (h : y.Clean) (x : DevS) (kd : Int) (l : List Int) (size to_ : Int) : (y.dcut x kd l size to_).2.1.Clean := by
  unfold TxS.dcut
  split
  · exact h
  · split
    · exact h
    · exact h.store _ _ _ _
theorem TxS.Clean.dstore {y : TxS} (h : y.Clean) (x : DevS) (kd : Int) (l : List Int) (ps : List ByteArray) : (y.dstore x kd l ps).2.1.Clean := by
  unfold TxS.dstore
  split
  · exact h
  · split
    · exact h
    · exact h.store _ _ _ _
theorem apart_dstore {y : TxS} (ok : y.Ok) (hz : 0 < rgD y.s y.j y.i) (hs : y.stateE = 0) (x : DevS) (kd : Int) (l : List Int) (ps : List ByteArray) : Apart y l (y.dstore x kd l ps).2.1 := by
  unfold TxS.dstore
  split
  · exact Apart.refl y l
  · split
    · exact Apart.refl y l
    · exact apart_store ok hz hs x kd l ps
theorem store_len {y : TxS} (ok : y.Ok) (hs : y.stateE = 0) (x : DevS) (kd : Int) (l : List Int) (ps : List ByteArray) : (y.store x kd l ps).2.2.length ≤ ps.length := by
  obtain ⟨-, a2⟩ := apart_fit ok hs l ps.length
  unfold TxS.store
  split
  · simp
  · rename_i h
    split
    · simp
    · rw [(a2 (by simpa using h)).1]
      exact Nat.le_refl _
theorem dwText_le {o s : ByteArray} {off size : Int} (h1 : 0 ≤ off ∧ off ≤ size) (h2 : o.size ≤ 768) (h3 : s.size ≤ 10000) (h4 : dwLong off s.size = false) (h5 : size ≤ 768) : (dwText o s off size).size ≤ 2000 := by
  unfold dwLong wrap64 at h4
  unfold dwText
  simp only [decide_eq_false_iff_not] at h4
  rw [ByteArray.size_append, ByteArray.size_append, ByteArray.size_extract, ByteArray.size_extract]
  omega
theorem dwrite_small {y : TxS} (ok : y.Ok) (hs : y.stateE = 0) (x : DevS) (kd : Int) (l : List Int) (size off : Int) (s : ByteArray) (hsn : s.size ≤ 10000) : (y.dwrite x kd l size off s).2.2.1.length ≤ 1000 ∧ 0 ≤ (y.dwrite x kd l size off s).2.2.2 ∧ (y.dwrite x kd l size off s).2.2.2 ≤ 10000 := by
  unfold TxS.dwrite
  split
  · simp
  · rename_i h1
    split
    · simp
    · obtain ⟨-, q1, q2, q3, q4, q5⟩ := sizedE_zero (by simpa using h1)
      have hb : 0 ≤ off ∧ off ≤ size := by unfold dwBad at q3; simp at q3; omega
      have ht : (y.text x kd l size 0 size).1.size ≤ 768 := Nat.le_trans (textK_size y x kd size 0 size l l.length) (by omega)
      have hd := dwText_le (s := s) hb ht hsn q4 q2
      have hl := store_len ok hs x kd l (cutsL (dwText (y.text x kd l size 0 size).1 s off size))
      rw [cutsL_length] at hl
      unfold nCuts at hl
      split
      · simp
      · simp only; omega
theorem dcut_small {y : TxS} (ok : y.Ok) (hs : y.stateE = 0) (x : DevS) (kd : Int) (l : List Int) (size to_ : Int) : (y.dcut x kd l size to_).2.2.length ≤ 1000 ∧ ((y.dcut x kd l size to_).1 = 0 → 0 ≤ to_ ∧ to_ ≤ 768) := by
  unfold TxS.dcut
  split
  · rename_i h1; exact ⟨by simp, fun h => absurd h h1⟩
  · rename_i h1
    obtain ⟨-, q1, q2, q3, -⟩ := sizedE_zero (by simpa using h1)
    have hb : 0 ≤ to_ ∧ to_ ≤ 768 := by unfold dcBad at q3; simp at q3; omega
    split
    · exact ⟨by simp, fun _ => hb⟩
    · refine ⟨?_, fun _ => hb⟩
      have hl := store_len ok hs x kd l (cutsL (dcText (y.text x kd l size 0 size).1 to_ size))
      rw [cutsL_length] at hl
      have : (dcText (y.text x kd l size 0 size).1 to_ size).size ≤ 768 := by
        unfold dcText
        rw [ByteArray.size_extract]; omega
      unfold nCuts at hl
      omega
theorem dstore_small {y : TxS} (ok : y.Ok) (hs : y.stateE = 0) (x : DevS) (kd : Int) (l : List Int) (ps : List ByteArray) (hp : ps.length ≤ 1000) : (y.dstore x kd l ps).2.2.length ≤ 1000 := by
  unfold TxS.dstore
  split
  · simp
  · split
    · simp
    · exact Nat.le_trans (store_len ok hs x kd l ps) hp

theorem recs_at_ne {y : TxS} {a : Int} (h : a ≠ 1 + y.j) : atRec y.recs a = atRec y.writes a := by
  unfold TxS.recs
  split
  · rw [insRec_at, if_neg]
    show ¬ (1 + y.j = a)
    omega
  · rfl
/-- What the law asks of a block. -/
theorem apart_law {y y' : TxS} {l : List Int} (h : Apart y l y') (hd : 1 + y.j < rgD y.s y.j y.i) {k : Nat} (hk : k < y.now.length) (h0 : y.now.getD k false = true) (hl : (k : Int) ∉ l) :
    y'.now.getD k false = true ∧ (atRec y.recs (rgD y.s y.j y.i + k)).getD noRec = (atRec y'.recs (rgD y.s y.j y.i + k)).getD noRec := by
  obtain ⟨h1, h2⟩ := h.keep k hk h0 hl
  refine ⟨h1, ?_⟩
  rw [recs_at_ne (y := y) (by omega), recs_at_ne (y := y') (by rw [h.same.2.1]; omega), h2]
theorem recs_small {y : TxS} (ok : y.Ok) (hc : y.Clean) : y.recs.length ≤ 100000 := by
  have hb := ok.bds
  rw [recs_length hc]
  have h := ok.len
  unfold TxS.left TxS.most at h
  split at h <;> simp_all <;> omega
theorem freeTx_clean {s j i : Int} (hj : 0 ≤ j) : (freeTx s j i).Clean := ⟨List.Pairwise.nil, fun _ h => (by cases h), fun _ h => (by cases h), hj⟩
theorem TxS.Ok.dts {y : TxS} (ok : y.Ok) : rgD y.s y.j y.i = y.s - y.now.length ∧ 1 + y.j < rgD y.s y.j y.i ∧ 0 < rgD y.s y.j y.i ∧ y.now.length ≤ 256 := by
  have h := ok.bds
  have e : rgD y.s y.j y.i = 2 + y.j + y.i := by unfold rgD; rw [if_pos ok.rg]
  omega
end Go.Proofs.YtljmdcegcckblaaGreatDoor
/- Arguments opened: a slice of one-cell elements as a list. -/
namespace Go.Proofs.YtljmdcegcckblaaGreatDoor
open Go.ChangeShapes Go.WideShapes Go.ChangeAt Go.RowKit Go.Deep

theorem list_of {α : Type} (q : Nat → α → Prop) (n : Nat) (h : ∀ i, i < n → ∃ a, q i a) : ∃ xs : List α, xs.length = n ∧ ∀ i (hi : i < xs.length), q i xs[i] := by
  induction n with
  | zero => exact ⟨[], rfl, fun i hi => by simp at hi⟩
  | succ n ih =>
    obtain ⟨xs, hl, hx⟩ := ih (fun i hi => h i (by omega))
    obtain ⟨a, ha⟩ := h n (by omega)
    refine ⟨xs ++ [a], by simp [hl], fun i hi => ?_⟩
    by_cases hin : i < xs.length
    · rw [List.getElem_append_left hin]; exact hx i hin
    · have : i = n := by simp at hi; omega
      subst this
      rw [List.getElem_append_right (by omega)]
      simpa [hl] using ha

/-- A slice of one-cell elements that came in. -/
theorem open_cells {H : Type} {enc : TypeId × Value → H} {P : Program} {W : World} {α : Type} (mk : α → Value) {t e : TypeId} {fuel : Nat} {v : Value} {x : DataW H × List MemPlace} (ht : P.underlying t = some (.slice e)) (hC : P.cellsOf e = 1)
    (hel : ∀ n cs x, DataW.trod enc P W 0 (fun _ => true) true n e cs = some x → ∃ a, cs = [mk a])
    (h : DataW.trod enc P W 0 (fun _ => true) true fuel t [v] = some x) :
    ∃ (A : Option Addr) (n c : Nat) (xs : List α), v = .slice A n c ∧ xs.length = n ∧ Reads W A (xs.map mk) ∧ n ≤ c ∧ c ≤ maxLen ∧ (A = none → n = 0 ∧ c = 0) := by
  rcases open_slice ht h with ⟨h0, _⟩ | ⟨a, len, cap, m, n, D, Pl, hcs, hb, hl, hm, hmm, hx, hi⟩
  · simp only [List.cons.injEq, and_true] at h0
    subst h0
    exact ⟨none, 0, 0, [], rfl, rfl, Reads.nil, Nat.le_refl _, Nat.zero_le _, fun _ => ⟨rfl, rfl⟩⟩
  · simp only [List.cons.injEq, and_true] at hcs
    subst hcs
    simp only [if_true] at hmm
    have hat : ∀ i, i < len → ∃ u : α, W.cell? (a.add i) = some (mk u) := by
      intro i hi'
      obtain ⟨cs', hc, ht'⟩ := hi i (by omega)
      rw [hC, Nat.mul_one] at hc
      obtain ⟨u, rfl⟩ := hel n cs' _ ht'
      obtain ⟨_, _, hat⟩ := World.cells?_some hc
      have := hat 0 (by omega)
      refine ⟨u, ?_⟩
      simpa [Addr.add] using this
    obtain ⟨xs, hxl, hxs⟩ := list_of (fun i u => W.cell? (a.add i) = some (mk u)) len hat
    refine ⟨some a, len, cap, xs, rfl, hxl, ?_, hl, hm, fun h => by cases h⟩
    rcases Nat.eq_zero_or_pos len with h0 | h0
    · left
      have : xs = [] := List.eq_nil_of_length_eq_zero (by omega)
      simp [this]
    · right
      obtain ⟨b, off, spot⟩ := a
      have h1 := hxs 0 (by omega)
      have hspot : spot = none := by simpa [Addr.add] using World.cell?_spot h1
      subst hspot
      refine ⟨b, off, rfl, ?_, fun j u hu => ?_⟩
      · have := World.block_lt_of_cell? W _ h1
        simpa [Addr.add] using this
      · rw [List.getElem?_map] at hu
        by_cases hj : j < xs.length
        · rw [List.getElem?_eq_getElem hj, Option.map_some, Option.some.injEq] at hu
          subst hu
          have := hxs j hj
          unfold Addr.add at this
          split at this
          · rename_i hj0; subst hj0; simpa using this
          · exact this
        · rw [List.getElem?_eq_none (by omega)] at hu; simp at hu

end Go.Proofs.YtljmdcegcckblaaGreatDoor
/- Arguments opened: an act. -/
namespace Go.Proofs.YtljmdcegcckblaaGreatDoor
open Go.ChangeShapes Go.WideShapes Go.ChangeAt Go.RowKit Go.Deep

theorem Tryz.cellsInt : Tryz.prog.cellsOf 3 = 1 := by kernel_rfl
theorem Tryz.cellsU8 : Tryz.prog.cellsOf 5 = 1 := by kernel_rfl
theorem Tryz.cellsStr : Tryz.prog.cellsOf 9 = 1 := by kernel_rfl
theorem Tryz.cellsInts : Tryz.prog.cellsOf 34 = 1 := by kernel_rfl
theorem Tryz.cellsAct : Tryz.prog.cellsOf 41 = 8 := by kernel_rfl

section
variable {H : Type} {enc : TypeId × Value → H} {W : World}

set_option maxRecDepth 100000 in
theorem open_ints' {fuel : Nat} {v : Value} {x : DataW H × List MemPlace} (h : DataW.trod enc Tryz.prog W 0 (fun _ => true) true fuel 34 [v] = some x) :
    ∃ (A : Option Addr) (n c : Nat) (xs : List Int), v = .slice A n c ∧ xs.length = n ∧ Reads W A (xs.map (Value.int .i64)) ∧ n ≤ c ∧ c ≤ maxLen ∧ (A = none → n = 0 ∧ c = 0) :=
  open_cells (Value.int .i64) Tryz.underlying34 Tryz.cellsInt (fun n cs x hx => by obtain ⟨b, rfl, _⟩ := DataW.trod_int Tryz.underlying3 hx; exact ⟨b, rfl⟩) h

set_option maxRecDepth 100000 in
/-- An act as its cells. -/
theorem open_act_cells {fuel : Nat} {cs : List Value} (hsz : cs.length = 8) {x : DataW H × List MemPlace} (h : DataW.trod enc Tryz.prog W 0 (fun _ => true) true fuel 41 cs = some x) :
    ∃ (wh f kd off n size : Int) (A : Option Addr) (m c : Nat) (l : List Int) (s : ByteArray), cs = [.int .u8 wh, .int .u8 f, .int .i64 kd, .int .i64 off, .int .i64 n, .int .i64 size, .slice A m c, .string s] ∧
      (Lit.int .u8 wh).wf = true ∧ (Lit.int .u8 f).wf = true ∧ (Lit.int .i64 kd).wf = true ∧ (Lit.int .i64 off).wf = true ∧ (Lit.int .i64 n).wf = true ∧ (Lit.int .i64 size).wf = true ∧ l.length = m ∧ Reads W A (l.map (Value.int .i64)) ∧ m ≤ c ∧ c ≤ maxLen ∧ (A = none → m = 0 ∧ c = 0) ∧ s.size ≤ maxLen := by
  match cs, hsz with
  | [c0, c1, c2, c3, c4, c5, c6, c7], _ =>
    obtain ⟨xs, n, _, _, _, hlen, hg⟩ := DataW.trod_struct Tryz.underlying41 h
    have g0 : DataW.trod enc Tryz.prog W 0 (fun _ => true) true n 5 [c0] = xs[0]? := by have := hg 0 _ rfl; simpa [Tryz.cellsU8, Value.cells] using this
    have g1 : DataW.trod enc Tryz.prog W 0 (fun _ => true) true n 5 [c1] = xs[1]? := by have := hg 1 _ rfl; simpa [Tryz.cellsU8, Value.cells] using this
    have g2 : DataW.trod enc Tryz.prog W 0 (fun _ => true) true n 3 [c2] = xs[2]? := by have := hg 2 _ rfl; simpa [Tryz.cellsInt, Value.cells] using this
    have g3 : DataW.trod enc Tryz.prog W 0 (fun _ => true) true n 3 [c3] = xs[3]? := by have := hg 3 _ rfl; simpa [Tryz.cellsInt, Value.cells] using this
    have g4 : DataW.trod enc Tryz.prog W 0 (fun _ => true) true n 3 [c4] = xs[4]? := by have := hg 4 _ rfl; simpa [Tryz.cellsInt, Value.cells] using this
    have g5 : DataW.trod enc Tryz.prog W 0 (fun _ => true) true n 3 [c5] = xs[5]? := by have := hg 5 _ rfl; simpa [Tryz.cellsInt, Value.cells] using this
    have g6 : DataW.trod enc Tryz.prog W 0 (fun _ => true) true n 34 [c6] = xs[6]? := by have := hg 6 _ rfl; simpa [Tryz.cellsInts, Value.cells] using this
    have g7 : DataW.trod enc Tryz.prog W 0 (fun _ => true) true n 9 [c7] = xs[7]? := by have := hg 7 _ rfl; simpa [Tryz.cellsStr, Value.cells] using this
    clear hg
    match xs, hlen with
    | [y0, y1, y2, y3, y4, y5, y6, y7], _ =>
      simp only [List.getElem?_cons_zero, List.getElem?_cons_succ] at g0 g1 g2 g3 g4 g5 g6 g7
      obtain ⟨a0, e0, _, w0⟩ := DataW.trod_int Tryz.underlying5 g0
      obtain ⟨a1, e1, _, w1⟩ := DataW.trod_int Tryz.underlying5 g1
      obtain ⟨a2, e2, _, w2⟩ := DataW.trod_int Tryz.underlying3 g2
      obtain ⟨a3, e3, _, w3⟩ := DataW.trod_int Tryz.underlying3 g3
      obtain ⟨a4, e4, _, w4⟩ := DataW.trod_int Tryz.underlying3 g4
      obtain ⟨a5, e5, _, w5⟩ := DataW.trod_int Tryz.underlying3 g5
      obtain ⟨s, e7, _, w7⟩ := DataW.trod_string Tryz.underlying9 g7
      simp at e0 e1 e2 e3 e4 e5 e7
      subst e0 e1 e2 e3 e4 e5 e7
      obtain ⟨A, m, c, l, rfl, q1, q2, q3, q4, q5⟩ := open_ints' g6
      exact ⟨a0, a1, a2, a3, a4, a5, A, m, c, l, s, rfl, w0, w1, w2, w3, w4, w5, q1, q2, q3, q4, q5, w7⟩

end
theorem wf_u8_iff {f : Int} (h : (Lit.int .u8 f).wf = true) : 0 ≤ f ∧ f ≤ 255 := by
  simp [Lit.wf, IntKind.min, IntKind.max, IntKind.bits, IntKind.signed] at h; omega
theorem wf_i64_iff {f : Int} (h : (Lit.int .i64 f).wf = true) : -9223372036854775808 ≤ f ∧ f ≤ 9223372036854775807 := by
  simp [Lit.wf, IntKind.min, IntKind.max, IntKind.bits, IntKind.signed] at h; omega

end Go.Proofs.YtljmdcegcckblaaGreatDoor
/- Arguments opened: a slice of structs as a list. -/
namespace Go.Proofs.YtljmdcegcckblaaGreatDoor
open Go.ChangeShapes Go.WideShapes Go.ChangeAt Go.RowKit Go.Deep

/-- A slice of elements of k cells that came in. -/
theorem open_rows {H : Type} {enc : TypeId × Value → H} {P : Program} {W : World} {α : Type} (mk : α → List Value) (good : α → Prop) (k : Nat) (hk : 0 < k) {t e : TypeId} {fuel : Nat} {v : Value} {x : DataW H × List MemPlace} (ht : P.underlying t = some (.slice e)) (hC : P.cellsOf e = k)
    (hel : ∀ n cs x, cs.length = k → DataW.trod enc P W 0 (fun _ => true) true n e cs = some x → ∃ a, cs = mk a ∧ good a)
    (h : DataW.trod enc P W 0 (fun _ => true) true fuel t [v] = some x) :
    ∃ (A : Option Addr) (n c : Nat) (xs : List α), v = .slice A n c ∧ xs.length = n ∧ Reads W A (xs.flatMap mk) ∧ (∀ a ∈ xs, (mk a).length = k ∧ good a) ∧ n ≤ c ∧ c ≤ maxLen ∧ (A = none → n = 0 ∧ c = 0) := by
  rcases open_slice ht h with ⟨h0, _⟩ | ⟨a, len, cap, m, n, D, Pl, hcs, hb, hl, hm, hmm, hx, hi⟩
  · simp only [List.cons.injEq, and_true] at h0
    subst h0
    exact ⟨none, 0, 0, [], rfl, rfl, Reads.nil, fun _ h => (by cases h), Nat.le_refl _, Nat.zero_le _, fun _ => ⟨rfl, rfl⟩⟩
  · simp only [List.cons.injEq, and_true] at hcs
    subst hcs
    simp only [if_true] at hmm
    have hat : ∀ i, i < len → ∃ u : α, (mk u).length = k ∧ good u ∧ ∀ j, j < k → W.cell? (a.add (i * k + j)) = (mk u)[j]? := by
      intro i hi'
      obtain ⟨cs', hc, ht'⟩ := hi i (by omega)
      rw [hC] at hc
      obtain ⟨_, hlen, hat⟩ := World.cells?_some hc
      obtain ⟨u, rfl, hg⟩ := hel n cs' _ hlen ht'
      exact ⟨u, hlen, hg, fun j hj => by rw [← Go.Deep.add_add]; exact hat j hj⟩
    obtain ⟨xs, hxl, hxs⟩ := list_of (fun i u => (mk u).length = k ∧ good u ∧ ∀ j, j < k → W.cell? (a.add (i * k + j)) = (mk u)[j]?) len hat
    have hgd : ∀ u ∈ xs, (mk u).length = k ∧ good u := fun u hu => by
      obtain ⟨i, hi', rfl⟩ := List.mem_iff_getElem.1 hu
      exact ⟨(hxs i hi').1, (hxs i hi').2.1⟩
    refine ⟨some a, len, cap, xs, rfl, hxl, ?_, hgd, hl, hm, fun h => by cases h⟩
    rcases Nat.eq_zero_or_pos len with h0 | h0
    · left
      have : xs = [] := List.eq_nil_of_length_eq_zero (by omega)
      simp [this]
    · right
      obtain ⟨b, off, spot⟩ := a
      have h1 := (hxs 0 (by omega)).2.2 0 hk
      have hv0 : ∃ u, (mk (xs[0]'(by omega)))[0]? = some u := ⟨_, List.getElem?_eq_getElem (by rw [(hxs 0 (by omega)).1]; exact hk)⟩
      obtain ⟨u0, hu0⟩ := hv0
      rw [hu0] at h1
      have hspot : spot = none := by simpa [Addr.add] using World.cell?_spot h1
      subst hspot
      refine ⟨b, off, rfl, ?_, fun j u hu => ?_⟩
      · have := World.block_lt_of_cell? W _ h1
        simpa [Addr.add] using this
      · have hjl : j < xs.length * k := by
          have hlt := (List.getElem?_eq_some_iff.1 hu).1
          have : (xs.flatMap mk).length = xs.length * k := by
            clear hu hlt hxl hxs hu0 h1
            induction xs with
            | nil => simp
            | cons y t ih => rw [List.flatMap_cons, List.length_append, (hgd y (by simp)).1, ih (fun u hu => hgd u (List.mem_cons_of_mem _ hu)), List.length_cons, Nat.add_mul, Nat.one_mul, Nat.add_comm]
          rwa [this] at hlt
        have hq : j / k < xs.length := by rw [Nat.div_lt_iff_lt_mul hk]; exact hjl
        have hr : j % k < k := Nat.mod_lt _ hk
        have e := flat_get (f := mk) (m := k) (fun s hs => (hgd s hs).1) hr hq
        have hj : j / k * k + j % k = j := by rw [Nat.mul_comm]; exact Nat.div_add_mod j k
        rw [hj, hu] at e
        have h2 := (hxs (j / k) hq).2.2 (j % k) hr
        rw [hj, ← e] at h2
        unfold Addr.add at h2
        split at h2
        · rename_i hj0; subst hj0; simpa using h2
        · exact h2

end Go.Proofs.YtljmdcegcckblaaGreatDoor
/- Arguments opened: acts. -/
namespace Go.Proofs.YtljmdcegcckblaaGreatDoor
open Go.ChangeShapes Go.WideShapes Go.ChangeAt Go.RowKit Go.Deep

/-- An act as it lies in memory. -/
structure ActV where
  wh : Int
  f : Int
  kd : Int
  off : Int
  n : Int
  size : Int
  A : Option Addr
  m : Nat
  c : Nat
  s : ByteArray
def actL (a : ActV) : List Value := [.int .u8 a.wh, .int .u8 a.f, .int .i64 a.kd, .int .i64 a.off, .int .i64 a.n, .int .i64 a.size, .slice a.A a.m a.c, .string a.s]
/-- What is known of one that came in. -/
structure ActOk (W : World) (a : ActV) : Prop where
  wh : 0 ≤ a.wh ∧ a.wh ≤ 255
  f : 0 ≤ a.f ∧ a.f ≤ 255
  kd : -9223372036854775808 ≤ a.kd ∧ a.kd ≤ 9223372036854775807
  off : -9223372036854775808 ≤ a.off ∧ a.off ≤ 9223372036854775807
  n : -9223372036854775808 ≤ a.n ∧ a.n ≤ 9223372036854775807
  size : -9223372036854775808 ≤ a.size ∧ a.size ≤ 9223372036854775807
  list : ∃ l : List Int, l.length = a.m ∧ Reads W a.A (l.map (.int .i64)) ∧ a.m ≤ a.c ∧ (a.A = none → a.m = 0 ∧ a.c = 0)
  str : a.s.size ≤ maxLen

set_option maxRecDepth 100000 in
theorem open_acts {H : Type} {enc : TypeId × Value → H} {W : World} {fuel : Nat} {v : Value} {x : DataW H × List MemPlace} (h : DataW.trod enc Tryz.prog W 0 (fun _ => true) true fuel 24 [v] = some x) :
    ∃ (A : Option Addr) (n c : Nat) (xs : List ActV), v = .slice A n c ∧ xs.length = n ∧ Reads W A (xs.flatMap actL) ∧ (∀ a ∈ xs, ActOk W a) ∧ n ≤ c ∧ c ≤ maxLen ∧ (A = none → n = 0 ∧ c = 0) := by
  obtain ⟨A, n, c, xs, h1, h2, h3, h4, h5⟩ := open_rows actL (ActOk W) 8 (by omega) Tryz.underlying24 Tryz.cellsAct (fun n cs x hsz hx => by
    obtain ⟨wh, f, kd, off, n', size, A, m, c, l, s, e, w0, w1, w2, w3, w4, w5, q1, q2, q3, -, q5, q6⟩ := open_act_cells hsz hx
    exact ⟨⟨wh, f, kd, off, n', size, A, m, c, s⟩, e, ⟨wf_u8_iff w0, wf_u8_iff w1, wf_i64_iff w2, wf_i64_iff w3, wf_i64_iff w4, wf_i64_iff w5, ⟨l, q1, q2, q3, q5⟩, q6⟩⟩) h
  exact ⟨A, n, c, xs, h1, h2, h3, fun a ha => (h4 a ha).2, h5⟩

end Go.Proofs.YtljmdcegcckblaaGreatDoor
