/- Parts of the proof, put together by program: DY, NP, NO, NQ, NR. -/
import Derived.Test.YtljmdcegcckblaaGreatDoorPart42
import Derived.Test.YtljmdcegcckblaaGreatDoorPart01
import Derived.Test.YtljmdcegcckblaaGreatDoorProg
import Derived.ProofKit
import Derived.Deep.Slices
import Derived.Test.YtljmdcegcckblaaGreatDoorPart08
/- P12.9 in plain words: what Commit and the next Begin leave of what lists hold; what ErrLong leaves. No program in sight. -/
namespace Go.Proofs.YtljmdcegcckblaaGreatDoor
open Go.RowKit Go.Maps

theorem commit_cache {x : DevS} {F Z : Int} {l : List Rec} (h : (x.commit F Z l).1 = 0) : (x.commit F Z l).2.cache = [] := by
  unfold DevS.commit at h ⊢
  by_cases h1 : (x.log F Z l).1 ≠ 0
  · rw [if_pos h1] at h; exact absurd h h1
  · rw [if_neg h1] at h ⊢
    by_cases h2 : ((x.log F Z l).2.apply F Z).2.1 ≠ 0
    · rw [if_pos h2] at h; exact absurd h h2
    · rw [if_neg h2] at h ⊢
      exact (clear_taken h).2
theorem tfmt_cache {x : DevS} {s j i : Int} (h : (x.tfmt s j i).1 = 0) : (x.tfmt s j i).2.cache = [] := by
  unfold DevS.tfmt at h ⊢
  by_cases h1 : findE x.stable.length s j i ≠ 0
  · rw [if_pos h1] at h; exact absurd h h1
  · rw [if_neg h1] at h ⊢
    by_cases h2 : (x.jfmt 1 j).1 ≠ 0
    · rw [if_pos h2] at h; exact absurd h h2
    · rw [if_neg h2] at h ⊢
      exact commit_cache h

/-- What holds of a transaction since it began, whatever was called. -/
structure Hist (s j i : Int) (us : List Bool) (y : TxS) : Prop where
  s : y.s = s
  j : y.j = j
  i : y.i = i
  ch : y.changed = false → y.now = us
  en : y.ended = false
theorem Hist.beg (s j i : Int) (us : List Bool) : Hist s j i us (begTx s j i us) := ⟨rfl, rfl, rfl, fun _ => rfl, rfl⟩
section
variable {s j i : Int} {us : List Bool} {y : TxS}
theorem Hist.brk (h : Hist s j i us y) : Hist s j i us y.brk := ⟨h.s, h.j, h.i, h.ch, h.en⟩
theorem Hist.change (h : Hist s j i us y) (vs : List Bool) (n : Nat) : Hist s j i us (y.change vs n) := by
  unfold TxS.change
  split
  · exact h
  · split
    · exact h
    · exact ⟨h.s, h.j, h.i, fun e => (by cases e), h.en⟩
theorem Hist.write (h : Hist s j i us y) (a k : Int) (d : ByteArray) : Hist s j i us (y.write a k d).2 := by
  unfold TxS.write
  split
  · exact h
  · split
    · exact h.brk
    · exact ⟨h.s, h.j, h.i, h.ch, h.en⟩
theorem Hist.take (h : Hist s j i us y) (a n : Int) : Hist s j i us (y.take a n).2 := by
  unfold TxS.take
  split
  · exact h
  · split
    · exact h.brk
    · exact h.change _ _
theorem Hist.free (h : Hist s j i us y) (l : List Int) : Hist s j i us (y.free l).2 := by
  unfold TxS.free
  split
  · exact h
  · split
    · exact h.brk
    · exact h.change _ _
end
/-- What write, take and free keep is kept by Store, Write and Cut. -/
theorem kept_store_law {Q : TxS → Prop} (hw : ∀ y a k d, Q y → Q (y.write a k d).2) (ht : ∀ y a n, Q y → Q (y.take a n).2) (hf : ∀ y l, Q y → Q (y.free l).2) {y : TxS} (h : Q y) (x : DevS) (kd : Int) (l : List Int) (ps : List ByteArray) : Q (y.store x kd l ps).2.1 := by
  have hfit : Q (y.fit l ps.length).2.1 := by
    unfold TxS.fit
    split
    · exact hf _ _ h
    · split
      · exact ht _ _ _ h
      · exact h
  have hputs : ∀ k, Q ((y.fit l ps.length).2.1.puts x kd (y.fit l ps.length).2.2 ps k).2 := by
    intro k
    induction k with
    | zero => exact hfit
    | succ k ih =>
      unfold TxS.puts
      split
      · exact ih
      · split
        · exact ih
        · exact hw _ _ _ _ ih
  unfold TxS.store
  split
  · exact hfit
  · split <;> exact hputs _
section
variable {Q : TxS → Prop} (hw : ∀ y a k d, Q y → Q (y.write a k d).2) (ht : ∀ y a n, Q y → Q (y.take a n).2) (hf : ∀ y l, Q y → Q (y.free l).2) {y : TxS} (h : Q y)
include hw ht hf h
theorem kept_dwrite_law (x : DevS) (kd : Int) (l : List Int) (size off : Int) (s : ByteArray) : Q (y.dwrite x kd l size off s).2.1 := by
  unfold TxS.dwrite
  split
  · exact h
  · split
    · exact h
    · split <;> exact kept_store_law hw ht hf h _ _ _ _
theorem kept_dcut_law (x : DevS) (kd : Int) (l : List Int) (size to_ : Int) : Q (y.dcut x kd l size to_).2.1 := by
  unfold TxS.dcut
  split
  · exact h
  · split
    · exact h
    · exact kept_store_law hw ht hf h _ _ _ _
theorem kept_dstore_law (x : DevS) (kd : Int) (l : List Int) (ps : List ByteArray) : Q (y.dstore x kd l ps).2.1 := by
  unfold TxS.dstore
  split
  · exact h
  · split
    · exact h
    · exact kept_store_law hw ht hf h _ _ _ _
end
/-- Both at once. -/
structure HC (s j i : Int) (us : List Bool) (y : TxS) : Prop where
  c : y.Clean
  h : Hist s j i us y
section
variable {s j i : Int} {us : List Bool} {y : TxS}
theorem HC.write (h : HC s j i us y) (a k : Int) (d : ByteArray) : HC s j i us (y.write a k d).2 := ⟨h.c.write a k d, h.h.write a k d⟩
theorem HC.take (h : HC s j i us y) (a n : Int) : HC s j i us (y.take a n).2 := ⟨h.c.take a n, h.h.take a n⟩
theorem HC.free (h : HC s j i us y) (l : List Int) : HC s j i us (y.free l).2 := ⟨h.c.free l, h.h.free l⟩
theorem HC.dwrite (h : HC s j i us y) (x : DevS) (kd : Int) (l : List Int) (size off : Int) (t : ByteArray) : HC s j i us (y.dwrite x kd l size off t).2.1 := kept_dwrite_law (fun _ a k d h => h.write a k d) (fun _ a n h => h.take a n) (fun _ l h => h.free l) h x kd l size off t
theorem HC.dcut (h : HC s j i us y) (x : DevS) (kd : Int) (l : List Int) (size to_ : Int) : HC s j i us (y.dcut x kd l size to_).2.1 := kept_dcut_law (fun _ a k d h => h.write a k d) (fun _ a n h => h.take a n) (fun _ l h => h.free l) h x kd l size to_
theorem HC.dstore (h : HC s j i us y) (x : DevS) (kd : Int) (l : List Int) (ps : List ByteArray) : HC s j i us (y.dstore x kd l ps).2.1 := kept_dstore_law (fun _ a k d h => h.write a k d) (fun _ a n h => h.take a n) (fun _ l h => h.free l) h x kd l ps
end

/- No error inside is ErrLong. -/
theorem rgE_ne3 (s j i : Int) : rgE s j i ≠ 3 := by rcases rgE_cases s j i with h | h | h <;> rw [h] <;> decide
theorem ckE_ne3 (s j i : Int) (n : Nat) : CkE s j i n ≠ 3 := by
  unfold CkE
  split
  · split <;> decide
  · exact rgE_ne3 s j i
theorem lsE_ne3 (n : Nat) (l : List Int) : ∀ k, LsE n l k ≠ 3
  | 0 => (by decide : (0 : Int) ≠ 3)
  | k + 1 => by
    show (if LsE n l k = 0 then stepE n l k else LsE n l k) ≠ 3
    split
    · unfold stepE; split
      · decide
      · split <;> decide
    · exact lsE_ne3 n l k
theorem alE_ne3 (s j i : Int) (us : List Bool) (a n : Int) : AlE s j i us a n ≠ 3 := by
  unfold AlE
  split
  · split
    · decide
    · split <;> decide
  · exact ckE_ne3 _ _ _ _
theorem tnE_ne3 (s j i : Int) (us : List Bool) (l : List Int) : TnE s j i us l false 4 ≠ 3 := by
  unfold TnE
  split
  · split
    · split <;> decide
    · exact lsE_ne3 _ _ _
  · exact ckE_ne3 _ _ _ _
theorem state_ne3 (y : TxS) : y.stateE ≠ 3 := by unfold TxS.stateE; split <;> decide
theorem changeE_ne3 (y : TxS) (n : Nat) : y.changeE n ≠ 3 := by
  unfold TxS.changeE
  split
  · decide
  · split <;> decide
theorem take_ne3 (y : TxS) (a n : Int) : (y.take a n).1 ≠ 3 := by
  unfold TxS.take
  split
  · exact state_ne3 y
  · split
    · show y.takeE a n ≠ 3
      unfold TxS.takeE
      split
      · exact alE_ne3 _ _ _ _ _ _
      · exact changeE_ne3 _ _
    · exact (by decide : (0 : Int) ≠ 3)
theorem free_ne3 (y : TxS) (l : List Int) : (y.free l).1 ≠ 3 := by
  unfold TxS.free
  split
  · exact state_ne3 y
  · split
    · show y.freeE l ≠ 3
      unfold TxS.freeE
      split
      · exact tnE_ne3 _ _ _ _ _
      · exact changeE_ne3 _ _
    · exact (by decide : (0 : Int) ≠ 3)
theorem write_ne3 (y : TxS) (a k : Int) (d : ByteArray) (hd : d.size ≤ 96) : (y.write a k d).1 ≠ 3 := by
  unfold TxS.write
  split
  · exact state_ne3 y
  · split
    · show y.writeE a k d.size ≠ 3
      unfold TxS.writeE
      rw [if_neg (show ¬ 96 < d.size by omega)]
      split
      · decide
      · split
        · decide
        · split <;> decide
    · exact (by decide : (0 : Int) ≠ 3)
theorem store_ne3 (y : TxS) (x : DevS) (kd : Int) (l : List Int) (ps : List ByteArray) (hp : ∀ p ∈ ps, p.size ≤ 96) : (y.store x kd l ps).1 ≠ 3 := by
  have hg : ∀ k, (ps.getD k ⟨#[]⟩).size ≤ 96 := fun k => by
    rw [List.getD_eq_getElem?_getD]
    cases e : ps[k]? with
    | none => show (⟨#[]⟩ : ByteArray).size ≤ 96; decide
    | some p => exact hp p (List.mem_of_getElem? e)
  have hfit : (y.fit l ps.length).1 ≠ 3 := by
    unfold TxS.fit
    split
    · exact free_ne3 _ _
    · split
      · exact take_ne3 _ _ _
      · exact (by decide : (0 : Int) ≠ 3)
  have hputs : ∀ (z : TxS) (L : List Int) k, (z.puts x kd L ps k).1 ≠ 3 := by
    intro z L k
    induction k with
    | zero => exact (by decide : (0 : Int) ≠ 3)
    | succ k ih =>
      unfold TxS.puts
      split
      · exact ih
      · split
        · exact ih
        · exact write_ne3 _ _ _ _ (hg k)
  unfold TxS.store
  split
  · exact hfit
  · split
    · exact hputs _ _ _
    · exact (by decide : (0 : Int) ≠ 3)
theorem cutsL_small (t : ByteArray) : ∀ p ∈ cutsL t, p.size ≤ 96 := fun p hp => by
  unfold cutsL at hp
  obtain ⟨k, -, rfl⟩ := List.mem_map.1 hp
  rw [cutAt_sz]; omega
/-- ErrLong leaves all as it was. -/
theorem dwrite_long {y : TxS} {x : DevS} {kd : Int} {l : List Int} {size off : Int} {s : ByteArray} (h : (y.dwrite x kd l size off s).1 = 3) : (y.dwrite x kd l size off s).2.1 = y := by
  unfold TxS.dwrite at h ⊢
  split
  · rfl
  · rename_i h1
    rw [if_neg h1] at h
    split
    · rfl
    · rename_i h2
      rw [if_neg h2] at h
      exfalso
      split at h
      · exact store_ne3 y x kd l _ (cutsL_small _) h
      · cases h
theorem dcut_long {y : TxS} {x : DevS} {kd : Int} {l : List Int} {size to_ : Int} (h : (y.dcut x kd l size to_).1 = 3) : (y.dcut x kd l size to_).2.1 = y := by
  unfold TxS.dcut at h ⊢
  split
  · rfl
  · rename_i h1
    rw [if_neg h1] at h
    split
    · rfl
    · rename_i h2
      rw [if_neg h2] at h
      exact absurd h (store_ne3 y x kd l _ (cutsL_small _))
theorem dstore_long {y : TxS} {x : DevS} {kd : Int} {l : List Int} {ps : List ByteArray} (h : (y.dstore x kd l ps).1 = 3) : (y.dstore x kd l ps).2.1 = y := by
  unfold TxS.dstore at h ⊢
  split
  · rfl
  · rename_i h1
    rw [if_neg h1] at h
    split
    · rfl
    · rename_i h2
      rw [if_neg h2] at h
      refine absurd h (store_ne3 y x kd l ps fun p hp => ?_)
      simp only [not_or] at h2
      have := List.any_eq_false.1 (show longs ps = false by simpa using h2.2) p hp
      simp at this
      omega

/-- Parts of a list, in two states. -/
theorem loadK_same {y z : TxS} {x v : DevS} {kd : Int} {l : List Int} (hp : ∀ b ∈ l, z.part v kd b = y.part x kd b) : ∀ k, k ≤ l.length → loadK z v kd l k = loadK y x kd l k
  | 0, _ => rfl
  | k + 1, hk => by
    have hm : l.getD k 0 ∈ l := by rw [List.getD_eq_getElem?_getD, List.getElem?_eq_getElem (by omega)]; exact List.getElem_mem _
    show (if (loadK z v kd l k).2 ≠ 0 then loadK z v kd l k else _) = (if (loadK y x kd l k).2 ≠ 0 then loadK y x kd l k else _)
    rw [loadK_same hp k (by omega), hp _ hm]
theorem loadK_ok {y : TxS} {x : DevS} {kd : Int} {l : List Int} (hp : ∀ b ∈ l, (y.part x kd b).2 = 0) : ∀ k, k ≤ l.length → (loadK y x kd l k).2 = 0
  | 0, _ => rfl
  | k + 1, hk => by
    have hm : l.getD k 0 ∈ l := by rw [List.getD_eq_getElem?_getD, List.getElem?_eq_getElem (by omega)]; exact List.getElem_mem _
    show (if (loadK y x kd l k).2 ≠ 0 then loadK y x kd l k else if (y.part x kd (l.getD k 0)).2 ≠ 0 then _ else _).2 = 0
    rw [if_neg (by simpa using loadK_ok hp k (by omega)), if_neg (by simpa using hp _ hm)]

/-- What is known of three lists: the third one's parts can be read, too. -/
structure Book2 (y : TxS) (x : DevS) (l0 l1 l2 : List Int) (t0 t1 : ByteArray) : Prop where
  bk : BookOk y x l0 l1 l2 t0 t1
  pt : ∀ b ∈ l2, (y.part x 7 b).2 = 0
theorem Book2.nil (y : TxS) (x : DevS) (hs : y.stateE = 0) : Book2 y x [] [] [] ⟨#[]⟩ ⟨#[]⟩ := ⟨.nil y x hs, fun _ h => (by cases h)⟩
section
variable {y y2 : TxS} {x : DevS} {l0 l1 l2 L : List Int} {t0 t1 t : ByteArray} {ps : List ByteArray}
theorem Book2.put0 (h : Book2 y x l0 l1 l2 t0 t1) (hst : Stored y y2 x 8 l0 L (cutsL t)) (hz : t.size ≤ 768) : Book2 y2 x L l1 l2 t t1 :=
  ⟨h.bk.put0 hst hz, fun b hb => by rw [(hst.other h.bk.a2 (fun b hb hb0 => h.bk.d02 b hb0 hb)).2.2 7 b hb]; exact h.pt b hb⟩
theorem Book2.put1 (h : Book2 y x l0 l1 l2 t0 t1) (hst : Stored y y2 x 8 l1 L (cutsL t)) (hz : t.size ≤ 768) : Book2 y2 x l0 L l2 t0 t :=
  ⟨h.bk.put1 hst hz, fun b hb => by rw [(hst.other h.bk.a2 (fun b hb hb0 => h.bk.d12 b hb0 hb)).2.2 7 b hb]; exact h.pt b hb⟩
theorem Book2.put2 (h : Book2 y x l0 l1 l2 t0 t1) (hst : Stored y y2 x 7 l2 L ps) (h8 : ps.length ≤ 8) : Book2 y2 x l0 l1 L t0 t1 :=
  ⟨h.bk.put2 hst h8, fun b hb => by
    obtain ⟨k, hk, rfl⟩ := List.mem_iff_getElem.1 hb
    have := hst.hit k (by rw [← hst.len]; exact hk)
    rw [List.getD_eq_getElem?_getD, List.getElem?_eq_getElem hk] at this
    simp only [Option.getD_some] at this
    rw [this]⟩
theorem Book2.load (h : Book2 y x l0 l1 l2 t0 t1) : (y.dload x 7 l2).2 = 0 := by
  unfold TxS.dload
  rw [if_neg (by simpa using open_holds h.bk.st h.bk.a2 h.bk.len2)]
  exact loadK_ok h.pt _ (Nat.le_refl _)

/-- What a block has, before a Commit and after the next Begin. -/
theorem part_commit {x' : DevS} (ok : y.Ok) (hs : y.stateE = 0) (hw : ∀ r ∈ y.writes, x'.ge r.at_ = 0 ∧ ∃ q, x'.fr r.at_ = ⟨r.kind, q, r.data⟩) (ho : ∀ b : Int, 0 ≤ b → b < y.s → (b < 1 ∨ 1 + y.j < b) → b ∉ y.writes.map (·.at_) → sameFr x x' b)
    (kd b : Int) (hb : 0 ≤ b ∧ b < y.now.length) : (begTx y.s y.j y.i y.now).part x' kd b = y.part x kd b := by
  have hbd := ok.bds
  have hse : SecE y.s y.j y.i b = 0 := by
    have := rgB_bds y.s y.j y.i
    have := ok.now
    unfold SecE; rw [if_pos ok.rg, if_neg (by omega)]
  have hsv : SecV y.s y.j y.i b = 2 + y.j + y.i + b := by
    unfold SecV rgD; rw [if_pos hse, if_pos ok.rg]
  have hrd : (begTx y.s y.j y.i y.now).read x' (SecV y.s y.j y.i b) = y.read x (SecV y.s y.j y.i b) := by
    rw [hsv]
    have e1 : (begTx y.s y.j y.i y.now).read x' (2 + y.j + y.i + b) = (begTx y.s y.j y.i y.now).readR x' (2 + y.j + y.i + b) := by
      unfold TxS.read
      rw [if_neg (show ¬ (begTx y.s y.j y.i y.now).stateE ≠ 0 from fun h => h rfl), if_neg (show ¬ (2 + y.j + y.i + b < 0 ∨ (begTx y.s y.j y.i y.now).s ≤ 2 + y.j + y.i + b) from (by omega : ¬ (2 + y.j + y.i + b < 0 ∨ y.s ≤ 2 + y.j + y.i + b)))]
    have e2 : y.read x (2 + y.j + y.i + b) = y.readR x (2 + y.j + y.i + b) := by
      unfold TxS.read
      rw [if_neg (by simpa using hs), if_neg (by omega)]
    rw [e1, e2]
    unfold TxS.readR TxS.look
    rw [if_neg (show ¬ (2 + y.j + y.i + b = 1 + (begTx y.s y.j y.i y.now).j ∧ (begTx y.s y.j y.i y.now).changed = true) by rintro ⟨-, h⟩; cases h), if_neg (show ¬ (2 + y.j + y.i + b = 1 + y.j ∧ y.changed = true) by omega)]
    show ((x'.fr _).kind, (x'.fr _).data, x'.ge _) = _
    cases e : atRec y.writes (2 + y.j + y.i + b) with
    | some r =>
      obtain ⟨hr, hat⟩ := atRec_mem e
      obtain ⟨k1, q, k2⟩ := hw r hr
      rw [hat] at k1 k2
      simp only
      rw [k1, k2]
    | none =>
      have h := ho (2 + y.j + y.i + b) (by omega) (by omega) (by omega) (fun hm => by
        obtain ⟨r, hr, he⟩ := List.mem_map.1 hm
        exact atRec_none e r hr he)
      simp only
      rw [h.1, h.2]
  unfold TxS.part
  rw [show (begTx y.s y.j y.i y.now).read x' (SecV (begTx y.s y.j y.i y.now).s (begTx y.s y.j y.i y.now).j (begTx y.s y.j y.i y.now).i b) = y.read x (SecV y.s y.j y.i b) from hrd]
theorem Lst.reborn {l : List Int} (h : Lst y l) : Lst (begTx y.s y.j y.i y.now) l := ⟨h.rng, h.nd, h.used⟩
theorem Holds.reborn {x' : DevS} {kd : Int} {l : List Int} (h : Holds y x kd l t) (hl : Lst y l) (hp : ∀ b : Int, 0 ≤ b ∧ b < y.now.length → (begTx y.s y.j y.i y.now).part x' kd b = y.part x kd b) : Holds (begTx y.s y.j y.i y.now) x' kd l t :=
  ⟨h.len, h.sz, fun k hk => by
    have hkl : k < l.length := by rw [h.len]; exact hk
    have hm : l.getD k 0 ∈ l := by rw [List.getD_eq_getElem?_getD, List.getElem?_eq_getElem hkl]; exact List.getElem_mem hkl
    rw [hp _ (hl.rng _ hm)]; exact h.part k hk⟩
theorem Book2.reborn {x' : DevS} (h : Book2 y x l0 l1 l2 t0 t1) (hp : ∀ (kd b : Int), 0 ≤ b ∧ b < y.now.length → (begTx y.s y.j y.i y.now).part x' kd b = y.part x kd b) :
    Book2 (begTx y.s y.j y.i y.now) x' l0 l1 l2 t0 t1 ∧ (begTx y.s y.j y.i y.now).dload x' 7 l2 = y.dload x 7 l2 := by
  have hb := h.bk
  refine ⟨⟨⟨rfl, hb.a0.reborn, hb.a1.reborn, hb.a2.reborn, hb.h0.reborn hb.a0 (hp 8), hb.h1.reborn hb.a1 (hp 8), hb.len2, hb.d01, hb.d02, hb.d12⟩, fun b hm => by rw [hp 7 b (hb.a2.rng b hm)]; exact h.pt b hm⟩, ?_⟩
  unfold TxS.dload
  rw [if_neg (by simpa using open_holds (y := begTx y.s y.j y.i y.now) rfl hb.a2.reborn hb.len2), if_neg (by simpa using open_holds hb.st hb.a2 hb.len2)]
  exact loadK_same (fun b hm => hp 7 b (hb.a2.rng b hm)) _ (Nat.le_refl _)
end
end Go.Proofs.YtljmdcegcckblaaGreatDoor
/- Arguments opened: a slice of one-cell elements as a list. -/
namespace Go.Proofs.YtljmdcegcckblaaGreatDoor
open Go.ChangeShapes Go.WideShapes Go.ChangeAt Go.RowKit Go.Deep

theorem list_of {α : Type} (q : Nat → α → Prop) (n : Nat) (h : ∀ i, i < n → ∃ a, q i a) : ∃ xs : List α, xs.length = n ∧ ∀ i (hi : i < xs.length), q i xs[i] := by
  induction n with
  | zero => exact ⟨[], rfl, fun i hi => by simp at hi⟩
  | succ n ih =>
    obtain ⟨xs, hl, hx⟩ := ih (fun i hi => h i (by omega))
    obtain ⟨a, ha⟩ := h n (by omega)
    refine ⟨xs ++ [a], by simp [hl], fun i hi => ?_⟩
    by_cases hin : i < xs.length
    · rw [List.getElem_append_left hin]; exact hx i hin
    · have : i = n := by simp at hi; omega
      subst this
      rw [List.getElem_append_right (by omega)]
      simpa [hl] using ha

/-- A slice of one-cell elements that came in. -/
theorem open_cells {H : Type} {enc : TypeId × Value → H} {P : Program} {W : World} {α : Type} (mk : α → Value) {t e : TypeId} {fuel : Nat} {v : Value} {x : DataW H × List MemPlace} (ht : P.underlying t = some (.slice e)) (hC : P.cellsOf e = 1)
    (hel : ∀ n cs x, DataW.trod enc P W 0 (fun _ => true) true n e cs = some x → ∃ a, cs = [mk a])
    (h : DataW.trod enc P W 0 (fun _ => true) true fuel t [v] = some x) :
    ∃ (A : Option Addr) (n c : Nat) (xs : List α), v = .slice A n c ∧ xs.length = n ∧ Reads W A (xs.map mk) ∧ n ≤ c ∧ c ≤ maxLen ∧ (A = none → n = 0 ∧ c = 0) := by
  rcases open_slice ht h with ⟨h0, _⟩ | ⟨a, len, cap, m, n, D, Pl, hcs, hb, hl, hm, hmm, hx, hi⟩
  · simp only [List.cons.injEq, and_true] at h0
    subst h0
    exact ⟨none, 0, 0, [], rfl, rfl, Reads.nil, Nat.le_refl _, Nat.zero_le _, fun _ => ⟨rfl, rfl⟩⟩
  · simp only [List.cons.injEq, and_true] at hcs
    subst hcs
    simp only [if_true] at hmm
    have hat : ∀ i, i < len → ∃ u : α, W.cell? (a.add i) = some (mk u) := by
      intro i hi'
      obtain ⟨cs', hc, ht'⟩ := hi i (by omega)
      rw [hC, Nat.mul_one] at hc
      obtain ⟨u, rfl⟩ := hel n cs' _ ht'
      obtain ⟨_, _, hat⟩ := World.cells?_some hc
      have := hat 0 (by omega)
      refine ⟨u, ?_⟩
      simpa [Addr.add] using this
    obtain ⟨xs, hxl, hxs⟩ := list_of (fun i u => W.cell? (a.add i) = some (mk u)) len hat
    refine ⟨some a, len, cap, xs, rfl, hxl, ?_, hl, hm, fun h => by cases h⟩
    rcases Nat.eq_zero_or_pos len with h0 | h0
    · left
      have : xs = [] := List.eq_nil_of_length_eq_zero (by omega)
      simp [this]
    · right
      obtain ⟨b, off, spot⟩ := a
      have h1 := hxs 0 (by omega)
      have hspot : spot = none := by simpa [Addr.add] using World.cell?_spot h1
      subst hspot
      refine ⟨b, off, rfl, ?_, fun j u hu => ?_⟩
      · have := World.block_lt_of_cell? W _ h1
        simpa [Addr.add] using this
      · rw [List.getElem?_map] at hu
        by_cases hj : j < xs.length
        · rw [List.getElem?_eq_getElem hj, Option.map_some, Option.some.injEq] at hu
          subst hu
          have := hxs j hj
          unfold Addr.add at this
          split at this
          · rename_i hj0; subst hj0; simpa using this
          · exact this
        · rw [List.getElem?_eq_none (by omega)] at hu; simp at hu

end Go.Proofs.YtljmdcegcckblaaGreatDoor
/- Arguments opened: an act. -/
namespace Go.Proofs.YtljmdcegcckblaaGreatDoor
open Go.ChangeShapes Go.WideShapes Go.ChangeAt Go.RowKit Go.Deep

theorem Tryz.cellsInt : Tryz.prog.cellsOf 3 = 1 := by kernel_rfl
theorem Tryz.cellsU8 : Tryz.prog.cellsOf 5 = 1 := by kernel_rfl
theorem Tryz.cellsStr : Tryz.prog.cellsOf 9 = 1 := by kernel_rfl
theorem Tryz.cellsInts : Tryz.prog.cellsOf 34 = 1 := by kernel_rfl
theorem Tryz.cellsAct : Tryz.prog.cellsOf 41 = 8 := by kernel_rfl

section
variable {H : Type} {enc : TypeId × Value → H} {W : World}

set_option maxRecDepth 100000 in
theorem open_ints' {fuel : Nat} {v : Value} {x : DataW H × List MemPlace} (h : DataW.trod enc Tryz.prog W 0 (fun _ => true) true fuel 34 [v] = some x) :
    ∃ (A : Option Addr) (n c : Nat) (xs : List Int), v = .slice A n c ∧ xs.length = n ∧ Reads W A (xs.map (Value.int .i64)) ∧ n ≤ c ∧ c ≤ maxLen ∧ (A = none → n = 0 ∧ c = 0) :=
  open_cells (Value.int .i64) Tryz.underlying34 Tryz.cellsInt (fun n cs x hx => by obtain ⟨b, rfl, _⟩ := DataW.trod_int Tryz.underlying3 hx; exact ⟨b, rfl⟩) h

set_option maxRecDepth 100000 in
/-- An act as its cells. -/
theorem open_act_cells {fuel : Nat} {cs : List Value} (hsz : cs.length = 8) {x : DataW H × List MemPlace} (h : DataW.trod enc Tryz.prog W 0 (fun _ => true) true fuel 41 cs = some x) :
    ∃ (wh f kd off n size : Int) (A : Option Addr) (m c : Nat) (l : List Int) (s : ByteArray), cs = [.int .u8 wh, .int .u8 f, .int .i64 kd, .int .i64 off, .int .i64 n, .int .i64 size, .slice A m c, .string s] ∧
      (Lit.int .u8 wh).wf = true ∧ (Lit.int .u8 f).wf = true ∧ (Lit.int .i64 kd).wf = true ∧ (Lit.int .i64 off).wf = true ∧ (Lit.int .i64 n).wf = true ∧ (Lit.int .i64 size).wf = true ∧ l.length = m ∧ Reads W A (l.map (Value.int .i64)) ∧ m ≤ c ∧ c ≤ maxLen ∧ (A = none → m = 0 ∧ c = 0) ∧ s.size ≤ maxLen := by
  match cs, hsz with
  | [c0, c1, c2, c3, c4, c5, c6, c7], _ =>
    obtain ⟨xs, n, _, _, _, hlen, hg⟩ := DataW.trod_struct Tryz.underlying41 h
    have g0 : DataW.trod enc Tryz.prog W 0 (fun _ => true) true n 5 [c0] = xs[0]? := by have := hg 0 _ rfl; simpa [Tryz.cellsU8, Value.cells] using this
    have g1 : DataW.trod enc Tryz.prog W 0 (fun _ => true) true n 5 [c1] = xs[1]? := by have := hg 1 _ rfl; simpa [Tryz.cellsU8, Value.cells] using this
    have g2 : DataW.trod enc Tryz.prog W 0 (fun _ => true) true n 3 [c2] = xs[2]? := by have := hg 2 _ rfl; simpa [Tryz.cellsInt, Value.cells] using this
    have g3 : DataW.trod enc Tryz.prog W 0 (fun _ => true) true n 3 [c3] = xs[3]? := by have := hg 3 _ rfl; simpa [Tryz.cellsInt, Value.cells] using this
    have g4 : DataW.trod enc Tryz.prog W 0 (fun _ => true) true n 3 [c4] = xs[4]? := by have := hg 4 _ rfl; simpa [Tryz.cellsInt, Value.cells] using this
    have g5 : DataW.trod enc Tryz.prog W 0 (fun _ => true) true n 3 [c5] = xs[5]? := by have := hg 5 _ rfl; simpa [Tryz.cellsInt, Value.cells] using this
    have g6 : DataW.trod enc Tryz.prog W 0 (fun _ => true) true n 34 [c6] = xs[6]? := by have := hg 6 _ rfl; simpa [Tryz.cellsInts, Value.cells] using this
    have g7 : DataW.trod enc Tryz.prog W 0 (fun _ => true) true n 9 [c7] = xs[7]? := by have := hg 7 _ rfl; simpa [Tryz.cellsStr, Value.cells] using this
    clear hg
    match xs, hlen with
    | [y0, y1, y2, y3, y4, y5, y6, y7], _ =>
      simp only [List.getElem?_cons_zero, List.getElem?_cons_succ] at g0 g1 g2 g3 g4 g5 g6 g7
      obtain ⟨a0, e0, _, w0⟩ := DataW.trod_int Tryz.underlying5 g0
      obtain ⟨a1, e1, _, w1⟩ := DataW.trod_int Tryz.underlying5 g1
      obtain ⟨a2, e2, _, w2⟩ := DataW.trod_int Tryz.underlying3 g2
      obtain ⟨a3, e3, _, w3⟩ := DataW.trod_int Tryz.underlying3 g3
      obtain ⟨a4, e4, _, w4⟩ := DataW.trod_int Tryz.underlying3 g4
      obtain ⟨a5, e5, _, w5⟩ := DataW.trod_int Tryz.underlying3 g5
      obtain ⟨s, e7, _, w7⟩ := DataW.trod_string Tryz.underlying9 g7
      simp at e0 e1 e2 e3 e4 e5 e7
      subst e0 e1 e2 e3 e4 e5 e7
      obtain ⟨A, m, c, l, rfl, q1, q2, q3, q4, q5⟩ := open_ints' g6
      exact ⟨a0, a1, a2, a3, a4, a5, A, m, c, l, s, rfl, w0, w1, w2, w3, w4, w5, q1, q2, q3, q4, q5, w7⟩

end
theorem wf_u8_iff {f : Int} (h : (Lit.int .u8 f).wf = true) : 0 ≤ f ∧ f ≤ 255 := by
  simp [Lit.wf, IntKind.min, IntKind.max, IntKind.bits, IntKind.signed] at h; omega
theorem wf_i64_iff {f : Int} (h : (Lit.int .i64 f).wf = true) : -9223372036854775808 ≤ f ∧ f ≤ 9223372036854775807 := by
  simp [Lit.wf, IntKind.min, IntKind.max, IntKind.bits, IntKind.signed] at h; omega

end Go.Proofs.YtljmdcegcckblaaGreatDoor
/- Arguments opened: a slice of structs as a list. -/
namespace Go.Proofs.YtljmdcegcckblaaGreatDoor
open Go.ChangeShapes Go.WideShapes Go.ChangeAt Go.RowKit Go.Deep

/-- A slice of elements of k cells that came in. -/
theorem open_rows {H : Type} {enc : TypeId × Value → H} {P : Program} {W : World} {α : Type} (mk : α → List Value) (good : α → Prop) (k : Nat) (hk : 0 < k) {t e : TypeId} {fuel : Nat} {v : Value} {x : DataW H × List MemPlace} (ht : P.underlying t = some (.slice e)) (hC : P.cellsOf e = k)
    (hel : ∀ n cs x, cs.length = k → DataW.trod enc P W 0 (fun _ => true) true n e cs = some x → ∃ a, cs = mk a ∧ good a)
    (h : DataW.trod enc P W 0 (fun _ => true) true fuel t [v] = some x) :
    ∃ (A : Option Addr) (n c : Nat) (xs : List α), v = .slice A n c ∧ xs.length = n ∧ Reads W A (xs.flatMap mk) ∧ (∀ a ∈ xs, (mk a).length = k ∧ good a) ∧ n ≤ c ∧ c ≤ maxLen ∧ (A = none → n = 0 ∧ c = 0) := by
  rcases open_slice ht h with ⟨h0, _⟩ | ⟨a, len, cap, m, n, D, Pl, hcs, hb, hl, hm, hmm, hx, hi⟩
  · simp only [List.cons.injEq, and_true] at h0
    subst h0
    exact ⟨none, 0, 0, [], rfl, rfl, Reads.nil, fun _ h => (by cases h), Nat.le_refl _, Nat.zero_le _, fun _ => ⟨rfl, rfl⟩⟩
  · simp only [List.cons.injEq, and_true] at hcs
    subst hcs
    simp only [if_true] at hmm
    have hat : ∀ i, i < len → ∃ u : α, (mk u).length = k ∧ good u ∧ ∀ j, j < k → W.cell? (a.add (i * k + j)) = (mk u)[j]? := by
      intro i hi'
      obtain ⟨cs', hc, ht'⟩ := hi i (by omega)
      rw [hC] at hc
      obtain ⟨_, hlen, hat⟩ := World.cells?_some hc
      obtain ⟨u, rfl, hg⟩ := hel n cs' _ hlen ht'
      exact ⟨u, hlen, hg, fun j hj => by rw [← Go.Deep.add_add]; exact hat j hj⟩
    obtain ⟨xs, hxl, hxs⟩ := list_of (fun i u => (mk u).length = k ∧ good u ∧ ∀ j, j < k → W.cell? (a.add (i * k + j)) = (mk u)[j]?) len hat
    have hgd : ∀ u ∈ xs, (mk u).length = k ∧ good u := fun u hu => by
      obtain ⟨i, hi', rfl⟩ := List.mem_iff_getElem.1 hu
      exact ⟨(hxs i hi').1, (hxs i hi').2.1⟩
    refine ⟨some a, len, cap, xs, rfl, hxl, ?_, hgd, hl, hm, fun h => by cases h⟩
    rcases Nat.eq_zero_or_pos len with h0 | h0
    · left
      have : xs = [] := List.eq_nil_of_length_eq_zero (by omega)
      simp [this]
    · right
      obtain ⟨b, off, spot⟩ := a
      have h1 := (hxs 0 (by omega)).2.2 0 hk
      have hv0 : ∃ u, (mk (xs[0]'(by omega)))[0]? = some u := ⟨_, List.getElem?_eq_getElem (by rw [(hxs 0 (by omega)).1]; exact hk)⟩
      obtain ⟨u0, hu0⟩ := hv0
      rw [hu0] at h1
      have hspot : spot = none := by simpa [Addr.add] using World.cell?_spot h1
      subst hspot
      refine ⟨b, off, rfl, ?_, fun j u hu => ?_⟩
      · have := World.block_lt_of_cell? W _ h1
        simpa [Addr.add] using this
      · have hjl : j < xs.length * k := by
          have hlt := (List.getElem?_eq_some_iff.1 hu).1
          have : (xs.flatMap mk).length = xs.length * k := by
            clear hu hlt hxl hxs hu0 h1
            induction xs with
            | nil => simp
            | cons y t ih => rw [List.flatMap_cons, List.length_append, (hgd y (by simp)).1, ih (fun u hu => hgd u (List.mem_cons_of_mem _ hu)), List.length_cons, Nat.add_mul, Nat.one_mul, Nat.add_comm]
          rwa [this] at hlt
        have hq : j / k < xs.length := by rw [Nat.div_lt_iff_lt_mul hk]; exact hjl
        have hr : j % k < k := Nat.mod_lt _ hk
        have e := flat_get (f := mk) (m := k) (fun s hs => (hgd s hs).1) hr hq
        have hj : j / k * k + j % k = j := by rw [Nat.mul_comm]; exact Nat.div_add_mod j k
        rw [hj, hu] at e
        have h2 := (hxs (j / k) hq).2.2 (j % k) hr
        rw [hj, ← e] at h2
        unfold Addr.add at h2
        split at h2
        · rename_i hj0; subst hj0; simpa using h2
        · exact h2

end Go.Proofs.YtljmdcegcckblaaGreatDoor
/- Arguments opened: acts. -/
namespace Go.Proofs.YtljmdcegcckblaaGreatDoor
open Go.ChangeShapes Go.WideShapes Go.ChangeAt Go.RowKit Go.Deep

/-- An act as it lies in memory. -/
structure ActV where
  wh : Int
  f : Int
  kd : Int
  off : Int
  n : Int
  size : Int
  A : Option Addr
  m : Nat
  c : Nat
  s : ByteArray
def actL (a : ActV) : List Value := [.int .u8 a.wh, .int .u8 a.f, .int .i64 a.kd, .int .i64 a.off, .int .i64 a.n, .int .i64 a.size, .slice a.A a.m a.c, .string a.s]
/-- What is known of one that came in. -/
structure ActOk (W : World) (a : ActV) : Prop where
  wh : 0 ≤ a.wh ∧ a.wh ≤ 255
  f : 0 ≤ a.f ∧ a.f ≤ 255
  kd : -9223372036854775808 ≤ a.kd ∧ a.kd ≤ 9223372036854775807
  off : -9223372036854775808 ≤ a.off ∧ a.off ≤ 9223372036854775807
  n : -9223372036854775808 ≤ a.n ∧ a.n ≤ 9223372036854775807
  size : -9223372036854775808 ≤ a.size ∧ a.size ≤ 9223372036854775807
  list : ∃ l : List Int, l.length = a.m ∧ Reads W a.A (l.map (.int .i64)) ∧ a.m ≤ a.c ∧ (a.A = none → a.m = 0 ∧ a.c = 0)
  str : a.s.size ≤ maxLen

set_option maxRecDepth 100000 in
theorem open_acts {H : Type} {enc : TypeId × Value → H} {W : World} {fuel : Nat} {v : Value} {x : DataW H × List MemPlace} (h : DataW.trod enc Tryz.prog W 0 (fun _ => true) true fuel 24 [v] = some x) :
    ∃ (A : Option Addr) (n c : Nat) (xs : List ActV), v = .slice A n c ∧ xs.length = n ∧ Reads W A (xs.flatMap actL) ∧ (∀ a ∈ xs, ActOk W a) ∧ n ≤ c ∧ c ≤ maxLen ∧ (A = none → n = 0 ∧ c = 0) := by
  obtain ⟨A, n, c, xs, h1, h2, h3, h4, h5⟩ := open_rows actL (ActOk W) 8 (by omega) Tryz.underlying24 Tryz.cellsAct (fun n cs x hsz hx => by
    obtain ⟨wh, f, kd, off, n', size, A, m, c, l, s, e, w0, w1, w2, w3, w4, w5, q1, q2, q3, -, q5, q6⟩ := open_act_cells hsz hx
    exact ⟨⟨wh, f, kd, off, n', size, A, m, c, s⟩, e, ⟨wf_u8_iff w0, wf_u8_iff w1, wf_i64_iff w2, wf_i64_iff w3, wf_i64_iff w4, wf_i64_iff w5, ⟨l, q1, q2, q3, q5⟩, q6⟩⟩) h
  exact ⟨A, n, c, xs, h1, h2, h3, fun a ha => (h4 a ha).2, h5⟩

end Go.Proofs.YtljmdcegcckblaaGreatDoor
