/- Parts of the proof, put together by program: DB, IM, DY. -/
import Derived.Test.YtljmdcegcckblaaGreatDoorQuart38
import Derived.Test.YtljmdcegcckblaaGreatDoorQuart41
import Derived.Test.YtljmdcegcckblaaGreatDoorQuart37
/- Layer 12 in plain words: strings in lists of blocks; what each call makes of two strings. No program in sight. -/
namespace Go.Proofs.YtljmdcegcckblaaGreatDoor
open Go.RowKit Go.Maps

theorem ba_join (t : ByteArray) {A M N : Nat} (h : M ≤ N) : t.extract A M ++ t.extract (max A M) N = t.extract A N := by
  apply ba_ext
  apply Array.ext_getElem?
  intro i
  simp only [ByteArray.data_append, ByteArray.data_extract, Array.getElem?_append, Array.getElem?_extract, Array.size_extract]
  have e : t.data.size = t.size := rfl
  simp only [e]
  by_cases h1 : i < min M t.size - A
  · rw [if_pos h1, if_pos h1, if_pos (by omega)]
  · rw [if_neg h1]
    by_cases h2 : i < min N t.size - A
    · rw [if_pos h2, if_pos (by omega)]
      congr 1; omega
    · rw [if_neg h2, if_neg (by omega)]
theorem ba_none (t : ByteArray) {A N : Nat} (h : min N t.size ≤ A) : t.extract A N = ⟨#[]⟩ := by
  apply ba_ext
  apply Array.ext_getElem?
  intro i
  simp only [ByteArray.data_extract, Array.getElem?_extract]
  have e : t.data.size = t.size := rfl
  rw [if_neg (by omega)]
  simp
theorem cutAt_sz (t : ByteArray) (k : Nat) : (cutAt t k).size = min (96 * k + 96) t.size - 96 * k := by unfold cutAt; rw [ByteArray.size_extract]
theorem cutsL_getD (t : ByteArray) {k : Nat} (hk : k < nCuts t.size) : (cutsL t).getD k ⟨#[]⟩ = cutAt t k := by
  unfold cutsL
  rw [List.getD_eq_getElem?_getD, List.getElem?_map, List.getElem?_range hk]; rfl

/-- A list of blocks holds a string. -/
structure Holds (y : TxS) (x : DevS) (kd : Int) (l : List Int) (t : ByteArray) : Prop where
  len : l.length = nCuts t.size
  sz : t.size ≤ 768
  part : ∀ k, k < nCuts t.size → y.part x kd (l.getD k 0) = (cutAt t k, 0)
theorem holds_nil (y : TxS) (x : DevS) (kd : Int) : Holds y x kd [] ⟨#[]⟩ := ⟨rfl, by decide, fun k hk => by have : nCuts (⟨#[]⟩ : ByteArray).size = 0 := rfl; omega⟩

theorem textK_holds {y : TxS} {x : DevS} {kd : Int} {l : List Int} {t : ByteArray} (h : Holds y x kd l t) {a b : Nat} (ha : a ≤ b) (hb : b ≤ t.size) :
    ∀ k, k ≤ nCuts t.size → textK y x kd t.size a b l k = (t.extract a (min b (96 * k)), 0) := by
  intro k
  induction k with
  | zero => intro _; rw [show min b (96 * 0) = 0 by omega, ba_none t (by omega)]; rfl
  | succ k ih =>
    intro hk
    have ih := ih (by omega)
    have hk2 : 96 * k < t.size := by unfold nCuts at hk; omega
    have e : textK y x kd t.size a b l (k + 1) = if (textK y x kd t.size a b l k).2 ≠ 0 then textK y x kd t.size a b l k
      else if min ((k : Int) * 96 + 96) t.size ≤ a ∨ (b : Int) ≤ (k : Int) * 96 then textK y x kd t.size a b l k
      else if (y.part x kd (l.getD k 0)).2 ≠ 0 then (⟨#[]⟩, (y.part x kd (l.getD k 0)).2)
      else if ((y.part x kd (l.getD k 0)).1.size : Int) ≠ min ((k : Int) * 96 + 96) t.size - k * 96 then (⟨#[]⟩, 6)
      else ((textK y x kd t.size a b l k).1 ++ (y.part x kd (l.getD k 0)).1.extract (max ((a : Int) - k * 96) 0).toNat (min ((b : Int) - k * 96) (y.part x kd (l.getD k 0)).1.size).toNat, 0) := rfl
    rw [e, ih, h.part k (by omega)]
    simp only
    rw [if_neg (by simp)]
    by_cases h1 : min ((k : Int) * 96 + 96) t.size ≤ a ∨ (b : Int) ≤ (k : Int) * 96
    · rw [if_pos h1]
      congr 1
      rcases h1 with h1 | h1
      · rw [ba_none t (by omega), ba_none t (by omega)]
      · rw [show min b (96 * k) = b by omega, show min b (96 * (k + 1)) = b by omega]
    · rw [if_neg h1, if_neg (by simp), if_neg (by rw [cutAt_sz]; simp; omega)]
      congr 1
      have hs := cutAt_sz t k
      rw [hs]
      have e1 : (max ((a : Int) - k * 96) 0).toNat = a - 96 * k := by omega
      have e2 : (min ((b : Int) - k * 96) ((min (96 * k + 96) t.size - 96 * k : Nat) : Int)).toNat = min (b - 96 * k) (min (96 * k + 96) t.size - 96 * k) := by omega
      rw [e1, e2]
      have e3 : (cutAt t k).extract (a - 96 * k) (min (b - 96 * k) (min (96 * k + 96) t.size - 96 * k)) = t.extract (max a (min b (96 * k))) (min b (96 * (k + 1))) := by
        unfold cutAt
        rw [ByteArray.extract_extract]
        apply ba_ext
        apply Array.ext_getElem?
        intro i
        simp only [ByteArray.data_extract, Array.getElem?_extract]
        have e9 : t.data.size = t.size := rfl
        simp only [e9]
        by_cases hi : i < min (min b (96 * (k + 1))) t.size - max a (min b (96 * k))
        · rw [if_pos hi, if_pos (by omega)]
          congr 1; omega
        · rw [if_neg hi, if_neg (by omega)]
      rw [e3]
      exact ba_join t (by omega)
theorem text_holds {y : TxS} {x : DevS} {kd : Int} {l : List Int} {t : ByteArray} (h : Holds y x kd l t) {a b : Nat} (ha : a ≤ b) (hb : b ≤ t.size) : y.text x kd l t.size a b = (t.extract a b, 0) := by
  have := textK_holds h ha hb l.length (by rw [h.len]; exact Nat.le_refl _)
  unfold TxS.text
  rw [this, h.len]
  congr 2
  unfold nCuts
  omega
theorem open_holds {y : TxS} {l : List Int} (hs : y.stateE = 0) (hl : Lst y l) (h8 : l.length ≤ 8) : dopenE y l = 0 := by
  unfold dopenE
  rw [if_neg (by simpa using hs), if_neg (by omega)]
  refine LsE_of (fun k hk => ?_) (Nat.le_refl _)
  have hr := hl.rng _ (List.getElem_mem hk)
  refine ⟨hr.1, hr.2, fun hm => ?_⟩
  obtain ⟨i, hi, e⟩ := List.mem_take_iff_getElem.1 hm
  have := List.pairwise_iff_getElem.1 (List.nodup_iff_pairwise_ne.1 hl.nd) i k (by omega) hk (by omega)
  exact this e
theorem nCuts_le {n : Nat} (h : n ≤ 768) : nCuts n ≤ 8 := by unfold nCuts; omega
theorem sized_holds {y : TxS} {x : DevS} {kd : Int} {l : List Int} {t : ByteArray} (hs : y.stateE = 0) (hl : Lst y l) (h : Holds y x kd l t) : sizedE y l t.size false false = 0 := by
  have h8 := nCuts_le h.sz
  have hz := h.sz
  have hlen := h.len
  unfold sizedE
  rw [if_neg (by simpa using open_holds hs hl (by omega)), if_neg (by simp; omega), if_neg (by simp), if_neg (by rw [hlen]; unfold nCuts; omega)]
/-- Read of what a list holds. -/
theorem read_holds {y : TxS} {x : DevS} {kd : Int} {l : List Int} {t : ByteArray} (hs : y.stateE = 0) (hl : Lst y l) (h : Holds y x kd l t) {off n : Int} (h0 : 0 ≤ off) (hn : 0 ≤ n) :
    y.dread x kd l t.size off n = (t.extract (min off t.size).toNat (min off t.size + min n (t.size - min off t.size)).toNat, 0) := by
  have e1 : decide (off < 0) = false := decide_eq_false (by omega)
  have e2 : decide (n < 0) = false := decide_eq_false (by omega)
  unfold TxS.dread
  rw [e1, e2, Bool.or_false, if_neg (by simpa using sized_holds hs hl h)]
  by_cases h1 : min off (t.size : Int) = min off t.size + min n (t.size - min off t.size)
  · rw [if_pos h1, ← h1, ba_none t (by omega)]
  · rw [if_neg h1]
    have := text_holds h (a := (min off (t.size : Int)).toNat) (b := (min off (t.size : Int) + min n (t.size - min off t.size)).toNat) (by omega) (by omega)
    rw [← this]
    congr 1 <;> omega
theorem extract_all (t : ByteArray) : t.extract 0 t.size = t := by
  apply ba_ext; simp
/-- A list that a call does not name. -/
theorem Stored.other {y y2 : TxS} {x : DevS} {kd : Int} {l L m : List Int} {ps : List ByteArray} (h : Stored y y2 x kd l L ps) (hm : Lst y m) (hd : ∀ b ∈ m, b ∉ l) : Lst y2 m ∧ (∀ b ∈ m, b ∉ L) ∧ ∀ kd' b, b ∈ m → y2.part x kd' b = y.part x kd' b := by
  have hL : ∀ b ∈ m, b ∉ L := fun b hb hbL => by
    rcases h.old b hbL with h1 | h1
    · exact hd b hb h1
    · rw [hm.used b hb] at h1; cases h1
  refine ⟨⟨fun b hb => by rw [h.nlen]; exact hm.rng b hb, hm.nd, fun b hb => ?_⟩, hL, fun kd' b hb => ?_⟩
  · have hr := hm.rng b hb
    rw [(h.out b hr.1 hr.2 (hd b hb) (hL b hb)).1]; exact hm.used b hb
  · have hr := hm.rng b hb
    exact (h.out b hr.1 hr.2 (hd b hb) (hL b hb)).2 kd'
theorem Holds.other {y y2 : TxS} {x : DevS} {kd : Int} {m : List Int} {t : ByteArray} (h : Holds y x kd m t) (hp : ∀ kd' b, b ∈ m → y2.part x kd' b = y.part x kd' b) : Holds y2 x kd m t :=
  ⟨h.len, h.sz, fun k hk => by
    have hkl : k < m.length := by rw [h.len]; exact hk
    have hm : m.getD k 0 ∈ m := by rw [List.getD_eq_getElem?_getD, List.getElem?_eq_getElem hkl]; exact List.getElem_mem hkl
    rw [hp kd _ hm]; exact h.part k hk⟩
theorem Stored.holds {y y2 : TxS} {x : DevS} {kd : Int} {l L : List Int} {t : ByteArray} (h : Stored y y2 x kd l L (cutsL t)) (hz : t.size ≤ 768) : Holds y2 x kd L t :=
  ⟨h.len.trans (cutsL_length t), hz, fun k hk => by rw [h.hit k (by rw [cutsL_length]; exact hk), cutsL_getD t hk]⟩

/-- What is known of three lists: two hold strings, and all are apart. -/
structure BookOk (y : TxS) (x : DevS) (l0 l1 l2 : List Int) (t0 t1 : ByteArray) : Prop where
  st : y.stateE = 0
  a0 : Lst y l0
  a1 : Lst y l1
  a2 : Lst y l2
  h0 : Holds y x 8 l0 t0
  h1 : Holds y x 8 l1 t1
  len2 : l2.length ≤ 8
  d01 : ∀ b ∈ l0, b ∉ l1
  d02 : ∀ b ∈ l0, b ∉ l2
  d12 : ∀ b ∈ l1, b ∉ l2
theorem BookOk.nil (y : TxS) (x : DevS) (hs : y.stateE = 0) : BookOk y x [] [] [] ⟨#[]⟩ ⟨#[]⟩ :=
  ⟨hs, .nil y, .nil y, .nil y, holds_nil _ _ _, holds_nil _ _ _, by simp, fun _ h => (by cases h), fun _ h => (by cases h), fun _ h => (by cases h)⟩
theorem BookOk.put0 {y y2 : TxS} {x : DevS} {l0 l1 l2 L : List Int} {t0 t1 t : ByteArray} (h : BookOk y x l0 l1 l2 t0 t1) (hst : Stored y y2 x 8 l0 L (cutsL t)) (hz : t.size ≤ 768) : BookOk y2 x L l1 l2 t t1 := by
  obtain ⟨b1, b2, b3⟩ := hst.other h.a1 (fun b hb hb0 => h.d01 b hb0 hb)
  obtain ⟨c1, c2, -⟩ := hst.other h.a2 (fun b hb hb0 => h.d02 b hb0 hb)
  exact ⟨hst.st, hst.lst, b1, c1, hst.holds hz, h.h1.other b3, h.len2, fun b hb hb1 => b2 b hb1 hb, fun b hb hb2 => c2 b hb2 hb, h.d12⟩
theorem BookOk.put1 {y y2 : TxS} {x : DevS} {l0 l1 l2 L : List Int} {t0 t1 t : ByteArray} (h : BookOk y x l0 l1 l2 t0 t1) (hst : Stored y y2 x 8 l1 L (cutsL t)) (hz : t.size ≤ 768) : BookOk y2 x l0 L l2 t0 t := by
  obtain ⟨b1, b2, b3⟩ := hst.other h.a0 (fun b hb hb0 => h.d01 b hb hb0)
  obtain ⟨c1, c2, -⟩ := hst.other h.a2 (fun b hb hb0 => h.d12 b hb0 hb)
  exact ⟨hst.st, b1, hst.lst, c1, h.h0.other b3, hst.holds hz, h.len2, fun b hb hb1 => b2 b hb hb1, h.d02, fun b hb hb2 => c2 b hb2 hb⟩
theorem BookOk.put2 {y y2 : TxS} {x : DevS} {kd : Int} {l0 l1 l2 L : List Int} {t0 t1 : ByteArray} {ps : List ByteArray} (h : BookOk y x l0 l1 l2 t0 t1) (hst : Stored y y2 x kd l2 L ps) (h8 : ps.length ≤ 8) : BookOk y2 x l0 l1 L t0 t1 := by
  obtain ⟨b1, b2, b3⟩ := hst.other h.a0 h.d02
  obtain ⟨c1, c2, c3⟩ := hst.other h.a1 h.d12
  exact ⟨hst.st, b1, c1, hst.lst, h.h0.other b3, h.h1.other c3, by rw [hst.len]; exact h8, h.d01, fun b hb hb2 => b2 b hb hb2, fun b hb hb2 => c2 b hb hb2⟩
end Go.Proofs.YtljmdcegcckblaaGreatDoor
/- Layers 6, 9 and 10 in plain words: how many writes a Commit takes; its cache is empty. No program in sight. -/
namespace Go.Proofs.YtljmdcegcckblaaGreatDoor
open Go.RowKit Go.Maps

end Go.Proofs.YtljmdcegcckblaaGreatDoor
/- P12.9 in plain words: what Commit and the next Begin leave of what lists hold; what ErrLong leaves. No program in sight. -/
namespace Go.Proofs.YtljmdcegcckblaaGreatDoor
open Go.RowKit Go.Maps

/-- What holds of a transaction since it began, whatever was called. -/
structure Hist (s j i : Int) (us : List Bool) (y : TxS) : Prop where
  s : y.s = s
  j : y.j = j
  i : y.i = i
  ch : y.changed = false → y.now = us
  en : y.ended = false
theorem Hist.beg (s j i : Int) (us : List Bool) : Hist s j i us (begTx s j i us) := ⟨rfl, rfl, rfl, fun _ => rfl, rfl⟩
section
variable {s j i : Int} {us : List Bool} {y : TxS}
theorem Hist.brk (h : Hist s j i us y) : Hist s j i us y.brk := ⟨h.s, h.j, h.i, h.ch, h.en⟩
theorem Hist.change (h : Hist s j i us y) (vs : List Bool) (n : Nat) : Hist s j i us (y.change vs n) := by
  unfold TxS.change
  split
  · exact h
  · split
    · exact h
    · exact ⟨h.s, h.j, h.i, fun e => (by cases e), h.en⟩
theorem Hist.write (h : Hist s j i us y) (a k : Int) (d : ByteArray) : Hist s j i us (y.write a k d).2 := by
  unfold TxS.write
  split
  · exact h
  · split
    · exact h.brk
    · exact ⟨h.s, h.j, h.i, h.ch, h.en⟩
theorem Hist.take (h : Hist s j i us y) (a n : Int) : Hist s j i us (y.take a n).2 := by
  unfold TxS.take
  split
  · exact h
  · split
    · exact h.brk
    · exact h.change _ _
theorem Hist.free (h : Hist s j i us y) (l : List Int) : Hist s j i us (y.free l).2 := by
  unfold TxS.free
  split
  · exact h
  · split
    · exact h.brk
    · exact h.change _ _
end
/-- What write, take and free keep is kept by Store, Write and Cut. -/
theorem kept_store_law {Q : TxS → Prop} (hw : ∀ y a k d, Q y → Q (y.write a k d).2) (ht : ∀ y a n, Q y → Q (y.take a n).2) (hf : ∀ y l, Q y → Q (y.free l).2) {y : TxS} (h : Q y) (x : DevS) (kd : Int) (l : List Int) (ps : List ByteArray) : Q (y.store x kd l ps).2.1 := by
  have hfit : Q (y.fit l ps.length).2.1 := by
    unfold TxS.fit
    split
    · exact hf _ _ h
    · split
      · exact ht _ _ _ h
      · exact h
  have hputs : ∀ k, Q ((y.fit l ps.length).2.1.puts x kd (y.fit l ps.length).2.2 ps k).2 := by
    intro k
    induction k with
    | zero => exact hfit
    | succ k ih =>
      unfold TxS.puts
      split
      · exact ih
      · split
        · exact ih
        · exact hw _ _ _ _ ih
  unfold TxS.store
  split
  · exact hfit
  · split <;> exact hputs _
section
variable {Q : TxS → Prop} (hw : ∀ y a k d, Q y → Q (y.write a k d).2) (ht : ∀ y a n, Q y → Q (y.take a n).2) (hf : ∀ y l, Q y → Q (y.free l).2) {y : TxS} (h : Q y)
include hw ht hf h
theorem kept_dwrite_law (x : DevS) (kd : Int) (l : List Int) (size off : Int) (s : ByteArray) : Q (y.dwrite x kd l size off s).2.1 := by
  unfold TxS.dwrite
  split
  · exact h
  · split
    · exact h
    · split <;> exact kept_store_law hw ht hf h _ _ _ _
theorem kept_dcut_law (x : DevS) (kd : Int) (l : List Int) (size to_ : Int) : Q (y.dcut x kd l size to_).2.1 := by
  unfold TxS.dcut
  split
  · exact h
  · split
    · exact h
    · exact kept_store_law hw ht hf h _ _ _ _
theorem kept_dstore_law (x : DevS) (kd : Int) (l : List Int) (ps : List ByteArray) : Q (y.dstore x kd l ps).2.1 := by
  unfold TxS.dstore
  split
  · exact h
  · split
    · exact h
    · exact kept_store_law hw ht hf h _ _ _ _
end
/-- Both at once. -/
structure HC (s j i : Int) (us : List Bool) (y : TxS) : Prop where
  c : y.Clean
  h : Hist s j i us y
section
variable {s j i : Int} {us : List Bool} {y : TxS}
theorem HC.write (h : HC s j i us y) (a k : Int) (d : ByteArray) : HC s j i us (y.write a k d).2 := ⟨h.c.write a k d, h.h.write a k d⟩
theorem HC.take (h : HC s j i us y) (a n : Int) : HC s j i us (y.take a n).2 := ⟨h.c.take a n, h.h.take a n⟩
theorem HC.free (h : HC s j i us y) (l : List Int) : HC s j i us (y.free l).2 := ⟨h.c.free l, h.h.free l⟩
theorem HC.dwrite (h : HC s j i us y) (x : DevS) (kd : Int) (l : List Int) (size off : Int) (t : ByteArray) : HC s j i us (y.dwrite x kd l size off t).2.1 := kept_dwrite_law (fun _ a k d h => h.write a k d) (fun _ a n h => h.take a n) (fun _ l h => h.free l) h x kd l size off t
theorem HC.dcut (h : HC s j i us y) (x : DevS) (kd : Int) (l : List Int) (size to_ : Int) : HC s j i us (y.dcut x kd l size to_).2.1 := kept_dcut_law (fun _ a k d h => h.write a k d) (fun _ a n h => h.take a n) (fun _ l h => h.free l) h x kd l size to_
theorem HC.dstore (h : HC s j i us y) (x : DevS) (kd : Int) (l : List Int) (ps : List ByteArray) : HC s j i us (y.dstore x kd l ps).2.1 := kept_dstore_law (fun _ a k d h => h.write a k d) (fun _ a n h => h.take a n) (fun _ l h => h.free l) h x kd l ps
end

/- No error inside is ErrLong. -/
theorem cutsL_small (t : ByteArray) : ∀ p ∈ cutsL t, p.size ≤ 96 := fun p hp => by
  unfold cutsL at hp
  obtain ⟨k, -, rfl⟩ := List.mem_map.1 hp
  rw [cutAt_sz]; omega
/-- Parts of a list, in two states. -/
theorem loadK_same {y z : TxS} {x v : DevS} {kd : Int} {l : List Int} (hp : ∀ b ∈ l, z.part v kd b = y.part x kd b) : ∀ k, k ≤ l.length → loadK z v kd l k = loadK y x kd l k
  | 0, _ => rfl
  | k + 1, hk => by
    have hm : l.getD k 0 ∈ l := by rw [List.getD_eq_getElem?_getD, List.getElem?_eq_getElem (by omega)]; exact List.getElem_mem _
    show (if (loadK z v kd l k).2 ≠ 0 then loadK z v kd l k else _) = (if (loadK y x kd l k).2 ≠ 0 then loadK y x kd l k else _)
    rw [loadK_same hp k (by omega), hp _ hm]
theorem loadK_ok {y : TxS} {x : DevS} {kd : Int} {l : List Int} (hp : ∀ b ∈ l, (y.part x kd b).2 = 0) : ∀ k, k ≤ l.length → (loadK y x kd l k).2 = 0
  | 0, _ => rfl
  | k + 1, hk => by
    have hm : l.getD k 0 ∈ l := by rw [List.getD_eq_getElem?_getD, List.getElem?_eq_getElem (by omega)]; exact List.getElem_mem _
    show (if (loadK y x kd l k).2 ≠ 0 then loadK y x kd l k else if (y.part x kd (l.getD k 0)).2 ≠ 0 then _ else _).2 = 0
    rw [if_neg (by simpa using loadK_ok hp k (by omega)), if_neg (by simpa using hp _ hm)]

/-- What is known of three lists: the third one's parts can be read, too. -/
structure Book2 (y : TxS) (x : DevS) (l0 l1 l2 : List Int) (t0 t1 : ByteArray) : Prop where
  bk : BookOk y x l0 l1 l2 t0 t1
  pt : ∀ b ∈ l2, (y.part x 7 b).2 = 0
theorem Book2.nil (y : TxS) (x : DevS) (hs : y.stateE = 0) : Book2 y x [] [] [] ⟨#[]⟩ ⟨#[]⟩ := ⟨.nil y x hs, fun _ h => (by cases h)⟩
section
variable {y y2 : TxS} {x : DevS} {l0 l1 l2 L : List Int} {t0 t1 t : ByteArray} {ps : List ByteArray}
theorem Book2.put0 (h : Book2 y x l0 l1 l2 t0 t1) (hst : Stored y y2 x 8 l0 L (cutsL t)) (hz : t.size ≤ 768) : Book2 y2 x L l1 l2 t t1 :=
  ⟨h.bk.put0 hst hz, fun b hb => by rw [(hst.other h.bk.a2 (fun b hb hb0 => h.bk.d02 b hb0 hb)).2.2 7 b hb]; exact h.pt b hb⟩
theorem Book2.put1 (h : Book2 y x l0 l1 l2 t0 t1) (hst : Stored y y2 x 8 l1 L (cutsL t)) (hz : t.size ≤ 768) : Book2 y2 x l0 L l2 t0 t :=
  ⟨h.bk.put1 hst hz, fun b hb => by rw [(hst.other h.bk.a2 (fun b hb hb0 => h.bk.d12 b hb0 hb)).2.2 7 b hb]; exact h.pt b hb⟩
theorem Book2.put2 (h : Book2 y x l0 l1 l2 t0 t1) (hst : Stored y y2 x 7 l2 L ps) (h8 : ps.length ≤ 8) : Book2 y2 x l0 l1 L t0 t1 :=
  ⟨h.bk.put2 hst h8, fun b hb => by
    obtain ⟨k, hk, rfl⟩ := List.mem_iff_getElem.1 hb
    have := hst.hit k (by rw [← hst.len]; exact hk)
    rw [List.getD_eq_getElem?_getD, List.getElem?_eq_getElem hk] at this
    simp only [Option.getD_some] at this
    rw [this]⟩
theorem Book2.load (h : Book2 y x l0 l1 l2 t0 t1) : (y.dload x 7 l2).2 = 0 := by
  unfold TxS.dload
  rw [if_neg (by simpa using open_holds h.bk.st h.bk.a2 h.bk.len2)]
  exact loadK_ok h.pt _ (Nat.le_refl _)

/-- What a block has, before a Commit and after the next Begin. -/
theorem part_commit {x' : DevS} (ok : y.Ok) (hs : y.stateE = 0) (hw : ∀ r ∈ y.writes, x'.ge r.at_ = 0 ∧ ∃ q, x'.fr r.at_ = ⟨r.kind, q, r.data⟩) (ho : ∀ b : Int, 0 ≤ b → b < y.s → (b < 1 ∨ 1 + y.j < b) → b ∉ y.writes.map (·.at_) → sameFr x x' b)
    (kd b : Int) (hb : 0 ≤ b ∧ b < y.now.length) : (begTx y.s y.j y.i y.now).part x' kd b = y.part x kd b := by
  have hbd := ok.bds
  have hse : SecE y.s y.j y.i b = 0 := by
    have := rgB_bds y.s y.j y.i
    have := ok.now
    unfold SecE; rw [if_pos ok.rg, if_neg (by omega)]
  have hsv : SecV y.s y.j y.i b = 2 + y.j + y.i + b := by
    unfold SecV rgD; rw [if_pos hse, if_pos ok.rg]
  have hrd : (begTx y.s y.j y.i y.now).read x' (SecV y.s y.j y.i b) = y.read x (SecV y.s y.j y.i b) := by
    rw [hsv]
    have e1 : (begTx y.s y.j y.i y.now).read x' (2 + y.j + y.i + b) = (begTx y.s y.j y.i y.now).readR x' (2 + y.j + y.i + b) := by
      unfold TxS.read
      rw [if_neg (show ¬ (begTx y.s y.j y.i y.now).stateE ≠ 0 from fun h => h rfl), if_neg (show ¬ (2 + y.j + y.i + b < 0 ∨ (begTx y.s y.j y.i y.now).s ≤ 2 + y.j + y.i + b) from (by omega : ¬ (2 + y.j + y.i + b < 0 ∨ y.s ≤ 2 + y.j + y.i + b)))]
    have e2 : y.read x (2 + y.j + y.i + b) = y.readR x (2 + y.j + y.i + b) := by
      unfold TxS.read
      rw [if_neg (by simpa using hs), if_neg (by omega)]
    rw [e1, e2]
    unfold TxS.readR TxS.look
    rw [if_neg (show ¬ (2 + y.j + y.i + b = 1 + (begTx y.s y.j y.i y.now).j ∧ (begTx y.s y.j y.i y.now).changed = true) by rintro ⟨-, h⟩; cases h), if_neg (show ¬ (2 + y.j + y.i + b = 1 + y.j ∧ y.changed = true) by omega)]
    show ((x'.fr _).kind, (x'.fr _).data, x'.ge _) = _
    cases e : atRec y.writes (2 + y.j + y.i + b) with
    | some r =>
      obtain ⟨hr, hat⟩ := atRec_mem e
      obtain ⟨k1, q, k2⟩ := hw r hr
      rw [hat] at k1 k2
      simp only
      rw [k1, k2]
    | none =>
      have h := ho (2 + y.j + y.i + b) (by omega) (by omega) (by omega) (fun hm => by
        obtain ⟨r, hr, he⟩ := List.mem_map.1 hm
        exact atRec_none e r hr he)
      simp only
      rw [h.1, h.2]
  unfold TxS.part
  rw [show (begTx y.s y.j y.i y.now).read x' (SecV (begTx y.s y.j y.i y.now).s (begTx y.s y.j y.i y.now).j (begTx y.s y.j y.i y.now).i b) = y.read x (SecV y.s y.j y.i b) from hrd]
theorem Lst.reborn {l : List Int} (h : Lst y l) : Lst (begTx y.s y.j y.i y.now) l := ⟨h.rng, h.nd, h.used⟩
theorem Holds.reborn {x' : DevS} {kd : Int} {l : List Int} (h : Holds y x kd l t) (hl : Lst y l) (hp : ∀ b : Int, 0 ≤ b ∧ b < y.now.length → (begTx y.s y.j y.i y.now).part x' kd b = y.part x kd b) : Holds (begTx y.s y.j y.i y.now) x' kd l t :=
  ⟨h.len, h.sz, fun k hk => by
    have hkl : k < l.length := by rw [h.len]; exact hk
    have hm : l.getD k 0 ∈ l := by rw [List.getD_eq_getElem?_getD, List.getElem?_eq_getElem hkl]; exact List.getElem_mem hkl
    rw [hp _ (hl.rng _ hm)]; exact h.part k hk⟩
theorem Book2.reborn {x' : DevS} (h : Book2 y x l0 l1 l2 t0 t1) (hp : ∀ (kd b : Int), 0 ≤ b ∧ b < y.now.length → (begTx y.s y.j y.i y.now).part x' kd b = y.part x kd b) :
    Book2 (begTx y.s y.j y.i y.now) x' l0 l1 l2 t0 t1 ∧ (begTx y.s y.j y.i y.now).dload x' 7 l2 = y.dload x 7 l2 := by
  have hb := h.bk
  refine ⟨⟨⟨rfl, hb.a0.reborn, hb.a1.reborn, hb.a2.reborn, hb.h0.reborn hb.a0 (hp 8), hb.h1.reborn hb.a1 (hp 8), hb.len2, hb.d01, hb.d02, hb.d12⟩, fun b hm => by rw [hp 7 b (hb.a2.rng b hm)]; exact h.pt b hm⟩, ?_⟩
  unfold TxS.dload
  rw [if_neg (by simpa using open_holds (y := begTx y.s y.j y.i y.now) rfl hb.a2.reborn hb.len2), if_neg (by simpa using open_holds hb.st hb.a2 hb.len2)]
  exact loadK_same (fun b hm => hp 7 b (hb.a2.rng b hm)) _ (Nat.le_refl _)
end
end Go.Proofs.YtljmdcegcckblaaGreatDoor
