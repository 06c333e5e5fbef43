/- Parts of the proof, put together by program: DB, IM. -/
import Derived.Test.YtljmdcegcckblaaGreatDoorPart38
import Derived.Test.YtljmdcegcckblaaGreatDoorPart41
import Derived.Test.YtljmdcegcckblaaGreatDoorPart37
/- Layer 12 in plain words: strings in lists of blocks; what each call makes of two strings. No program in sight. -/
namespace Go.Proofs.YtljmdcegcckblaaGreatDoor
open Go.RowKit Go.Maps

theorem ba_join (t : ByteArray) {A M N : Nat} (h : M ≤ N) : t.extract A M ++ t.extract (max A M) N = t.extract A N := by
  apply ba_ext
  apply Array.ext_getElem?
  intro i
  simp only [ByteArray.data_append, ByteArray.data_extract, Array.getElem?_append, Array.getElem?_extract, Array.size_extract]
  have e : t.data.size = t.size := rfl
  simp only [e]
  by_cases h1 : i < min M t.size - A
  · rw [if_pos h1, if_pos h1, if_pos (by omega)]
  · rw [if_neg h1]
    by_cases h2 : i < min N t.size - A
    · rw [if_pos h2, if_pos (by omega)]
      congr 1; omega
    · rw [if_neg h2, if_neg (by omega)]
theorem ba_none (t : ByteArray) {A N : Nat} (h : min N t.size ≤ A) : t.extract A N = ⟨#[]⟩ := by
  apply ba_ext
  apply Array.ext_getElem?
  intro i
  simp only [ByteArray.data_extract, Array.getElem?_extract]
  have e : t.data.size = t.size := rfl
  rw [if_neg (by omega)]
  simp
theorem cutAt_sz (t : ByteArray) (k : Nat) : (cutAt t k).size = min (96 * k + 96) t.size - 96 * k := by unfold cutAt; rw [ByteArray.size_extract]
theorem cutsL_getD (t : ByteArray) {k : Nat} (hk : k < nCuts t.size) : (cutsL t).getD k ⟨#[]⟩ = cutAt t k := by
  unfold cutsL
  rw [List.getD_eq_getElem?_getD, List.getElem?_map, List.getElem?_range hk]; rfl

/-- A list of blocks holds a string. -/
structure Holds (y : TxS) (x : DevS) (kd : Int) (l : List Int) (t : ByteArray) : Prop where
  len : l.length = nCuts t.size
  sz : t.size ≤ 768
  part : ∀ k, k < nCuts t.size → y.part x kd (l.getD k 0) = (cutAt t k, 0)
theorem holds_nil (y : TxS) (x : DevS) (kd : Int) : Holds y x kd [] ⟨#[]⟩ := ⟨rfl, by decide, fun k hk => by have : nCuts (⟨#[]⟩ : ByteArray).size = 0 := rfl; omega⟩

theorem textK_holds {y : TxS} {x : DevS} {kd : Int} {l : List Int} {t : ByteArray} (h : Holds y x kd l t) {a b : Nat} (ha : a ≤ b) (hb : b ≤ t.size) :
    ∀ k, k ≤ nCuts t.size → textK y x kd t.size a b l k = (t.extract a (min b (96 * k)), 0) := by
  intro k
  induction k with
  | zero => intro _; rw [show min b (96 * 0) = 0 by omega, ba_none t (by omega)]; rfl
  | succ k ih =>
    intro hk
    have ih := ih (by omega)
    have hk2 : 96 * k < t.size := by unfold nCuts at hk; omega
    have e : textK y x kd t.size a b l (k + 1) = if (textK y x kd t.size a b l k).2 ≠ 0 then textK y x kd t.size a b l k
      else if min ((k : Int) * 96 + 96) t.size ≤ a ∨ (b : Int) ≤ (k : Int) * 96 then textK y x kd t.size a b l k
      else if (y.part x kd (l.getD k 0)).2 ≠ 0 then (⟨#[]⟩, (y.part x kd (l.getD k 0)).2)
      else if ((y.part x kd (l.getD k 0)).1.size : Int) ≠ min ((k : Int) * 96 + 96) t.size - k * 96 then (⟨#[]⟩, 6)
      else ((textK y x kd t.size a b l k).1 ++ (y.part x kd (l.getD k 0)).1.extract (max ((a : Int) - k * 96) 0).toNat (min ((b : Int) - k * 96) (y.part x kd (l.getD k 0)).1.size).toNat, 0) := rfl
    rw [e, ih, h.part k (by omega)]
    simp only
    rw [if_neg (by simp)]
    by_cases h1 : min ((k : Int) * 96 + 96) t.size ≤ a ∨ (b : Int) ≤ (k : Int) * 96
    · rw [if_pos h1]
      congr 1
      rcases h1 with h1 | h1
      · rw [ba_none t (by omega), ba_none t (by omega)]
      · rw [show min b (96 * k) = b by omega, show min b (96 * (k + 1)) = b by omega]
    · rw [if_neg h1, if_neg (by simp), if_neg (by rw [cutAt_sz]; simp; omega)]
      congr 1
      have hs := cutAt_sz t k
      rw [hs]
      have e1 : (max ((a : Int) - k * 96) 0).toNat = a - 96 * k := by omega
      have e2 : (min ((b : Int) - k * 96) ((min (96 * k + 96) t.size - 96 * k : Nat) : Int)).toNat = min (b - 96 * k) (min (96 * k + 96) t.size - 96 * k) := by omega
      rw [e1, e2]
      have e3 : (cutAt t k).extract (a - 96 * k) (min (b - 96 * k) (min (96 * k + 96) t.size - 96 * k)) = t.extract (max a (min b (96 * k))) (min b (96 * (k + 1))) := by
        unfold cutAt
        rw [ByteArray.extract_extract]
        apply ba_ext
        apply Array.ext_getElem?
        intro i
        simp only [ByteArray.data_extract, Array.getElem?_extract]
        have e9 : t.data.size = t.size := rfl
        simp only [e9]
        by_cases hi : i < min (min b (96 * (k + 1))) t.size - max a (min b (96 * k))
        · rw [if_pos hi, if_pos (by omega)]
          congr 1; omega
        · rw [if_neg hi, if_neg (by omega)]
      rw [e3]
      exact ba_join t (by omega)
theorem text_holds {y : TxS} {x : DevS} {kd : Int} {l : List Int} {t : ByteArray} (h : Holds y x kd l t) {a b : Nat} (ha : a ≤ b) (hb : b ≤ t.size) : y.text x kd l t.size a b = (t.extract a b, 0) := by
  have := textK_holds h ha hb l.length (by rw [h.len]; exact Nat.le_refl _)
  unfold TxS.text
  rw [this, h.len]
  congr 2
  unfold nCuts
  omega
theorem open_holds {y : TxS} {l : List Int} (hs : y.stateE = 0) (hl : Lst y l) (h8 : l.length ≤ 8) : dopenE y l = 0 := by
  unfold dopenE
  rw [if_neg (by simpa using hs), if_neg (by omega)]
  refine LsE_of (fun k hk => ?_) (Nat.le_refl _)
  have hr := hl.rng _ (List.getElem_mem hk)
  refine ⟨hr.1, hr.2, fun hm => ?_⟩
  obtain ⟨i, hi, e⟩ := List.mem_take_iff_getElem.1 hm
  have := List.pairwise_iff_getElem.1 (List.nodup_iff_pairwise_ne.1 hl.nd) i k (by omega) hk (by omega)
  exact this e
theorem nCuts_le {n : Nat} (h : n ≤ 768) : nCuts n ≤ 8 := by unfold nCuts; omega
theorem sized_holds {y : TxS} {x : DevS} {kd : Int} {l : List Int} {t : ByteArray} (hs : y.stateE = 0) (hl : Lst y l) (h : Holds y x kd l t) : sizedE y l t.size false false = 0 := by
  have h8 := nCuts_le h.sz
  have hz := h.sz
  have hlen := h.len
  unfold sizedE
  rw [if_neg (by simpa using open_holds hs hl (by omega)), if_neg (by simp; omega), if_neg (by simp), if_neg (by rw [hlen]; unfold nCuts; omega)]
/-- Read of what a list holds. -/
theorem read_holds {y : TxS} {x : DevS} {kd : Int} {l : List Int} {t : ByteArray} (hs : y.stateE = 0) (hl : Lst y l) (h : Holds y x kd l t) {off n : Int} (h0 : 0 ≤ off) (hn : 0 ≤ n) :
    y.dread x kd l t.size off n = (t.extract (min off t.size).toNat (min off t.size + min n (t.size - min off t.size)).toNat, 0) := by
  have e1 : decide (off < 0) = false := decide_eq_false (by omega)
  have e2 : decide (n < 0) = false := decide_eq_false (by omega)
  unfold TxS.dread
  rw [e1, e2, Bool.or_false, if_neg (by simpa using sized_holds hs hl h)]
  by_cases h1 : min off (t.size : Int) = min off t.size + min n (t.size - min off t.size)
  · rw [if_pos h1, ← h1, ba_none t (by omega)]
  · rw [if_neg h1]
    have := text_holds h (a := (min off (t.size : Int)).toNat) (b := (min off (t.size : Int) + min n (t.size - min off t.size)).toNat) (by omega) (by omega)
    rw [← this]
    congr 1 <;> omega
theorem extract_all (t : ByteArray) : t.extract 0 t.size = t := by
  apply ba_ext; simp
theorem read_whole {y : TxS} {x : DevS} {kd : Int} {l : List Int} {t : ByteArray} (hs : y.stateE = 0) (hl : Lst y l) (h : Holds y x kd l t) : y.dread x kd l t.size 0 768 = (t, 0) := by
  have hz := h.sz
  rw [read_holds hs hl h (by omega) (by omega)]
  rw [show (min (0 : Int) t.size).toNat = 0 by omega, show (min (0 : Int) t.size + min 768 (t.size - min (0 : Int) t.size)).toNat = t.size by omega, extract_all]

/-- A list that a call does not name. -/
theorem Stored.other {y y2 : TxS} {x : DevS} {kd : Int} {l L m : List Int} {ps : List ByteArray} (h : Stored y y2 x kd l L ps) (hm : Lst y m) (hd : ∀ b ∈ m, b ∉ l) : Lst y2 m ∧ (∀ b ∈ m, b ∉ L) ∧ ∀ kd' b, b ∈ m → y2.part x kd' b = y.part x kd' b := by
  have hL : ∀ b ∈ m, b ∉ L := fun b hb hbL => by
    rcases h.old b hbL with h1 | h1
    · exact hd b hb h1
    · rw [hm.used b hb] at h1; cases h1
  refine ⟨⟨fun b hb => by rw [h.nlen]; exact hm.rng b hb, hm.nd, fun b hb => ?_⟩, hL, fun kd' b hb => ?_⟩
  · have hr := hm.rng b hb
    rw [(h.out b hr.1 hr.2 (hd b hb) (hL b hb)).1]; exact hm.used b hb
  · have hr := hm.rng b hb
    exact (h.out b hr.1 hr.2 (hd b hb) (hL b hb)).2 kd'
theorem Holds.other {y y2 : TxS} {x : DevS} {kd : Int} {m : List Int} {t : ByteArray} (h : Holds y x kd m t) (hp : ∀ kd' b, b ∈ m → y2.part x kd' b = y.part x kd' b) : Holds y2 x kd m t :=
  ⟨h.len, h.sz, fun k hk => by
    have hkl : k < m.length := by rw [h.len]; exact hk
    have hm : m.getD k 0 ∈ m := by rw [List.getD_eq_getElem?_getD, List.getElem?_eq_getElem hkl]; exact List.getElem_mem hkl
    rw [hp kd _ hm]; exact h.part k hk⟩
theorem Stored.holds {y y2 : TxS} {x : DevS} {kd : Int} {l L : List Int} {t : ByteArray} (h : Stored y y2 x kd l L (cutsL t)) (hz : t.size ≤ 768) : Holds y2 x kd L t :=
  ⟨h.len.trans (cutsL_length t), hz, fun k hk => by rw [h.hit k (by rw [cutsL_length]; exact hk), cutsL_getD t hk]⟩

/-- Write. -/
theorem write_holds {y : TxS} {x : DevS} {kd : Int} {l : List Int} {t s : ByteArray} {off : Int} (ok : y.Ok) (hs : y.stateE = 0) (hl : Lst y l) (h : Holds y x kd l t) (hsz : s.size ≤ 10000) (hoff : 0 ≤ off ∧ off ≤ t.size) (he : (y.dwrite x kd l t.size off s).1 = 0) :
    Stored y (y.dwrite x kd l t.size off s).2.1 x kd l (y.dwrite x kd l t.size off s).2.2.1 (cutsL (dwText t s off t.size)) ∧ (dwText t s off t.size).size ≤ 768 ∧ (y.dwrite x kd l t.size off s).2.2.2 = (dwText t s off t.size).size := by
  have hz := h.sz
  have htx : y.text x kd l t.size 0 t.size = (t, 0) := by
    have := text_holds h (a := 0) (b := t.size) (by omega) (Nat.le_refl _)
    rw [extract_all] at this
    exact this
  unfold TxS.dwrite at he ⊢
  by_cases h1 : sizedE y l t.size (dwBad t.size off) (dwLong off s.size) ≠ 0
  · rw [if_pos h1] at he; exact absurd he h1
  have hlong : dwLong off s.size = false := (sizedE_zero (by simpa using h1)).2.2.2.2.1
  rw [if_neg h1] at he ⊢
  rw [htx] at he ⊢
  simp only at he ⊢
  rw [if_neg (by simp)] at he ⊢
  by_cases h2 : (y.store x kd l (cutsL (dwText t s off t.size))).1 ≠ 0
  · rw [if_pos h2] at he; exact absurd he h2
  rw [if_neg h2]
  have hw : wrap64 (off + s.size) = off + s.size := by unfold wrap64; omega
  have hl9 : off + s.size ≤ 768 := by
    unfold dwLong at hlong
    rw [hw] at hlong
    simpa using hlong
  have hsize : (dwText t s off t.size).size ≤ 768 := by
    unfold dwText
    simp only [ByteArray.size_append, ByteArray.size_extract]
    omega
  exact ⟨store_good ok hs hl (by simpa using h2), hsize, rfl⟩
/-- Cut. -/
theorem cut_holds {y : TxS} {x : DevS} {kd : Int} {l : List Int} {t : ByteArray} {n : Int} (ok : y.Ok) (hs : y.stateE = 0) (hl : Lst y l) (h : Holds y x kd l t) (he : (y.dcut x kd l t.size n).1 = 0) :
    Stored y (y.dcut x kd l t.size n).2.1 x kd l (y.dcut x kd l t.size n).2.2 (cutsL (dcText t n t.size)) ∧ 0 ≤ n ∧ n ≤ 768 ∧ (dcText t n t.size).size = n.toNat := by
  have hz := h.sz
  have htx : y.text x kd l t.size 0 t.size = (t, 0) := by
    have := text_holds h (a := 0) (b := t.size) (by omega) (Nat.le_refl _)
    rw [extract_all] at this
    exact this
  unfold TxS.dcut at he ⊢
  by_cases h1 : sizedE y l t.size (dcBad n) false ≠ 0
  · rw [if_pos h1] at he; exact absurd he h1
  have hbad : dcBad n = false := (sizedE_zero (by simpa using h1)).2.2.2.1
  rw [if_neg h1] at he ⊢
  rw [htx] at he ⊢
  simp only at he ⊢
  rw [if_neg (by simp)] at he ⊢
  have hn : 0 ≤ n ∧ n ≤ 768 := by unfold dcBad at hbad; simp at hbad; omega
  refine ⟨store_good ok hs hl he, hn.1, hn.2, ?_⟩
  unfold dcText
  rw [ByteArray.size_extract, ByteArray.size_append, zerosB_size]
  omega
/-- Store of parts. -/
theorem dstore_good {y : TxS} {x : DevS} {kd : Int} {l : List Int} {ps : List ByteArray} (ok : y.Ok) (hs : y.stateE = 0) (hl : Lst y l) (he : (y.dstore x kd l ps).1 = 0) : Stored y (y.dstore x kd l ps).2.1 x kd l (y.dstore x kd l ps).2.2 ps ∧ ps.length ≤ 8 := by
  unfold TxS.dstore at he ⊢
  by_cases h1 : dopenE y l ≠ 0
  · rw [if_pos h1] at he; exact absurd he h1
  rw [if_neg h1] at he ⊢
  by_cases h2 : 8 < ps.length ∨ longs ps = true
  · rw [if_pos h2] at he; exact absurd he (by simp)
  rw [if_neg h2] at he ⊢
  exact ⟨store_good ok hs hl he, by omega⟩

/-- What is known of three lists: two hold strings, and all are apart. -/
structure BookOk (y : TxS) (x : DevS) (l0 l1 l2 : List Int) (t0 t1 : ByteArray) : Prop where
  st : y.stateE = 0
  a0 : Lst y l0
  a1 : Lst y l1
  a2 : Lst y l2
  h0 : Holds y x 8 l0 t0
  h1 : Holds y x 8 l1 t1
  len2 : l2.length ≤ 8
  d01 : ∀ b ∈ l0, b ∉ l1
  d02 : ∀ b ∈ l0, b ∉ l2
  d12 : ∀ b ∈ l1, b ∉ l2
theorem BookOk.nil (y : TxS) (x : DevS) (hs : y.stateE = 0) : BookOk y x [] [] [] ⟨#[]⟩ ⟨#[]⟩ :=
  ⟨hs, .nil y, .nil y, .nil y, holds_nil _ _ _, holds_nil _ _ _, by simp, fun _ h => (by cases h), fun _ h => (by cases h), fun _ h => (by cases h)⟩
theorem BookOk.put0 {y y2 : TxS} {x : DevS} {l0 l1 l2 L : List Int} {t0 t1 t : ByteArray} (h : BookOk y x l0 l1 l2 t0 t1) (hst : Stored y y2 x 8 l0 L (cutsL t)) (hz : t.size ≤ 768) : BookOk y2 x L l1 l2 t t1 := by
  obtain ⟨b1, b2, b3⟩ := hst.other h.a1 (fun b hb hb0 => h.d01 b hb0 hb)
  obtain ⟨c1, c2, -⟩ := hst.other h.a2 (fun b hb hb0 => h.d02 b hb0 hb)
  exact ⟨hst.st, hst.lst, b1, c1, hst.holds hz, h.h1.other b3, h.len2, fun b hb hb1 => b2 b hb1 hb, fun b hb hb2 => c2 b hb2 hb, h.d12⟩
theorem BookOk.put1 {y y2 : TxS} {x : DevS} {l0 l1 l2 L : List Int} {t0 t1 t : ByteArray} (h : BookOk y x l0 l1 l2 t0 t1) (hst : Stored y y2 x 8 l1 L (cutsL t)) (hz : t.size ≤ 768) : BookOk y2 x l0 L l2 t0 t := by
  obtain ⟨b1, b2, b3⟩ := hst.other h.a0 (fun b hb hb0 => h.d01 b hb hb0)
  obtain ⟨c1, c2, -⟩ := hst.other h.a2 (fun b hb hb0 => h.d12 b hb0 hb)
  exact ⟨hst.st, b1, hst.lst, c1, h.h0.other b3, hst.holds hz, h.len2, fun b hb hb1 => b2 b hb hb1, h.d02, fun b hb hb2 => c2 b hb2 hb⟩
theorem BookOk.put2 {y y2 : TxS} {x : DevS} {kd : Int} {l0 l1 l2 L : List Int} {t0 t1 : ByteArray} {ps : List ByteArray} (h : BookOk y x l0 l1 l2 t0 t1) (hst : Stored y y2 x kd l2 L ps) (h8 : ps.length ≤ 8) : BookOk y2 x l0 l1 L t0 t1 := by
  obtain ⟨b1, b2, b3⟩ := hst.other h.a0 h.d02
  obtain ⟨c1, c2, c3⟩ := hst.other h.a1 h.d12
  exact ⟨hst.st, b1, c1, hst.lst, h.h0.other b3, h.h1.other c3, by rw [hst.len]; exact h8, h.d01, fun b hb hb2 => b2 b hb hb2, fun b hb hb2 => c2 b hb hb2⟩
end Go.Proofs.YtljmdcegcckblaaGreatDoor
/- Layers 6, 9 and 10 in plain words: how many writes a Commit takes; its cache is empty. No program in sight. -/
namespace Go.Proofs.YtljmdcegcckblaaGreatDoor
open Go.RowKit Go.Maps

theorem write_taken {x : DevS} {a : Int} {s : List Int} (h : (x.write a s).1 = 0) : (x.write a s).2.taken = x.taken + 1 := by
  unfold DevS.write at h ⊢
  split
  · rename_i h1
    rw [if_pos h1] at h
    exact absurd h h1
  · rename_i h1
    rw [if_neg h1] at h
    split
    · rename_i h2
      rw [if_pos h2] at h
      exact absurd (show (13 : Int) = 0 from h) (by decide)
    · unfold DevS.added DevS.room
      split <;> rfl
theorem put_taken {x : DevS} {a k q : Int} {s : ByteArray} (h : (x.put a k q s).1 = 0) : (x.put a k q s).2.taken = x.taken + 1 := by
  unfold DevS.put at h ⊢
  split
  · rename_i h1
    rw [if_pos h1] at h
    exact write_taken h
  · rename_i h1
    rw [if_neg h1] at h
    exact absurd h h1
theorem doneE_zero {p : Int × DevS} (h : (DevS.done p).1 = 0) : p.1 = 0 ∧ (DevS.done p).2 = p.2.flushed := by
  unfold DevS.done at h ⊢
  by_cases h1 : p.1 ≠ 0
  · rw [if_pos h1] at h; exact absurd h h1
  · rw [if_neg h1] at h ⊢
    unfold DevS.flush readyE at h ⊢
    cases ho : p.2.off
    · exact ⟨by simpa using h1, by simp⟩
    · rw [ho] at h; exact absurd (show (13 : Int) = 0 from h) (by decide)
theorem clear_taken {x : DevS} {F Z : Int} (h : (x.clear F Z).1 = 0) : (x.clear F Z).2.taken = x.taken + 1 ∧ (x.clear F Z).2.cache = [] := by
  unfold DevS.clear at h ⊢
  split
  · rename_i h1; rw [if_pos h1] at h; exact absurd h h1
  · rename_i h1
    rw [if_neg h1] at h
    obtain ⟨d1, d2⟩ := doneE_zero h
    have h4 := put_taken d1
    rw [d2]
    exact ⟨h4, rfl⟩
end Go.Proofs.YtljmdcegcckblaaGreatDoor
