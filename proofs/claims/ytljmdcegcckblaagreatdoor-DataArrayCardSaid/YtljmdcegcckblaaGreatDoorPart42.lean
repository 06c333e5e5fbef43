/- Parts of the proof, put together by program: DB, ZE, N1, N2. -/
import Derived.Test.YtljmdcegcckblaaGreatDoorPart38
import Derived.Test.YtljmdcegcckblaaGreatDoorPart41
import Derived.Test.YtljmdcegcckblaaGreatDoorPart19
import Derived.Test.YtljmdcegcckblaaGreatDoorPart32
import Derived.Test.YtljmdcegcckblaaGreatDoorPart37
/- Layer 12 in plain words: strings in lists of blocks; what each call makes of two strings. No program in sight. -/
namespace Go.Proofs.YtljmdcegcckblaaGreatDoor
open Go.RowKit Go.Maps

theorem ba_join (t : ByteArray) {A M N : Nat} (h : M ≤ N) : t.extract A M ++ t.extract (max A M) N = t.extract A N := by
  apply ba_ext
  apply Array.ext_getElem?
  intro i
  simp only [ByteArray.data_append, ByteArray.data_extract, Array.getElem?_append, Array.getElem?_extract, Array.size_extract]
  have e : t.data.size = t.size := rfl
  simp only [e]
  by_cases h1 : i < min M t.size - A
  · rw [if_pos h1, if_pos h1, if_pos (by omega)]
  · rw [if_neg h1]
    by_cases h2 : i < min N t.size - A
    · rw [if_pos h2, if_pos (by omega)]
      congr 1; omega
    · rw [if_neg h2, if_neg (by omega)]
theorem ba_none (t : ByteArray) {A N : Nat} (h : min N t.size ≤ A) : t.extract A N = ⟨#[]⟩ := by
  apply ba_ext
  apply Array.ext_getElem?
  intro i
  simp only [ByteArray.data_extract, Array.getElem?_extract]
  have e : t.data.size = t.size := rfl
  rw [if_neg (by omega)]
  simp
theorem cutAt_sz (t : ByteArray) (k : Nat) : (cutAt t k).size = min (96 * k + 96) t.size - 96 * k := by unfold cutAt; rw [ByteArray.size_extract]
theorem cutsL_getD (t : ByteArray) {k : Nat} (hk : k < nCuts t.size) : (cutsL t).getD k ⟨#[]⟩ = cutAt t k := by
  unfold cutsL
  rw [List.getD_eq_getElem?_getD, List.getElem?_map, List.getElem?_range hk]; rfl

/-- A list of blocks holds a string. -/
structure Holds (y : TxS) (x : DevS) (kd : Int) (l : List Int) (t : ByteArray) : Prop where
  len : l.length = nCuts t.size
  sz : t.size ≤ 768
  part : ∀ k, k < nCuts t.size → y.part x kd (l.getD k 0) = (cutAt t k, 0)
theorem holds_nil (y : TxS) (x : DevS) (kd : Int) : Holds y x kd [] ⟨#[]⟩ := ⟨rfl, by decide, fun k hk => by have : nCuts (⟨#[]⟩ : ByteArray).size = 0 := rfl; omega⟩

theorem textK_holds {y : TxS} {x : DevS} {kd : Int} {l : List Int} {t : ByteArray} (h : Holds y x kd l t) {a b : Nat} (ha : a ≤ b) (hb : b ≤ t.size) :
    ∀ k, k ≤ nCuts t.size → textK y x kd t.size a b l k = (t.extract a (min b (96 * k)), 0) := by
  intro k
  induction k with
  | zero => intro _; rw [show min b (96 * 0) = 0 by omega, ba_none t (by omega)]; rfl
  | succ k ih =>
    intro hk
    have ih := ih (by omega)
    have hk2 : 96 * k < t.size := by unfold nCuts at hk; omega
    have e : textK y x kd t.size a b l (k + 1) = if (textK y x kd t.size a b l k).2 ≠ 0 then textK y x kd t.size a b l k
      else if min ((k : Int) * 96 + 96) t.size ≤ a ∨ (b : Int) ≤ (k : Int) * 96 then textK y x kd t.size a b l k
      else if (y.part x kd (l.getD k 0)).2 ≠ 0 then (⟨#[]⟩, (y.part x kd (l.getD k 0)).2)
      else if ((y.part x kd (l.getD k 0)).1.size : Int) ≠ min ((k : Int) * 96 + 96) t.size - k * 96 then (⟨#[]⟩, 6)
      else ((textK y x kd t.size a b l k).1 ++ (y.part x kd (l.getD k 0)).1.extract (max ((a : Int) - k * 96) 0).toNat (min ((b : Int) - k * 96) (y.part x kd (l.getD k 0)).1.size).toNat, 0) := rfl
    rw [e, ih, h.part k (by omega)]
    simp only
    rw [if_neg (by simp)]
    by_cases h1 : min ((k : Int) * 96 + 96) t.size ≤ a ∨ (b : Int) ≤ (k : Int) * 96
    · rw [if_pos h1]
      congr 1
      rcases h1 with h1 | h1
      · rw [ba_none t (by omega), ba_none t (by omega)]
      · rw [show min b (96 * k) = b by omega, show min b (96 * (k + 1)) = b by omega]
    · rw [if_neg h1, if_neg (by simp), if_neg (by rw [cutAt_sz]; simp; omega)]
      congr 1
      have hs := cutAt_sz t k
      rw [hs]
      have e1 : (max ((a : Int) - k * 96) 0).toNat = a - 96 * k := by omega
      have e2 : (min ((b : Int) - k * 96) ((min (96 * k + 96) t.size - 96 * k : Nat) : Int)).toNat = min (b - 96 * k) (min (96 * k + 96) t.size - 96 * k) := by omega
      rw [e1, e2]
      have e3 : (cutAt t k).extract (a - 96 * k) (min (b - 96 * k) (min (96 * k + 96) t.size - 96 * k)) = t.extract (max a (min b (96 * k))) (min b (96 * (k + 1))) := by
        unfold cutAt
        rw [ByteArray.extract_extract]
        apply ba_ext
        apply Array.ext_getElem?
        intro i
        simp only [ByteArray.data_extract, Array.getElem?_extract]
        have e9 : t.data.size = t.size := rfl
        simp only [e9]
        by_cases hi : i < min (min b (96 * (k + 1))) t.size - max a (min b (96 * k))
        · rw [if_pos hi, if_pos (by omega)]
          congr 1; omega
        · rw [if_neg hi, if_neg (by omega)]
      rw [e3]
      exact ba_join t (by omega)
theorem text_holds {y : TxS} {x : DevS} {kd : Int} {l : List Int} {t : ByteArray} (h : Holds y x kd l t) {a b : Nat} (ha : a ≤ b) (hb : b ≤ t.size) : y.text x kd l t.size a b = (t.extract a b, 0) := by
  have := textK_holds h ha hb l.length (by rw [h.len]; exact Nat.le_refl _)
  unfold TxS.text
  rw [this, h.len]
  congr 2
  unfold nCuts
  omega
theorem open_holds {y : TxS} {l : List Int} (hs : y.stateE = 0) (hl : Lst y l) (h8 : l.length ≤ 8) : dopenE y l = 0 := by
  unfold dopenE
  rw [if_neg (by simpa using hs), if_neg (by omega)]
  refine LsE_of (fun k hk => ?_) (Nat.le_refl _)
  have hr := hl.rng _ (List.getElem_mem hk)
  refine ⟨hr.1, hr.2, fun hm => ?_⟩
  obtain ⟨i, hi, e⟩ := List.mem_take_iff_getElem.1 hm
  have := List.pairwise_iff_getElem.1 (List.nodup_iff_pairwise_ne.1 hl.nd) i k (by omega) hk (by omega)
  exact this e
theorem nCuts_le {n : Nat} (h : n ≤ 768) : nCuts n ≤ 8 := by unfold nCuts; omega
theorem sized_holds {y : TxS} {x : DevS} {kd : Int} {l : List Int} {t : ByteArray} (hs : y.stateE = 0) (hl : Lst y l) (h : Holds y x kd l t) : sizedE y l t.size false false = 0 := by
  have h8 := nCuts_le h.sz
  have hz := h.sz
  have hlen := h.len
  unfold sizedE
  rw [if_neg (by simpa using open_holds hs hl (by omega)), if_neg (by simp; omega), if_neg (by simp), if_neg (by rw [hlen]; unfold nCuts; omega)]
/-- Read of what a list holds. -/
theorem read_holds {y : TxS} {x : DevS} {kd : Int} {l : List Int} {t : ByteArray} (hs : y.stateE = 0) (hl : Lst y l) (h : Holds y x kd l t) {off n : Int} (h0 : 0 ≤ off) (hn : 0 ≤ n) :
    y.dread x kd l t.size off n = (t.extract (min off t.size).toNat (min off t.size + min n (t.size - min off t.size)).toNat, 0) := by
  have e1 : decide (off < 0) = false := decide_eq_false (by omega)
  have e2 : decide (n < 0) = false := decide_eq_false (by omega)
  unfold TxS.dread
  rw [e1, e2, Bool.or_false, if_neg (by simpa using sized_holds hs hl h)]
  by_cases h1 : min off (t.size : Int) = min off t.size + min n (t.size - min off t.size)
  · rw [if_pos h1, ← h1, ba_none t (by omega)]
  · rw [if_neg h1]
    have := text_holds h (a := (min off (t.size : Int)).toNat) (b := (min off (t.size : Int) + min n (t.size - min off t.size)).toNat) (by omega) (by omega)
    rw [← this]
    congr 1 <;> omega
theorem extract_all (t : ByteArray) : t.extract 0 t.size = t := by
  apply ba_ext; simp
theorem read_whole {y : TxS} {x : DevS} {kd : Int} {l : List Int} {t : ByteArray} (hs : y.stateE = 0) (hl : Lst y l) (h : Holds y x kd l t) : y.dread x kd l t.size 0 768 = (t, 0) := by
  have hz := h.sz
  rw [read_holds hs hl h (by omega) (by omega)]
  rw [show (min (0 : Int) t.size).toNat = 0 by omega, show (min (0 : Int) t.size + min 768 (t.size - min (0 : Int) t.size)).toNat = t.size by omega, extract_all]

/-- A list that a call does not name. -/
theorem Stored.other {y y2 : TxS} {x : DevS} {kd : Int} {l L m : List Int} {ps : List ByteArray} (h : Stored y y2 x kd l L ps) (hm : Lst y m) (hd : ∀ b ∈ m, b ∉ l) : Lst y2 m ∧ (∀ b ∈ m, b ∉ L) ∧ ∀ kd' b, b ∈ m → y2.part x kd' b = y.part x kd' b := by
  have hL : ∀ b ∈ m, b ∉ L := fun b hb hbL => by
    rcases h.old b hbL with h1 | h1
    · exact hd b hb h1
    · rw [hm.used b hb] at h1; cases h1
  refine ⟨⟨fun b hb => by rw [h.nlen]; exact hm.rng b hb, hm.nd, fun b hb => ?_⟩, hL, fun kd' b hb => ?_⟩
  · have hr := hm.rng b hb
    rw [(h.out b hr.1 hr.2 (hd b hb) (hL b hb)).1]; exact hm.used b hb
  · have hr := hm.rng b hb
    exact (h.out b hr.1 hr.2 (hd b hb) (hL b hb)).2 kd'
theorem Holds.other {y y2 : TxS} {x : DevS} {kd : Int} {m : List Int} {t : ByteArray} (h : Holds y x kd m t) (hp : ∀ kd' b, b ∈ m → y2.part x kd' b = y.part x kd' b) : Holds y2 x kd m t :=
  ⟨h.len, h.sz, fun k hk => by
    have hkl : k < m.length := by rw [h.len]; exact hk
    have hm : m.getD k 0 ∈ m := by rw [List.getD_eq_getElem?_getD, List.getElem?_eq_getElem hkl]; exact List.getElem_mem hkl
    rw [hp kd _ hm]; exact h.part k hk⟩
theorem Stored.holds {y y2 : TxS} {x : DevS} {kd : Int} {l L : List Int} {t : ByteArray} (h : Stored y y2 x kd l L (cutsL t)) (hz : t.size ≤ 768) : Holds y2 x kd L t :=
  ⟨h.len.trans (cutsL_length t), hz, fun k hk => by rw [h.hit k (by rw [cutsL_length]; exact hk), cutsL_getD t hk]⟩

/-- Write. -/
theorem write_holds {y : TxS} {x : DevS} {kd : Int} {l : List Int} {t s : ByteArray} {off : Int} (ok : y.Ok) (hs : y.stateE = 0) (hl : Lst y l) (h : Holds y x kd l t) (hsz : s.size ≤ 10000) (hoff : 0 ≤ off ∧ off ≤ t.size) (he : (y.dwrite x kd l t.size off s).1 = 0) :
    Stored y (y.dwrite x kd l t.size off s).2.1 x kd l (y.dwrite x kd l t.size off s).2.2.1 (cutsL (dwText t s off t.size)) ∧ (dwText t s off t.size).size ≤ 768 ∧ (y.dwrite x kd l t.size off s).2.2.2 = (dwText t s off t.size).size := by
  have hz := h.sz
  have htx : y.text x kd l t.size 0 t.size = (t, 0) := by
    have := text_holds h (a := 0) (b := t.size) (by omega) (Nat.le_refl _)
    rw [extract_all] at this
    exact this
  unfold TxS.dwrite at he ⊢
  by_cases h1 : sizedE y l t.size (dwBad t.size off) (dwLong off s.size) ≠ 0
  · rw [if_pos h1] at he; exact absurd he h1
  have hlong : dwLong off s.size = false := (sizedE_zero (by simpa using h1)).2.2.2.2.1
  rw [if_neg h1] at he ⊢
  rw [htx] at he ⊢
  simp only at he ⊢
  rw [if_neg (by simp)] at he ⊢
  by_cases h2 : (y.store x kd l (cutsL (dwText t s off t.size))).1 ≠ 0
  · rw [if_pos h2] at he; exact absurd he h2
  rw [if_neg h2]
  have hw : wrap64 (off + s.size) = off + s.size := by unfold wrap64; omega
  have hl9 : off + s.size ≤ 768 := by
    unfold dwLong at hlong
    rw [hw] at hlong
    simpa using hlong
  have hsize : (dwText t s off t.size).size ≤ 768 := by
    unfold dwText
    simp only [ByteArray.size_append, ByteArray.size_extract]
    omega
  exact ⟨store_good ok hs hl (by simpa using h2), hsize, rfl⟩
/-- Cut. -/
theorem cut_holds {y : TxS} {x : DevS} {kd : Int} {l : List Int} {t : ByteArray} {n : Int} (ok : y.Ok) (hs : y.stateE = 0) (hl : Lst y l) (h : Holds y x kd l t) (he : (y.dcut x kd l t.size n).1 = 0) :
    Stored y (y.dcut x kd l t.size n).2.1 x kd l (y.dcut x kd l t.size n).2.2 (cutsL (dcText t n t.size)) ∧ 0 ≤ n ∧ n ≤ 768 ∧ (dcText t n t.size).size = n.toNat := by
  have hz := h.sz
  have htx : y.text x kd l t.size 0 t.size = (t, 0) := by
    have := text_holds h (a := 0) (b := t.size) (by omega) (Nat.le_refl _)
    rw [extract_all] at this
    exact this
  unfold TxS.dcut at he ⊢
  by_cases h1 : sizedE y l t.size (dcBad n) false ≠ 0
  · rw [if_pos h1] at he; exact absurd he h1
  have hbad : dcBad n = false := (sizedE_zero (by simpa using h1)).2.2.2.1
  rw [if_neg h1] at he ⊢
  rw [htx] at he ⊢
  simp only at he ⊢
  rw [if_neg (by simp)] at he ⊢
  have hn : 0 ≤ n ∧ n ≤ 768 := by unfold dcBad at hbad; simp at hbad; omega
  refine ⟨store_good ok hs hl he, hn.1, hn.2, ?_⟩
  unfold dcText
  rw [ByteArray.size_extract, ByteArray.size_append, zerosB_size]
  omega
/-- Store of parts. -/
theorem dstore_good {y : TxS} {x : DevS} {kd : Int} {l : List Int} {ps : List ByteArray} (ok : y.Ok) (hs : y.stateE = 0) (hl : Lst y l) (he : (y.dstore x kd l ps).1 = 0) : Stored y (y.dstore x kd l ps).2.1 x kd l (y.dstore x kd l ps).2.2 ps ∧ ps.length ≤ 8 := by
  unfold TxS.dstore at he ⊢
  by_cases h1 : dopenE y l ≠ 0
  · rw [if_pos h1] at he; exact absurd he h1
  rw [if_neg h1] at he ⊢
  by_cases h2 : 8 < ps.length ∨ longs ps = true
  · rw [if_pos h2] at he; exact absurd he (by simp)
  rw [if_neg h2] at he ⊢
  exact ⟨store_good ok hs hl he, by omega⟩

/-- What is known of three lists: two hold strings, and all are apart. -/
structure BookOk (y : TxS) (x : DevS) (l0 l1 l2 : List Int) (t0 t1 : ByteArray) : Prop where
  st : y.stateE = 0
  a0 : Lst y l0
  a1 : Lst y l1
  a2 : Lst y l2
  h0 : Holds y x 8 l0 t0
  h1 : Holds y x 8 l1 t1
  len2 : l2.length ≤ 8
  d01 : ∀ b ∈ l0, b ∉ l1
  d02 : ∀ b ∈ l0, b ∉ l2
  d12 : ∀ b ∈ l1, b ∉ l2
theorem BookOk.nil (y : TxS) (x : DevS) (hs : y.stateE = 0) : BookOk y x [] [] [] ⟨#[]⟩ ⟨#[]⟩ :=
  ⟨hs, .nil y, .nil y, .nil y, holds_nil _ _ _, holds_nil _ _ _, by simp, fun _ h => (by cases h), fun _ h => (by cases h), fun _ h => (by cases h)⟩
theorem BookOk.put0 {y y2 : TxS} {x : DevS} {l0 l1 l2 L : List Int} {t0 t1 t : ByteArray} (h : BookOk y x l0 l1 l2 t0 t1) (hst : Stored y y2 x 8 l0 L (cutsL t)) (hz : t.size ≤ 768) : BookOk y2 x L l1 l2 t t1 := by
  obtain ⟨b1, b2, b3⟩ := hst.other h.a1 (fun b hb hb0 => h.d01 b hb0 hb)
  obtain ⟨c1, c2, -⟩ := hst.other h.a2 (fun b hb hb0 => h.d02 b hb0 hb)
  exact ⟨hst.st, hst.lst, b1, c1, hst.holds hz, h.h1.other b3, h.len2, fun b hb hb1 => b2 b hb1 hb, fun b hb hb2 => c2 b hb2 hb, h.d12⟩
theorem BookOk.put1 {y y2 : TxS} {x : DevS} {l0 l1 l2 L : List Int} {t0 t1 t : ByteArray} (h : BookOk y x l0 l1 l2 t0 t1) (hst : Stored y y2 x 8 l1 L (cutsL t)) (hz : t.size ≤ 768) : BookOk y2 x l0 L l2 t0 t := by
  obtain ⟨b1, b2, b3⟩ := hst.other h.a0 (fun b hb hb0 => h.d01 b hb hb0)
  obtain ⟨c1, c2, -⟩ := hst.other h.a2 (fun b hb hb0 => h.d12 b hb0 hb)
  exact ⟨hst.st, b1, hst.lst, c1, h.h0.other b3, hst.holds hz, h.len2, fun b hb hb1 => b2 b hb hb1, h.d02, fun b hb hb2 => c2 b hb2 hb⟩
theorem BookOk.put2 {y y2 : TxS} {x : DevS} {kd : Int} {l0 l1 l2 L : List Int} {t0 t1 : ByteArray} {ps : List ByteArray} (h : BookOk y x l0 l1 l2 t0 t1) (hst : Stored y y2 x kd l2 L ps) (h8 : ps.length ≤ 8) : BookOk y2 x l0 l1 L t0 t1 := by
  obtain ⟨b1, b2, b3⟩ := hst.other h.a0 h.d02
  obtain ⟨c1, c2, c3⟩ := hst.other h.a1 h.d12
  exact ⟨hst.st, b1, c1, hst.lst, h.h0.other b3, h.h1.other c3, by rw [hst.len]; exact h8, h.d01, fun b hb hb2 => b2 b hb hb2, fun b hb hb2 => c2 b hb hb2⟩
end Go.Proofs.YtljmdcegcckblaaGreatDoor
/- Layer 12: on which sectors of the device the functions of data lean; the example of awake in plain words. No program in sight. -/
namespace Go.Proofs.YtljmdcegcckblaaGreatDoor
open Go.RowKit Go.Maps

/-- Two devices that read alike outside of the journal and the bitmap. -/
def Agree (x x' : DevS) (s j : Int) : Prop := ∀ a, (a = 0 ∨ 2 + j ≤ a) → a < s → x.ge a = x'.ge a ∧ x.fr a = x'.fr a
theorem SecV_free (s j i b : Int) : SecV s j i b = 0 ∨ 2 + j ≤ SecV s j i b := by
  unfold SecV
  split
  · rename_i h
    unfold SecE at h
    split at h
    · rename_i h2
      split at h
      · cases h
      · have h3 := (rg_ok h2).2.2.2.1
        have h4 := rg_bds h2
        have h5 := (rg_ok h2).2.2.2.2
        right; omega
    · rename_i h2; exact absurd h h2
  · exact .inl rfl
theorem part_congr {x x' : DevS} {y : TxS} (h : Agree x x' y.s y.j) (kd b : Int) : y.part x kd b = y.part x' kd b := by
  have e : y.read x (SecV y.s y.j y.i b) = y.read x' (SecV y.s y.j y.i b) := by
    unfold TxS.read
    split
    · rfl
    · split
      · rfl
      · rename_i h1 h2
        have h3 := h (SecV y.s y.j y.i b) (SecV_free _ _ _ _) (by omega)
        unfold TxS.readR
        rw [h3.1, h3.2]
  unfold TxS.part; rw [e]
theorem text_congr {x x' : DevS} {y : TxS} (h : Agree x x' y.s y.j) (kd : Int) (l : List Int) (size a b : Int) : y.text x kd l size a b = y.text x' kd l size a b := by
  have e : ∀ k, textK y x kd size a b l k = textK y x' kd size a b l k := by
    intro k
    induction k with
    | zero => rfl
    | succ k ih => unfold textK; rw [ih, part_congr h]
  exact e _
theorem Agree.same {x x' : DevS} {y z : TxS} (h : Agree x x' y.s y.j) (hs : z.Same y) : Agree x x' z.s z.j := by rw [hs.1, hs.2.1]; exact h
theorem puts_congr {x x' : DevS} {y : TxS} (h : Agree x x' y.s y.j) (kd : Int) (l : List Int) (ps : List ByteArray) (k : Nat) : y.puts x kd l ps k = y.puts x' kd l ps k := by
  induction k with
  | zero => rfl
  | succ k ih => unfold TxS.puts; rw [ih, part_congr (h.same (TxS.puts_same _ _ _ _ _ _))]
theorem TxS.fit_same (y : TxS) (l : List Int) (n : Nat) : (y.fit l n).2.1.Same y := by
  unfold TxS.fit
  split
  · exact TxS.free_same _ _
  · split
    · exact TxS.take_same _ _ _
    · exact ⟨rfl, rfl, rfl⟩
theorem store_congr {x x' : DevS} {y : TxS} (h : Agree x x' y.s y.j) (kd : Int) (l : List Int) (ps : List ByteArray) : y.store x kd l ps = y.store x' kd l ps := by
  unfold TxS.store; rw [puts_congr (h.same (TxS.fit_same _ _ _))]
theorem dread_congr {x x' : DevS} {y : TxS} (h : Agree x x' y.s y.j) (kd : Int) (l : List Int) (size a b : Int) : y.dread x kd l size a b = y.dread x' kd l size a b := by
  unfold TxS.dread; rw [text_congr h]
theorem dwrite_congr {x x' : DevS} {y : TxS} (h : Agree x x' y.s y.j) (kd : Int) (l : List Int) (size a : Int) (s : ByteArray) : y.dwrite x kd l size a s = y.dwrite x' kd l size a s := by
  unfold TxS.dwrite; rw [text_congr h, store_congr h]
theorem dcut_congr {x x' : DevS} {y : TxS} (h : Agree x x' y.s y.j) (kd : Int) (l : List Int) (size a : Int) : y.dcut x kd l size a = y.dcut x' kd l size a := by
  unfold TxS.dcut; rw [text_congr h, store_congr h]
theorem TxS.store_same (y : TxS) (x : DevS) (kd : Int) (l : List Int) (ps : List ByteArray) : (y.store x kd l ps).2.1.Same y := by
  unfold TxS.store
  split
  · exact TxS.fit_same _ _ _
  · split <;> exact (TxS.puts_same _ _ _ _ _ _).trans (TxS.fit_same _ _ _)
theorem TxS.dwrite_same (y : TxS) (x : DevS) (kd : Int) (l : List Int) (size a : Int) (s : ByteArray) : (y.dwrite x kd l size a s).2.1.Same y := by
  unfold TxS.dwrite
  split
  · exact ⟨rfl, rfl, rfl⟩
  · split
    · exact ⟨rfl, rfl, rfl⟩
    · split <;> exact TxS.store_same _ _ _ _ _
theorem TxS.dcut_same (y : TxS) (x : DevS) (kd : Int) (l : List Int) (size a : Int) : (y.dcut x kd l size a).2.1.Same y := by
  unfold TxS.dcut
  split
  · exact ⟨rfl, rfl, rfl⟩
  · split
    · exact ⟨rfl, rfl, rfl⟩
    · exact TxS.store_same _ _ _ _ _

/-! The example. -/
def lettersB (c : Int) (n : Nat) : ByteArray := strOfNums (List.replicate n c)
def aw1 (x : DevS) : Int × TxS × List Int × Int := yA.dwrite x 8 [] 0 0 (lettersB 97 100)
def aw2 (x : DevS) : ByteArray × Int := (aw1 x).2.1.dread x 8 [0, 1] 100 94 9
def aw3 (x : DevS) : Int × TxS × List Int × Int := (aw1 x).2.1.dwrite x 8 [0, 1] 100 96 ⟨#[98, 98]⟩
def aw4 (x : DevS) : Int × TxS × List Int := (aw3 x).2.1.dcut x 8 [0, 1] 100 3
def aw5 (x : DevS) : Int × TxS × List Int := (aw4 x).2.1.dcut x 8 [0] 3 5
def aw6 (x : DevS) : ByteArray × Int := (aw5 x).2.1.dread x 8 [0] 5 0 768
theorem aw_newDev : (aw1 (newDev 64)).1 = 0 ∧ (aw1 (newDev 64)).2.2.1 = [0, 1] ∧ (aw1 (newDev 64)).2.2.2 = 100 ∧ aw2 (newDev 64) = (⟨#[97, 97, 97, 97, 97, 97]⟩, 0) ∧ (aw3 (newDev 64)).1 = 0 ∧ (aw3 (newDev 64)).2.2.1 = [0, 1] ∧ (aw3 (newDev 64)).2.2.2 = 100 ∧
    (aw4 (newDev 64)).1 = 0 ∧ (aw4 (newDev 64)).2.2 = [0] ∧ (aw5 (newDev 64)).1 = 0 ∧ (aw5 (newDev 64)).2.2 = [0] ∧ aw6 (newDev 64) = (⟨#[97, 97, 97, 0, 0]⟩, 0) := by decide +kernel
theorem awake_plain {x : DevS} (hx : ∀ a, (a = 0 ∨ 10 ≤ a) → a < 64 → x.ge a = 70) : (aw1 x).1 = 0 ∧ (aw1 x).2.2.1 = [0, 1] ∧ (aw1 x).2.2.2 = 100 ∧ aw2 x = (⟨#[97, 97, 97, 97, 97, 97]⟩, 0) ∧ (aw3 x).1 = 0 ∧ (aw3 x).2.2.1 = [0, 1] ∧ (aw3 x).2.2.2 = 100 ∧
    (aw4 x).1 = 0 ∧ (aw4 x).2.2 = [0] ∧ (aw5 x).1 = 0 ∧ (aw5 x).2.2 = [0] ∧ aw6 x = (⟨#[97, 97, 97, 0, 0]⟩, 0) := by
  have hA : Agree x (newDev 64) yA.s yA.j := fun a h1 h2 => by
    have h3 : x.ge a = 70 := hx a h1 h2
    have h4 : (newDev 64).ge a = 70 := newDev_ge (by omega) (by
      have h1' : a = 0 ∨ 10 ≤ a := h1
      have h2' : a < 64 := h2
      omega)
    exact ⟨h3.trans h4.symm, (fr_blank h3).trans (fr_blank h4).symm⟩
  have e1 : aw1 x = aw1 (newDev 64) := dwrite_congr hA _ _ _ _ _
  have h1 := hA.same (TxS.dwrite_same yA (newDev 64) 8 [] 0 0 (lettersB 97 100))
  have e2 : aw2 x = aw2 (newDev 64) := by unfold aw2; rw [e1]; exact dread_congr h1 _ _ _ _ _
  have e3 : aw3 x = aw3 (newDev 64) := by unfold aw3; rw [e1]; exact dwrite_congr h1 _ _ _ _ _
  have h3 := h1.same (TxS.dwrite_same (aw1 (newDev 64)).2.1 (newDev 64) 8 [0, 1] 100 96 ⟨#[98, 98]⟩)
  have e4 : aw4 x = aw4 (newDev 64) := by unfold aw4; rw [e3]; exact dcut_congr h3 _ _ _ _
  have h4 := h3.same (TxS.dcut_same (aw3 (newDev 64)).2.1 (newDev 64) 8 [0, 1] 100 3)
  have e5 : aw5 x = aw5 (newDev 64) := by unfold aw5; rw [e4]; exact dcut_congr h4 _ _ _ _
  have h5 := h4.same (TxS.dcut_same (aw4 (newDev 64)).2.1 (newDev 64) 8 [0] 3 5)
  have e6 : aw6 x = aw6 (newDev 64) := by unfold aw6; rw [e5]; exact dread_congr h5 _ _ _ _ _
  rw [e1, e2, e3, e4, e5, e6]
  exact aw_newDev

end Go.Proofs.YtljmdcegcckblaaGreatDoor
/- The laws of layer 12: small functions. -/
namespace Go.Proofs.YtljmdcegcckblaaGreatDoor
open Go.RowKit Go.Maps

set_option maxRecDepth 100000 in
set_option maxHeartbeats 2000000 in
theorem sameInts_any (A Bl : Option Addr) (c d : Nat) (la lb : List Int) (hla : la.length ≤ 100000) (hlb : lb.length ≤ 100000) (w : World) (hA : Reads w A (la.map (.int .i64))) (hB : Reads w Bl (lb.map (.int .i64))) :
    Calls Tryz.prog 26 #[.slice A la.length c, .slice Bl lb.length d] w fun e w' => e = .returned (.bool (decide (la = lb))) ∧ Below w.heap.size w w' := by
  by_cases hl : la.length = lb.length
  rotate_left
  · have hd : decide (la = lb) = false := decide_eq_false fun e => hl (by rw [e])
    have HD := Lib.hid hd
    have hq : ((la.length : Int) != (lb.length : Int)) = true := by simp; omega
    clear hd hl
    go_enter Tryz.func26, Tryz.ntmps26
    go_wp2_with fail
    go_ret
    exact ⟨by rw [HD.out]; rfl, Below.refl _ _⟩
  · have hq : ((la.length : Int) != (lb.length : Int)) = false := by simp; omega
    have HL := Lib.hid hl
    clear hl
    go_enter Tryz.func26, Tryz.ntmps26
    go_wp2_with fail
    go_loopw [5] (fun q wr => ∃ k : Nat, k ≤ la.length ∧ q = .int .i64 k ∧ la.take k = lb.take k ∧ Below w.heap.size w wr) (fun q _ => la.length - (RowKit.intOf q).toNat)
    case atStart => exact ⟨0, Nat.zero_le _, rfl, by simp, Below.refl _ _⟩
    case round =>
      obtain ⟨k, hk, rfl, ht, hb⟩ := hrel
      by_cases hlt : k < la.length
      · have hlt2 : k < lb.length := by have := HL.out; omega
        obtain ⟨b1, o1, rfl, hb1, hc1⟩ := (hA.below hb).at_ (k := k) (by simpa using hlt)
        obtain ⟨b2, o2, rfl, hb2, hc2⟩ := (hB.below hb).at_ (k := k) (by simpa using hlt2)
        rw [List.getElem_map] at hc1 hc2
        have hta : la.take (k + 1) = la.take k ++ [la[k]] := by rw [List.take_succ_eq_append_getElem hlt]
        have htb : lb.take (k + 1) = lb.take k ++ [lb[k]] := by rw [List.take_succ_eq_append_getElem hlt2]
        have HNE : Hid (la[k] ≠ lb[k] → decide (la = lb) = false) := Lib.hid fun hne => decide_eq_false fun e => hne (by subst e; rfl)
        have HT := Lib.hid ht
        have HA' := Lib.hid hA
        have HB' := Lib.hid hB
        have HTA := Lib.hid hta
        have HTB := Lib.hid htb
        generalize la[k] = x at *
        generalize lb[k] = z at *
        clear hta htb ht hA hB
        by_cases he : x = z
        · subst he
          go_wp2_with fail
          go_quiet (fail)
          go_wp2_with fail
          go_roundw
          case rel => exact ⟨k + 1, by omega, by go_num, by rw [HTA.out, HTB.out, HT.out], below_drewN' hb _⟩
          case measure => simp [RowKit.intOf]; omega
        · have hn : (x != z) = true := by simpa using he
          have HF := Lib.hid (HNE.out he)
          clear he
          go_wp2_with fail
          go_quiet (fail)
          go_wp2_with fail
          go_ret
          exact ⟨by rw [HF.out]; rfl, below_drewN' hb _⟩
      · obtain rfl : k = la.length := by omega
        have HD : Hid (decide (la = lb) = true) := Lib.hid (decide_eq_true (by rw [List.take_length, HL.out, List.take_length] at ht; exact ht))
        clear ht
        go_wp2_with fail
        go_ret
        exact ⟨by rw [HD.out]; rfl, hb⟩

def letK (c : Int) (n k : Nat) : List Int := List.replicate k c ++ List.replicate (n - k) 0
theorem letK_set (c : Int) (n k : Nat) (hk : k < n) : (letK c n k).set k c = letK c n (k + 1) := by
  unfold letK
  apply List.ext_getElem?
  intro i
  by_cases hi : i = k
  · subst hi
    rw [List.getElem?_set_self (by simp; omega), List.getElem?_append_left (by simp), List.getElem?_replicate, if_pos (by omega)]
  · rw [List.getElem?_set_ne (fun e => hi e.symm)]
    by_cases h2 : i < k
    · rw [List.getElem?_append_left (by simpa using h2), List.getElem?_append_left (by simp; omega), List.getElem?_replicate, List.getElem?_replicate, if_pos h2, if_pos (by omega)]
    · rw [List.getElem?_append_right (by simp; omega), List.getElem?_append_right (by simp; omega), List.getElem?_replicate, List.getElem?_replicate]
      simp only [List.length_replicate]
      by_cases h3 : i < n
      · rw [if_pos (by omega), if_pos (by omega)]
      · rw [if_neg (by omega), if_neg (by omega)]

set_option maxRecDepth 100000 in
set_option maxHeartbeats 2000000 in
theorem letters_any (c : Int) (n : Nat) (hn : n ≤ 1000) (w : World) :
    Calls Tryz.prog 32 #[.int .u8 c, .int .i64 n] w fun e w' => e = .returned (.string (lettersB c n)) ∧ Below w.heap.size w w' := by
  have hmk := make_bytes n (by omega) w
  have HB : Hid (bytesV (letK c n 0) = fill (.int .u8 0) n) := Lib.hid (by unfold letK; rw [← bytesV_rep]; simp)
  have HX : Hid (lettersB c n = strOfNums (letK c n n)) := Lib.hid (by unfold lettersB letK; simp)
  go_enter Tryz.func32, Tryz.ntmps32
  go_wp2_with fail
  clear hmk
  go_loopw [6] (fun q wr => ∃ k : Nat, k ≤ n ∧ q = .int .i64 k ∧ Blk wr w.heap.size 5 (bytesV (letK c n k)) ∧ Below w.heap.size w wr) (fun q _ => n - (RowKit.intOf q).toNat)
  case atStart => exact ⟨0, Nat.zero_le _, rfl, by rw [HB.out]; exact Blk.new _ _ _, (Below.refl _ _).alloc (Nat.le_refl _) _⟩
  case round =>
    obtain ⟨k, hk, rfl, b, hb⟩ := hrel
    have hll : (letK c n k).length = n := by unfold letK; simp; omega
    by_cases hlt : k < n
    · have hcx : wr.cell? ⟨w.heap.size, k, none⟩ = some (.int .u8 ((letK c n k).getD k 0)) := (b.cells k).trans (bytesV_get (by omega))
      have HS := Lib.hid (letK_set c n k hlt)
      have lB := b.lt
      have fB := b.free k
      have HBK := Lib.hid b
      generalize (letK c n k).getD k 0 = z at hcx
      clear b hll
      go_wp2_with fail
      go_roundw
      case rel => exact ⟨k + 1, by omega, by go_num, by rw [← HS.out, ← bytesV_set]; exact HBK.out.set_ k _, hb.setCell (p := ⟨w.heap.size, k, none⟩) (Nat.le_refl _) _⟩
      case measure => simp [RowKit.intOf]; omega
    · obtain rfl : k = n := by omega
      have hcv := conv_bytes (some ⟨w.heap.size, 0, none⟩) k k (letK c k k) hll wr (reads_bytes b)
      clear b hll
      go_wp2_with fail
      go_ret
      exact ⟨by rw [HX.out]; rfl, hb⟩

end Go.Proofs.YtljmdcegcckblaaGreatDoor
/- The laws of layer 12: a device that was formatted and a transaction on it. -/
namespace Go.Proofs.YtljmdcegcckblaaGreatDoor
open Go.RowKit Go.Maps

def BegunPost (w : World) (s j i : Int) (e : Ending) (w' : World) : Prop :=
  ∃ D T F B y, e = .returned (.tuple #[.pointer (some ⟨D, 0, none⟩), .pointer (some ⟨T, 0, none⟩)]) ∧ Fresh y s j i 1000000 ∧ TD w' T F D (freeTx s j i) B y ∧ Below w.heap.size w w' ∧ (∀ b ∈ F, w.heap.size ≤ b) ∧ ∀ b ∈ B, w.heap.size ≤ b

set_option maxRecDepth 100000 in
set_option maxHeartbeats 2000000 in
theorem begun_fresh (ns : Nat) (j i : Int) (h : rgE ns j i = 0) (w : World) (hH : HalfAt w) :
    Calls Tryz.prog 9 #[.agg #[.int .i64 ns, .int .i64 j, .int .i64 i]] w (BegunPost w ns j i) := by
  obtain ⟨wA, hA⟩ : ∃ wA, wA = w.alloc (.cells #[.int .i64 ns, .int .i64 j, .int .i64 i] 32) := ⟨_, rfl⟩
  have bL : Blk wA w.heap.size 32 #[.int .i64 ns, .int .i64 j, .int .i64 i] := by rw [hA]; exact (by (repeat' (first | (with_reducible assumption) | exact Blk.new' (by simp) | refine Blk.alloc ?_ _)))
  have BA : Below w.heap.size w wA := by rw [hA]; (repeat' (first | (with_reducible exact Below.refl _ _) | (with_reducible assumption) | (with_reducible refine Below.alloc ?_ ?_ _) | (with_reducible refine Below.drew ?_) | (with_reducible refine below_drewN' ?_ _) | (with_reducible refine Below.setCell ?_ ?_ _) | (with_reducible exact Nat.le_refl _) | omega | (simp; done) | (simp; omega)))
  have hHA : HalfAt wA := hH.below BA hH.1
  have hbd := rg_bds h
  obtain ⟨y, hy, hF⟩ := format_fresh h 1000000 (by omega)
  rw [Int.toNat_natCast] at hy
  obtain ⟨hb1, hb2, hb3⟩ := begin_fresh h hF
  have hnew := new_dev ns (by omega) wA hHA
  have cL := bL.cells
  have lL := bL.lt
  have hp0 := hH.1
  have lA := bL.lt
  unfold BegunPost
  go_enter Tryz.func9, Tryz.ntmps9
  go_wp2_with fail
  rw [← hA]
  go_wp2_with fail
  refine hnew.mono ?_
  rintro e w1 ⟨D, B0, rfl, hd1, hw1, hB0⟩
  have B1 := BA.trans (hw1.mono BA.size)
  have bL1 := bL.belowAll hw1
  clear hnew cL lL bL hA hHA
  have cL := bL1.cells
  have lL := bL1.lt
  go_wp2_with fail
  refine (tformat_dev D ns j i B0 (newDev ns) w1 hd1).mono ?_
  rintro e w2 ⟨rfl, B, hd2, g2⟩
  rw [hy] at hd2 ⊢
  have hg0 : w.heap.size ∉ B0 := fun hm => by have := hB0 _ hm; omega
  have bL2 := g2.blk bL1 hg0
  have B2 : Below w.heap.size w w2 := B1.trans (g2.below B1.size fun b hb => by have := hB0 b hb; omega)
  have hBB : ∀ b ∈ B, w.heap.size ≤ b := fun b hb => by
    rcases g2.new b hb with h3 | h3
    · have := hB0 b h3; omega
    · have := B1.size; omega
  clear cL lL bL1 hd1 hw1 g2 hg0 hB0
  have cL := bL2.cells
  have lL := bL2.lt
  have Hb1 := Lib.hid hb1
  have Hb2 := Lib.hid hb2
  have HF := Lib.hid hF
  have Hh := Lib.hid h
  clear hy hb1 hb2 hF h
  go_wp2_with fail
  refine (begin_dev D ns j i B y w2 hd2 hb3).mono ?_
  rintro e w3 ⟨hb4, E, hE, ⟨h5, -⟩ | ⟨-, T, F, rfl, ht, hFF⟩⟩
  · exact absurd ((Hb1.out E).1 hE) h5
  rw [Hb2.out] at ht
  have B3 := B2.trans (hb4.mono B2.size)
  have hd3 := hd2.below hb4
  have hlt := hd2.lt
  clear cL lL bL2 hb4 hE
  go_wp2_with fail
  go_ret2
  exact ⟨D, T, F, B, y, rfl, HF.out, ⟨ht, hd3, fun b hb hm => by have := hFF b hb; have := (hlt b hm).2; omega⟩, B3, fun b hb => by have := hFF b hb; have := B2.size; omega, hBB⟩
end Go.Proofs.YtljmdcegcckblaaGreatDoor
