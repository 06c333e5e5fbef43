/- Parts of the proof, put together by program: FD, NP, NO, NQ, NR. -/
import Derived.Test.YtljmdcegcckblaaGreatDoorQuart42
import Derived.Test.YtljmdcegcckblaaGreatDoorQuart01
import Derived.Test.YtljmdcegcckblaaGreatDoorProg
import Derived.ProofKit
import Derived.Deep.Slices
import Derived.Test.YtljmdcegcckblaaGreatDoorQuart08
/- P12.8, P12.9 in plain words: what is there is not written; what a Write within a string writes. No program in sight. -/
namespace Go.Proofs.YtljmdcegcckblaaGreatDoor
open Go.RowKit Go.Maps

theorem dwrite_is {y : TxS} {x : DevS} {kd : Int} {l : List Int} {t s : ByteArray} {off : Int} (hs : y.stateE = 0) (hl : Lst y l) (h : Holds y x kd l t) (hoff : 0 ≤ off ∧ off ≤ t.size) (hle : off + s.size ≤ 768) :
    (y.dwrite x kd l t.size off s).1 = (y.store x kd l (cutsL (dwText t s off t.size))).1 ∧ (y.dwrite x kd l t.size off s).2.1 = (y.store x kd l (cutsL (dwText t s off t.size))).2.1 ∧
    ((y.store x kd l (cutsL (dwText t s off t.size))).1 = 0 → (y.dwrite x kd l t.size off s).2.2.1 = (y.store x kd l (cutsL (dwText t s off t.size))).2.2 ∧ (y.dwrite x kd l t.size off s).2.2.2 = (dwText t s off t.size).size) := by
  have hsz := sized_holds hs hl h
  have htx : y.text x kd l t.size 0 t.size = (t, 0) := by
    have := text_holds h (a := 0) (b := t.size) (by omega) (Nat.le_refl _)
    rw [extract_all] at this
    exact this
  have hb : dwBad t.size off = false := by unfold dwBad; simp; omega
  have hL : dwLong off s.size = false := by
    unfold dwLong
    have hw : wrap64 (off + s.size) = off + s.size := by have := h.sz; unfold wrap64; omega
    rw [hw]; simp; omega
  unfold TxS.dwrite
  rw [hb, hL, if_neg (by simpa using hsz), htx]
  simp only
  rw [if_neg (by simp)]
  by_cases h2 : (y.store x kd l (cutsL (dwText t s off t.size))).1 ≠ 0
  · rw [if_pos h2]
    exact ⟨rfl, rfl, fun h => absurd h h2⟩
  · rw [if_neg h2]
    exact ⟨by simpa using (Classical.not_not.1 h2).symm, rfl, fun _ => ⟨rfl, rfl⟩⟩

/-- The errors of writes to valid blocks. -/
theorem puts_code {y : TxS} {x : DevS} {kd : Int} {L : List Int} {ps : List ByteArray} (hr : rgE y.s y.j y.i = 0) (hs : y.stateE = 0) (hk : 1 ≤ kd ∧ kd ≤ 255) (hL : ∀ b ∈ L, 0 ≤ b ∧ b < rgB y.s y.j y.i) (hnd : L.Nodup) (hp : ∀ p ∈ ps, p.size ≤ 96) :
    ∀ k, k ≤ L.length → (y.puts x kd L ps k).1 = 0 ∨ (y.puts x kd L ps k).1 = 12 := by
  have hg : ∀ k, (ps.getD k ⟨#[]⟩).size ≤ 96 := fun k => by
    rw [List.getD_eq_getElem?_getD]
    cases e : ps[k]? with
    | none => exact (by decide : (⟨#[]⟩ : ByteArray).size ≤ 96)
    | some p => exact hp p (List.mem_of_getElem? e)
  intro k
  induction k with
  | zero => exact fun _ => .inl rfl
  | succ k ih =>
    intro hkl
    have ih := ih (by omega)
    have hbk := hL _ (List.getElem_mem (show k < L.length by omega))
    have hgd : L.getD k 0 = L[k] := by rw [List.getD_eq_getElem?_getD, List.getElem?_eq_getElem (show k < L.length by omega)]; rfl
    have hbd := rg_bds hr
    have hB := (rg_ok hr).2.2.2.2
    unfold TxS.puts
    by_cases h1 : (y.puts x kd L ps k).1 ≠ 0
    · rw [if_pos h1]; exact ih
    · rw [if_neg h1]
      have hz : (y.puts x kd L ps k).1 = 0 := by simpa using h1
      have pg := puts_good (x := x) (kd := kd) (ps := ps) hr hs hL hnd k (by omega) hz
      split
      · exact .inl hz
      · rw [hgd, secV_val hr hbk.1 hbk.2]
        generalize (y.puts x kd L ps k).2 = z at *
        obtain ⟨s1, s2, s3⟩ := pg.same
        unfold TxS.write
        rw [if_neg (by simpa using pg.st)]
        have hwe : z.writeE (2 + y.j + y.i + L[k]) kd (ps.getD k ⟨#[]⟩).size = 0 ∨ z.writeE (2 + y.j + y.i + L[k]) kd (ps.getD k ⟨#[]⟩).size = 12 := by
          unfold TxS.writeE
          rw [if_neg (by rw [s2]; omega), if_neg (by rw [s1]; omega), if_neg (by have := hg k; omega)]
          split
          · exact .inr rfl
          · exact .inl rfl
        rcases hwe with h | h
        · rw [if_neg (by simpa using h)]; exact .inl rfl
        · rw [if_pos (by rw [h]; decide)]; exact .inr h
theorem take_code {y : TxS} (ok : y.Ok) (hs : y.stateE = 0) {a n : Int} (ha : 0 ≤ a ∧ a < y.now.length) (hn : 0 ≤ n) : (y.take a n).1 = 0 ∨ (y.take a n).1 = 11 ∨ (y.take a n).1 = 12 := by
  have hml : y.may.length = y.now.length := orL_length (ok.now.trans ok.was.symm)
  have hC : CkE y.s y.j y.i y.may.length = 0 := by rw [hml]; exact ok_ckE ok
  have hA : AlE y.s y.j y.i y.may a n = 0 ∨ AlE y.s y.j y.i y.may a n = 11 := by
    unfold AlE
    rw [if_pos hC, if_neg (by omega)]
    split
    · exact .inr rfl
    · exact .inl rfl
  have hE : y.takeE a n = 0 ∨ y.takeE a n = 11 ∨ y.takeE a n = 12 := by
    unfold TxS.takeE
    rcases hA with h | h
    · rw [if_neg (by simpa using h)]
      unfold TxS.changeE
      split
      · exact .inl rfl
      · split
        · exact .inr (.inr rfl)
        · exact .inl rfl
    · rw [if_pos (by rw [h]; decide)]; exact .inr (.inl h)
  unfold TxS.take
  rw [if_neg (by simpa using hs)]
  rcases hE with h | h
  · rw [if_neg (by simpa using h)]; exact .inl rfl
  · rw [if_pos (by omega)]; exact .inr h
theorem lst_rgB {y : TxS} (ok : y.Ok) {l : List Int} (hl : Lst y l) : ∀ b ∈ l, 0 ≤ b ∧ b < rgB y.s y.j y.i := fun b hb => by
  have h1 := hl.rng b hb
  have h2 := ok.now
  have h3 := rgB_bds y.s y.j y.i
  omega
/-- Store of as many parts as there are blocks, or of more. -/
theorem store_code {y : TxS} (ok : y.Ok) (hs : y.stateE = 0) {x : DevS} {kd : Int} (hk : 1 ≤ kd ∧ kd ≤ 255) {l : List Int} (hl : Lst y l) {ps : List ByteArray} (hle : l.length ≤ ps.length) (hp : ∀ p ∈ ps, p.size ≤ 96) :
    ((y.store x kd l ps).1 = 0 ∨ (y.store x kd l ps).1 = 11 ∨ (y.store x kd l ps).1 = 12) ∧ (l.length = ps.length → (y.store x kd l ps).1 = 0 ∨ (y.store x kd l ps).1 = 12) := by
  have hfc : ((y.fit l ps.length).1 = 0 ∨ (y.fit l ps.length).1 = 11 ∨ (y.fit l ps.length).1 = 12) ∧ (l.length = ps.length → (y.fit l ps.length).1 = 0) := by
    unfold TxS.fit
    rw [if_neg (by omega)]
    split
    · refine ⟨take_code ok hs ?_ (by omega), fun h => by omega⟩
      have hb := ok.bds
      rw [List.getD_eq_getElem?_getD]
      cases e : l[l.length - 1]? with
      | none => show (0 : Int) ≤ 0 ∧ (0 : Int) < _; omega
      | some b => exact hl.rng b (List.mem_of_getElem? e)
    · exact ⟨.inl rfl, fun _ => rfl⟩
  unfold TxS.store
  by_cases h1 : (y.fit l ps.length).1 ≠ 0
  · rw [if_pos h1]
    exact ⟨hfc.1, fun h => absurd (hfc.2 h) h1⟩
  · rw [if_neg h1]
    have fg := fit_good ok hs hl (n := ps.length) (by simpa using h1)
    obtain ⟨s1, s2, s3⟩ := fg.same
    have hr1 : rgE (y.fit l ps.length).2.1.s (y.fit l ps.length).2.1.j (y.fit l ps.length).2.1.i = 0 := by rw [s1, s2, s3]; exact ok.rg
    have hB1 : rgB (y.fit l ps.length).2.1.s (y.fit l ps.length).2.1.j (y.fit l ps.length).2.1.i = rgB y.s y.j y.i := by rw [s1, s2, s3]
    have pc := puts_code (y := (y.fit l ps.length).2.1) (x := x) (kd := kd) (L := (y.fit l ps.length).2.2) (ps := ps) hr1 fg.st hk (fun b hb => by
      have h2 := fg.lst.rng b hb
      have h3 := fg.nlen
      have h4 := ok.now
      have h5 := rgB_bds y.s y.j y.i
      rw [hB1]; omega) fg.lst.nd hp ps.length (by rw [fg.len]; exact Nat.le_refl _)
    split
    · exact ⟨pc.imp id .inr, fun _ => pc⟩
    · exact ⟨.inl rfl, fun _ => .inl rfl⟩

/-- What is there is not written. -/
theorem store_same {y : TxS} {x : DevS} {kd : Int} {l : List Int} {t : ByteArray} (h : Holds y x kd l t) : y.store x kd l (cutsL t) = (0, y, l) := by
  have hlen : l.length = (cutsL t).length := by rw [cutsL_length]; exact h.len
  have hf : y.fit l (cutsL t).length = (0, y, l) := by
    unfold TxS.fit; rw [if_neg (by omega), if_neg (by omega)]
  have hp : ∀ k, k ≤ nCuts t.size → y.puts x kd l (cutsL t) k = (0, y) := by
    intro k
    induction k with
    | zero => exact fun _ => rfl
    | succ k ih =>
      intro hk
      unfold TxS.puts
      rw [ih (by omega)]
      simp only
      rw [if_neg (by simp), h.part k (by omega), cutsL_getD t (by omega), if_pos ⟨rfl, rfl⟩]
  unfold TxS.store
  rw [hf]
  simp only
  rw [if_neg (by simp), cutsL_length, hp _ (Nat.le_refl _)]
  simp
theorem dstore_same {y : TxS} {x : DevS} {kd : Int} {l : List Int} {t : ByteArray} (hs : y.stateE = 0) (hl : Lst y l) (h : Holds y x kd l t) : y.dstore x kd l (cutsL t) = (0, y, l) := by
  have h8 := nCuts_le h.sz
  unfold TxS.dstore
  rw [if_neg (by simpa using open_holds hs hl (by rw [h.len]; exact h8)), if_neg ?_, store_same h]
  rintro (h1 | h1)
  · rw [cutsL_length] at h1; omega
  · obtain ⟨p, hp, hc⟩ := List.any_eq_true.1 h1
    have := cutsL_small t p hp
    simp at hc
    omega
theorem dload_same {y : TxS} {x : DevS} {kd : Int} {l : List Int} {t : ByteArray} (hs : y.stateE = 0) (hl : Lst y l) (h : Holds y x kd l t) : y.dload x kd l = (cutsL t, 0) := by
  have h8 := nCuts_le h.sz
  unfold TxS.dload
  rw [if_neg (by simpa using open_holds hs hl (by rw [h.len]; exact h8)), h.len]
  have hk : ∀ k, k ≤ nCuts t.size → loadK y x kd l k = ((List.range k).map (cutAt t), 0) := by
    intro k
    induction k with
    | zero => exact fun _ => rfl
    | succ k ih =>
      intro hk
      unfold loadK
      rw [ih (by omega)]
      simp only
      rw [if_neg (by simp), h.part k (by omega)]
      simp only
      rw [if_neg (by simp), List.range_succ, List.map_append]
      rfl
  rw [hk _ (Nat.le_refl _)]
  rfl
theorem dw_first (s : ByteArray) : dwText ⟨#[]⟩ s 0 0 = s := by
  unfold dwText
  apply ba_ext
  apply Array.ext_getElem?
  intro i
  simp [ByteArray.data_append, ByteArray.data_extract]
theorem dw_back (s : ByteArray) {a b : Nat} (hab : a ≤ b) (hb : b ≤ s.size) : dwText s (s.extract a b) a s.size = s := by
  unfold dwText
  have e1 : (s.extract a b).size = b - a := by rw [ByteArray.size_extract]; omega
  have e2 : (min ((a : Int) + (s.extract a b).size) s.size).toNat = b := by rw [e1]; omega
  rw [e2]
  apply ba_ext
  apply Array.ext_getElem?
  intro i
  have e : s.data.size = s.size := rfl
  simp only [ByteArray.data_append, ByteArray.data_extract, Array.getElem?_append, Array.getElem?_extract, Array.size_append, Array.size_extract, e, Int.toNat_natCast]
  repeat' split
  all_goals first
    | rfl
    | (exfalso; omega)
    | (congr 1; omega)
    | (rw [Array.getElem?_eq_none (by rw [e]; omega)])
    | (symm; rw [Array.getElem?_eq_none (by rw [e]; omega)])
/-- A block that has none of the bytes. -/
theorem dw_far (s p : ByteArray) {off k : Nat} (ho : off + p.size ≤ s.size) (h : p.size = 0 ∨ off + p.size ≤ k * 96 ∨ (k + 1) * 96 ≤ off) : cutAt (dwText s p off s.size) k = cutAt s k := by
  unfold cutAt dwText
  have e2 : (min ((off : Int) + p.size) s.size).toNat = off + p.size := by omega
  rw [e2]
  apply ba_ext
  apply Array.ext_getElem?
  intro i
  have e : s.data.size = s.size := rfl
  have ep : p.data.size = p.size := rfl
  simp only [ByteArray.data_append, ByteArray.data_extract, Array.getElem?_append, Array.getElem?_extract, Array.size_append, Array.size_extract, e, ep, Int.toNat_natCast]
  repeat' split
  all_goals first
    | rfl
    | (exfalso; omega)
    | (congr 1; omega)
theorem dw_size (s p : ByteArray) {off : Nat} (ho : off + p.size ≤ s.size) : (dwText s p off s.size).size = s.size := by
  unfold dwText
  rw [ByteArray.size_append, ByteArray.size_append, ByteArray.size_extract, ByteArray.size_extract]
  omega

theorem insRec_len (l : List Rec) (r : Rec) : (insRec l r).length ≤ l.length + 1 := by
  induction l with
  | nil => exact Nat.le_refl _
  | cons x t ih =>
    unfold insRec
    split
    · simp
    · split
      · simp
      · simp; omega
/-- What a Write over a string of the same length writes. -/
structure Wrote (y z : TxS) (l : List Int) (s t : ByteArray) (k : Nat) : Prop where
  ch : z.changed = y.changed
  len : z.writes.length ≤ k
  non : ∀ i, i < l.length → (k ≤ i ∨ cutAt t i = cutAt s i) → atRec z.writes (2 + y.j + y.i + l.getD i 0) = none
theorem puts_wrote {y : TxS} {x : DevS} {kd : Int} {l : List Int} {s t : ByteArray} (hr : rgE y.s y.j y.i = 0) (hs : y.stateE = 0) (hL : ∀ b ∈ l, 0 ≤ b ∧ b < rgB y.s y.j y.i) (hnd : l.Nodup) (hw : y.writes = []) (h : Holds y x kd l s) (hst : t.size = s.size) :
    ∀ k, k ≤ l.length → (y.puts x kd l (cutsL t) k).1 = 0 → Wrote y (y.puts x kd l (cutsL t) k).2 l s t k := by
  intro k
  induction k with
  | zero => exact fun _ _ => ⟨rfl, by show y.writes.length ≤ 0; rw [hw]; simp, fun i _ _ => by show atRec y.writes _ = none; rw [hw]; rfl⟩
  | succ k ih =>
    intro hk h0
    have hkl : k < l.length := by omega
    have hkn : k < nCuts s.size := by rw [← h.len]; exact hkl
    have hgd : l.getD k 0 = l[k] := by rw [List.getD_eq_getElem?_getD, List.getElem?_eq_getElem hkl]; rfl
    have hbk := hL _ (List.getElem_mem hkl)
    have hne : ∀ i, i < l.length → i ≠ k → l.getD i 0 ≠ l[k] := fun i hi hik e => by
      rw [List.getD_eq_getElem?_getD, List.getElem?_eq_getElem hi] at e
      have hp := List.pairwise_iff_getElem.1 (List.nodup_iff_pairwise_ne.1 hnd)
      rcases Nat.lt_or_ge i k with h1 | h1
      · exact hp i k hi hkl h1 e
      · exact hp k i hkl hi (by omega) e.symm
    have e0 : y.puts x kd l (cutsL t) (k + 1) = if (y.puts x kd l (cutsL t) k).1 ≠ 0 then y.puts x kd l (cutsL t) k
      else if ((y.puts x kd l (cutsL t) k).2.part x kd (l.getD k 0)).2 = 0 ∧ ((y.puts x kd l (cutsL t) k).2.part x kd (l.getD k 0)).1 = (cutsL t).getD k ⟨#[]⟩ then y.puts x kd l (cutsL t) k
      else (y.puts x kd l (cutsL t) k).2.write (SecV y.s y.j y.i (l.getD k 0)) kd ((cutsL t).getD k ⟨#[]⟩) := rfl
    rw [e0] at h0 ⊢
    by_cases h1 : (y.puts x kd l (cutsL t) k).1 ≠ 0
    · rw [if_pos h1] at h0; exact absurd h0 h1
    rw [if_neg h1] at h0 ⊢
    have hz : (y.puts x kd l (cutsL t) k).1 = 0 := by simpa using h1
    have ih := ih (by omega) hz
    have pg := puts_good (x := x) (kd := kd) (ps := cutsL t) hr hs hL hnd k (by omega) hz
    have hpt : (y.puts x kd l (cutsL t) k).2.part x kd (l.getD k 0) = (cutAt s k, 0) := by
      rw [hgd, pg.out l[k] kd hbk.1 hbk.2 (fun hm => by
        obtain ⟨i, hi, e⟩ := List.mem_take_iff_getElem.1 hm
        exact hne i (by omega) (by omega) (by rw [List.getD_eq_getElem?_getD, List.getElem?_eq_getElem (by omega)]; exact e)), ← hgd, h.part k hkn]
    rw [hpt, cutsL_getD t (by rw [hst]; exact hkn)] at h0 ⊢
    simp only at h0 ⊢
    by_cases h2 : cutAt s k = cutAt t k
    · rw [if_pos ⟨trivial, h2⟩]
      exact ⟨ih.ch, by have := ih.len; omega, fun i hi hc => ih.non i hi (hc.imp (fun h => by omega) id)⟩
    · rw [if_neg (fun h => h2 h.2)] at h0 ⊢
      rw [write_zero h0]
      refine ⟨ih.ch, ?_, fun i hi hc => ?_⟩
      · have := ih.len
        have := insRec_len (y.puts x kd l (cutsL t) k).2.writes ⟨SecV y.s y.j y.i (l.getD k 0), kd, cutAt t k⟩
        show (insRec _ _).length ≤ _
        omega
      · show atRec (insRec _ _) _ = none
        have hik : i ≠ k := fun e => by
          subst e
          rcases hc with hc | hc
          · omega
          · exact h2 hc.symm
        rw [insRec_at, hgd, secV_val hr hbk.1 hbk.2, if_neg (fun e => hne i hi hik (by have e' : 2 + y.j + y.i + l[k] = 2 + y.j + y.i + l.getD i 0 := e; omega))]
        exact ih.non i hi (hc.imp (fun h => by omega) id)
theorem store_eq {y : TxS} {x : DevS} {kd : Int} {l : List Int} {ps : List ByteArray} (hlen : l.length = ps.length) (h : (y.store x kd l ps).1 = 0) : (y.store x kd l ps).2.2 = l ∧ (y.store x kd l ps).2.1 = (y.puts x kd l ps ps.length).2 ∧ (y.puts x kd l ps ps.length).1 = 0 := by
  have hf : y.fit l ps.length = (0, y, l) := by
    unfold TxS.fit; rw [if_neg (by omega), if_neg (by omega)]
  unfold TxS.store at h ⊢
  rw [hf] at h ⊢
  simp only at h ⊢
  rw [if_neg (by simp)] at h ⊢
  by_cases h1 : (y.puts x kd l ps ps.length).1 ≠ 0
  · rw [if_pos h1] at h; exact absurd h h1
  · rw [if_neg h1]
    exact ⟨rfl, rfl, by simpa using h1⟩
/-- All that DataQuiet asks of a Write within the string. -/
theorem quiet_law {y : TxS} {x : DevS} {l : List Int} {s p : ByteArray} {off : Nat} (ok : y.Ok) (hs : y.stateE = 0) (hl : Lst y l) (h : Holds y x 8 l s) (hw : y.writes = []) (hch : y.changed = false) (ho : off + p.size ≤ s.size) :
    ((y.dwrite x 8 l s.size off p).1 = 0 ∨ (y.dwrite x 8 l s.size off p).1 = 12) ∧ ((y.dwrite x 8 l s.size off p).1 = 0 → (y.dwrite x 8 l s.size off p).2.2.1 = l ∧ (y.dwrite x 8 l s.size off p).2.2.2 = s.size ∧ (y.dwrite x 8 l s.size off p).2.1.stateE = 0 ∧ (y.dwrite x 8 l s.size off p).2.1.recs.length ≤ l.length ∧
      ∀ k, k < l.length → (p.size = 0 ∨ off + p.size ≤ k * 96 ∨ (k + 1) * 96 ≤ off) → atRec (y.dwrite x 8 l s.size off p).2.1.recs (2 + y.j + y.i + l.getD k 0) = none) := by
  have hz := h.sz
  have hT := dw_size s p ho
  have hlen : l.length = (cutsL (dwText s p off s.size)).length := by rw [cutsL_length, hT]; exact h.len
  obtain ⟨i1, i2, i3⟩ := dwrite_is (s := p) (off := off) hs hl h ⟨by omega, by omega⟩ (by omega)
  have hc := (store_code ok hs (x := x) (kd := 8) (by omega) hl (by rw [hlen]; exact Nat.le_refl _) (cutsL_small (dwText s p off s.size))).2 hlen
  rw [i1, i2]
  refine ⟨hc, fun h0 => ?_⟩
  obtain ⟨j1, j2⟩ := i3 h0
  obtain ⟨e1, e2, e3⟩ := store_eq hlen h0
  have hst := store_good ok hs hl h0
  have hwr := puts_wrote (x := x) (kd := 8) ok.rg hs (lst_rgB ok hl) hl.nd hw h hT (cutsL (dwText s p off s.size)).length (by rw [hlen]; exact Nat.le_refl _) e3
  rw [j1, j2, hT]
  rw [← e2] at hwr
  have hrecs : (y.store x 8 l (cutsL (dwText s p off s.size))).2.1.recs = (y.store x 8 l (cutsL (dwText s p off s.size))).2.1.writes := by
    unfold TxS.recs
    rw [if_neg (by rw [hwr.ch, hch]; simp)]
  refine ⟨e1, rfl, hst.st, by rw [hrecs, hlen]; exact hwr.len, fun k hk hf => ?_⟩
  rw [hrecs]
  exact hwr.non k hk (.inr (dw_far s p ho hf))
end Go.Proofs.YtljmdcegcckblaaGreatDoor
/- Arguments opened: a slice of one-cell elements as a list. -/
namespace Go.Proofs.YtljmdcegcckblaaGreatDoor
open Go.ChangeShapes Go.WideShapes Go.ChangeAt Go.RowKit Go.Deep

theorem list_of {α : Type} (q : Nat → α → Prop) (n : Nat) (h : ∀ i, i < n → ∃ a, q i a) : ∃ xs : List α, xs.length = n ∧ ∀ i (hi : i < xs.length), q i xs[i] := by
  induction n with
  | zero => exact ⟨[], rfl, fun i hi => by simp at hi⟩
  | succ n ih =>
    obtain ⟨xs, hl, hx⟩ := ih (fun i hi => h i (by omega))
    obtain ⟨a, ha⟩ := h n (by omega)
    refine ⟨xs ++ [a], by simp [hl], fun i hi => ?_⟩
    by_cases hin : i < xs.length
    · rw [List.getElem_append_left hin]; exact hx i hin
    · have : i = n := by simp at hi; omega
      subst this
      rw [List.getElem_append_right (by omega)]
      simpa [hl] using ha

/-- A slice of one-cell elements that came in. -/
theorem open_cells {H : Type} {enc : TypeId × Value → H} {P : Program} {W : World} {α : Type} (mk : α → Value) {t e : TypeId} {fuel : Nat} {v : Value} {x : DataW H × List MemPlace} (ht : P.underlying t = some (.slice e)) (hC : P.cellsOf e = 1)
    (hel : ∀ n cs x, DataW.trod enc P W 0 (fun _ => true) true n e cs = some x → ∃ a, cs = [mk a])
    (h : DataW.trod enc P W 0 (fun _ => true) true fuel t [v] = some x) :
    ∃ (A : Option Addr) (n c : Nat) (xs : List α), v = .slice A n c ∧ xs.length = n ∧ Reads W A (xs.map mk) ∧ n ≤ c ∧ c ≤ maxLen ∧ (A = none → n = 0 ∧ c = 0) := by
  rcases open_slice ht h with ⟨h0, _⟩ | ⟨a, len, cap, m, n, D, Pl, hcs, hb, hl, hm, hmm, hx, hi⟩
  · simp only [List.cons.injEq, and_true] at h0
    subst h0
    exact ⟨none, 0, 0, [], rfl, rfl, Reads.nil, Nat.le_refl _, Nat.zero_le _, fun _ => ⟨rfl, rfl⟩⟩
  · simp only [List.cons.injEq, and_true] at hcs
    subst hcs
    simp only [if_true] at hmm
    have hat : ∀ i, i < len → ∃ u : α, W.cell? (a.add i) = some (mk u) := by
      intro i hi'
      obtain ⟨cs', hc, ht'⟩ := hi i (by omega)
      rw [hC, Nat.mul_one] at hc
      obtain ⟨u, rfl⟩ := hel n cs' _ ht'
      obtain ⟨_, _, hat⟩ := World.cells?_some hc
      have := hat 0 (by omega)
      refine ⟨u, ?_⟩
      simpa [Addr.add] using this
    obtain ⟨xs, hxl, hxs⟩ := list_of (fun i u => W.cell? (a.add i) = some (mk u)) len hat
    refine ⟨some a, len, cap, xs, rfl, hxl, ?_, hl, hm, fun h => by cases h⟩
    rcases Nat.eq_zero_or_pos len with h0 | h0
    · left
      have : xs = [] := List.eq_nil_of_length_eq_zero (by omega)
      simp [this]
    · right
      obtain ⟨b, off, spot⟩ := a
      have h1 := hxs 0 (by omega)
      have hspot : spot = none := by simpa [Addr.add] using World.cell?_spot h1
      subst hspot
      refine ⟨b, off, rfl, ?_, fun j u hu => ?_⟩
      · have := World.block_lt_of_cell? W _ h1
        simpa [Addr.add] using this
      · rw [List.getElem?_map] at hu
        by_cases hj : j < xs.length
        · rw [List.getElem?_eq_getElem hj, Option.map_some, Option.some.injEq] at hu
          subst hu
          have := hxs j hj
          unfold Addr.add at this
          split at this
          · rename_i hj0; subst hj0; simpa using this
          · exact this
        · rw [List.getElem?_eq_none (by omega)] at hu; simp at hu

end Go.Proofs.YtljmdcegcckblaaGreatDoor
/- Arguments opened: an act. -/
namespace Go.Proofs.YtljmdcegcckblaaGreatDoor
open Go.ChangeShapes Go.WideShapes Go.ChangeAt Go.RowKit Go.Deep

theorem Tryz.cellsInt : Tryz.prog.cellsOf 3 = 1 := by kernel_rfl
theorem Tryz.cellsU8 : Tryz.prog.cellsOf 5 = 1 := by kernel_rfl
theorem Tryz.cellsStr : Tryz.prog.cellsOf 9 = 1 := by kernel_rfl
theorem Tryz.cellsInts : Tryz.prog.cellsOf 34 = 1 := by kernel_rfl
theorem Tryz.cellsAct : Tryz.prog.cellsOf 41 = 8 := by kernel_rfl

section
variable {H : Type} {enc : TypeId × Value → H} {W : World}

set_option maxRecDepth 100000 in
theorem open_ints' {fuel : Nat} {v : Value} {x : DataW H × List MemPlace} (h : DataW.trod enc Tryz.prog W 0 (fun _ => true) true fuel 34 [v] = some x) :
    ∃ (A : Option Addr) (n c : Nat) (xs : List Int), v = .slice A n c ∧ xs.length = n ∧ Reads W A (xs.map (Value.int .i64)) ∧ n ≤ c ∧ c ≤ maxLen ∧ (A = none → n = 0 ∧ c = 0) :=
  open_cells (Value.int .i64) Tryz.underlying34 Tryz.cellsInt (fun n cs x hx => by obtain ⟨b, rfl, _⟩ := DataW.trod_int Tryz.underlying3 hx; exact ⟨b, rfl⟩) h

set_option maxRecDepth 100000 in
/-- An act as its cells. -/
theorem open_act_cells {fuel : Nat} {cs : List Value} (hsz : cs.length = 8) {x : DataW H × List MemPlace} (h : DataW.trod enc Tryz.prog W 0 (fun _ => true) true fuel 41 cs = some x) :
    ∃ (wh f kd off n size : Int) (A : Option Addr) (m c : Nat) (l : List Int) (s : ByteArray), cs = [.int .u8 wh, .int .u8 f, .int .i64 kd, .int .i64 off, .int .i64 n, .int .i64 size, .slice A m c, .string s] ∧
      (Lit.int .u8 wh).wf = true ∧ (Lit.int .u8 f).wf = true ∧ (Lit.int .i64 kd).wf = true ∧ (Lit.int .i64 off).wf = true ∧ (Lit.int .i64 n).wf = true ∧ (Lit.int .i64 size).wf = true ∧ l.length = m ∧ Reads W A (l.map (Value.int .i64)) ∧ m ≤ c ∧ c ≤ maxLen ∧ (A = none → m = 0 ∧ c = 0) ∧ s.size ≤ maxLen := by
  match cs, hsz with
  | [c0, c1, c2, c3, c4, c5, c6, c7], _ =>
    obtain ⟨xs, n, _, _, _, hlen, hg⟩ := DataW.trod_struct Tryz.underlying41 h
    have g0 : DataW.trod enc Tryz.prog W 0 (fun _ => true) true n 5 [c0] = xs[0]? := by have := hg 0 _ rfl; simpa [Tryz.cellsU8, Value.cells] using this
    have g1 : DataW.trod enc Tryz.prog W 0 (fun _ => true) true n 5 [c1] = xs[1]? := by have := hg 1 _ rfl; simpa [Tryz.cellsU8, Value.cells] using this
    have g2 : DataW.trod enc Tryz.prog W 0 (fun _ => true) true n 3 [c2] = xs[2]? := by have := hg 2 _ rfl; simpa [Tryz.cellsInt, Value.cells] using this
    have g3 : DataW.trod enc Tryz.prog W 0 (fun _ => true) true n 3 [c3] = xs[3]? := by have := hg 3 _ rfl; simpa [Tryz.cellsInt, Value.cells] using this
    have g4 : DataW.trod enc Tryz.prog W 0 (fun _ => true) true n 3 [c4] = xs[4]? := by have := hg 4 _ rfl; simpa [Tryz.cellsInt, Value.cells] using this
    have g5 : DataW.trod enc Tryz.prog W 0 (fun _ => true) true n 3 [c5] = xs[5]? := by have := hg 5 _ rfl; simpa [Tryz.cellsInt, Value.cells] using this
    have g6 : DataW.trod enc Tryz.prog W 0 (fun _ => true) true n 34 [c6] = xs[6]? := by have := hg 6 _ rfl; simpa [Tryz.cellsInts, Value.cells] using this
    have g7 : DataW.trod enc Tryz.prog W 0 (fun _ => true) true n 9 [c7] = xs[7]? := by have := hg 7 _ rfl; simpa [Tryz.cellsStr, Value.cells] using this
    clear hg
    match xs, hlen with
    | [y0, y1, y2, y3, y4, y5, y6, y7], _ =>
      simp only [List.getElem?_cons_zero, List.getElem?_cons_succ] at g0 g1 g2 g3 g4 g5 g6 g7
      obtain ⟨a0, e0, _, w0⟩ := DataW.trod_int Tryz.underlying5 g0
      obtain ⟨a1, e1, _, w1⟩ := DataW.trod_int Tryz.underlying5 g1
      obtain ⟨a2, e2, _, w2⟩ := DataW.trod_int Tryz.underlying3 g2
      obtain ⟨a3, e3, _, w3⟩ := DataW.trod_int Tryz.underlying3 g3
      obtain ⟨a4, e4, _, w4⟩ := DataW.trod_int Tryz.underlying3 g4
      obtain ⟨a5, e5, _, w5⟩ := DataW.trod_int Tryz.underlying3 g5
      obtain ⟨s, e7, _, w7⟩ := DataW.trod_string Tryz.underlying9 g7
      simp at e0 e1 e2 e3 e4 e5 e7
      subst e0 e1 e2 e3 e4 e5 e7
      obtain ⟨A, m, c, l, rfl, q1, q2, q3, q4, q5⟩ := open_ints' g6
      exact ⟨a0, a1, a2, a3, a4, a5, A, m, c, l, s, rfl, w0, w1, w2, w3, w4, w5, q1, q2, q3, q4, q5, w7⟩

end
theorem wf_u8_iff {f : Int} (h : (Lit.int .u8 f).wf = true) : 0 ≤ f ∧ f ≤ 255 := by
  simp [Lit.wf, IntKind.min, IntKind.max, IntKind.bits, IntKind.signed] at h; omega
theorem wf_i64_iff {f : Int} (h : (Lit.int .i64 f).wf = true) : -9223372036854775808 ≤ f ∧ f ≤ 9223372036854775807 := by
  simp [Lit.wf, IntKind.min, IntKind.max, IntKind.bits, IntKind.signed] at h; omega

end Go.Proofs.YtljmdcegcckblaaGreatDoor
/- Arguments opened: a slice of structs as a list. -/
namespace Go.Proofs.YtljmdcegcckblaaGreatDoor
open Go.ChangeShapes Go.WideShapes Go.ChangeAt Go.RowKit Go.Deep

end Go.Proofs.YtljmdcegcckblaaGreatDoor
/- Arguments opened: acts. -/
namespace Go.Proofs.YtljmdcegcckblaaGreatDoor
open Go.ChangeShapes Go.WideShapes Go.ChangeAt Go.RowKit Go.Deep

/-- An act as it lies in memory. -/
structure ActV where
  wh : Int
  f : Int
  kd : Int
  off : Int
  n : Int
  size : Int
  A : Option Addr
  m : Nat
  c : Nat
  s : ByteArray
def actL (a : ActV) : List Value := [.int .u8 a.wh, .int .u8 a.f, .int .i64 a.kd, .int .i64 a.off, .int .i64 a.n, .int .i64 a.size, .slice a.A a.m a.c, .string a.s]
/-- What is known of one that came in. -/
structure ActOk (W : World) (a : ActV) : Prop where
  wh : 0 ≤ a.wh ∧ a.wh ≤ 255
  f : 0 ≤ a.f ∧ a.f ≤ 255
  kd : -9223372036854775808 ≤ a.kd ∧ a.kd ≤ 9223372036854775807
  off : -9223372036854775808 ≤ a.off ∧ a.off ≤ 9223372036854775807
  n : -9223372036854775808 ≤ a.n ∧ a.n ≤ 9223372036854775807
  size : -9223372036854775808 ≤ a.size ∧ a.size ≤ 9223372036854775807
  list : ∃ l : List Int, l.length = a.m ∧ Reads W a.A (l.map (.int .i64)) ∧ a.m ≤ a.c ∧ (a.A = none → a.m = 0 ∧ a.c = 0)
  str : a.s.size ≤ maxLen

end Go.Proofs.YtljmdcegcckblaaGreatDoor
