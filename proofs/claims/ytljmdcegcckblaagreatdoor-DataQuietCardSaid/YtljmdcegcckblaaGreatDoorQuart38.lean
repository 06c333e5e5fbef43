/- Layer 12 in plain words: what Store makes of the blocks and of what they hold. No program in sight. -/
import Derived.Test.YtljmdcegcckblaaGreatDoorQuart34
import Derived.Test.YtljmdcegcckblaaGreatDoorQuart37
namespace Go.Proofs.YtljmdcegcckblaaGreatDoor
open Go.RowKit Go.Maps

theorem change_full {y : TxS} {us : List Bool} {n : Nat} (h : y.changeE n = 0) (hn : n ≠ 0) : y.change us n = { y with now := us, changed := true } := by
  unfold TxS.changeE at h
  unfold TxS.change
  rw [if_neg hn] at h ⊢
  split
  · rename_i h2; rw [if_pos h2] at h; exact absurd (show (12 : Int) = 0 from h) (by decide)
  · rfl
theorem getD_lt {l : List Bool} {b : Nat} (h : b < l.length) : l.getD b false = l[b] := by
  rw [List.getD_eq_getElem?_getD, List.getElem?_eq_getElem h]; rfl
theorem setAll_getD (us : List Bool) (bl : List Int) (v : Bool) {b : Int} (h0 : 0 ≤ b) (hb : b < (us.length : Int)) (hin : ∀ x ∈ bl, 0 ≤ x) : (setAll us bl v).getD b.toNat false = if b ∈ bl then v else us.getD b.toNat false := by
  have hb' : b.toNat < us.length := by omega
  have h := setAll_val us bl v b.toNat hb' hin
  rw [Int.toNat_of_nonneg h0] at h
  rw [List.getD_eq_getElem?_getD, h, getD_lt hb']
  rfl
theorem LsE_nodup {n : Nat} {l : List Int} (h : LsE n l l.length = 0) : l.Nodup := by
  rw [List.nodup_iff_pairwise_ne, List.pairwise_iff_getElem]
  intro i k hi hk hik e
  have h3 := (LsE_in h hk).2.2
  rw [List.getD_eq_getElem?_getD, List.getElem?_eq_getElem hk] at h3
  apply h3
  show l[k] ∈ l.take k
  rw [← e, List.mem_take_iff_getElem]
  exact ⟨i, by omega, rfl⟩

/-- A list of blocks that are used, each once. -/
structure Lst (y : TxS) (l : List Int) : Prop where
  rng : ∀ b ∈ l, 0 ≤ b ∧ b < (y.now.length : Int)
  nd : l.Nodup
  used : ∀ b ∈ l, y.now.getD b.toNat false = true
theorem Lst.nil (y : TxS) : Lst y [] := ⟨fun _ h => (by cases h), List.nodup_nil, fun _ h => (by cases h)⟩

/-- What fit makes. -/
structure Fitted (y y1 : TxS) (l L : List Int) (n : Nat) : Prop where
  len : L.length = n
  same : y1.Same y
  st : y1.stateE = 0
  wr : y1.writes = y.writes
  nlen : y1.now.length = y.now.length
  lst : Lst y1 L
  out : ∀ b : Int, 0 ≤ b → b < (y.now.length : Int) → b ∉ l → b ∉ L → y1.now.getD b.toNat false = y.now.getD b.toNat false
  old : ∀ b ∈ L, b ∈ l ∨ y.now.getD b.toNat false = false

theorem fit_good {y : TxS} {l : List Int} {n : Nat} (ok : y.Ok) (hs : y.stateE = 0) (hl : Lst y l) (h : (y.fit l n).1 = 0) : Fitted y (y.fit l n).2.1 l (y.fit l n).2.2 n := by
  have hC := ok_ckE ok
  unfold TxS.fit at h ⊢
  by_cases h1 : n < l.length
  · rw [if_pos h1] at h ⊢
    simp only at h ⊢
    by_cases hT : TnE y.s y.j y.i y.now (l.drop n) false 4 = 0
    rotate_left
    · rw [free_a hs hT] at h; exact absurd h hT
    have e := free_b hs hT
    rw [e] at h ⊢
    have hch : y.changeE (l.drop n).length = 0 := h
    have hne : (l.drop n).length ≠ 0 := by rw [List.length_drop]; omega
    rw [hch, TxS.after_0, change_full hch hne]
    have hin : ∀ x ∈ l.drop n, 0 ≤ x := fun x hx => (hl.rng x (List.mem_of_mem_drop hx)).1
    have hsp : l = l.take n ++ l.drop n := (List.take_append_drop n l).symm
    have hnd := hl.nd
    rw [hsp] at hnd
    have hdis := (List.nodup_append.1 hnd).2.2
    refine ⟨by simp; omega, ⟨rfl, rfl, rfl⟩, by rw [← hs]; rfl, rfl, setAll_length _ _ _, ⟨fun b hb => ?_, (List.nodup_append.1 hnd).1, fun b hb => ?_⟩, fun b h0 h2 h3 h4 => ?_, fun b hb => .inl (List.mem_of_mem_take hb)⟩
    · have := hl.rng b (List.mem_of_mem_take hb)
      show 0 ≤ b ∧ b < ((setAll y.now (l.drop n) false).length : Int)
      rw [setAll_length]; exact this
    · have hr := hl.rng b (List.mem_of_mem_take hb)
      show (setAll y.now (l.drop n) false).getD b.toNat false = true
      rw [setAll_getD y.now _ false hr.1 hr.2 hin, if_neg (fun hm => hdis b hb b hm rfl)]
      exact hl.used b (List.mem_of_mem_take hb)
    · show (setAll y.now (l.drop n) false).getD b.toNat false = _
      rw [setAll_getD y.now _ false h0 h2 hin, if_neg (fun hm => h3 (List.mem_of_mem_drop hm))]
  · rw [if_neg h1] at h ⊢
    by_cases h2 : l.length < n
    · rw [if_pos h2] at h ⊢
      simp only at h ⊢
      generalize l.getD (l.length - 1) 0 = near at *
      have hm : (0 : Int) < (n : Int) - l.length := by omega
      generalize hmm : (n : Int) - l.length = many at *
      obtain ⟨g1, g2⟩ := take_good ok hs h
      have hml : y.may.length = y.now.length := orL_length (ok.now.trans ok.was.symm)
      have hCm : CkE y.s y.j y.i y.may.length = 0 := by rw [hml]; exact hC
      by_cases hA : AlE y.s y.j y.i y.may near many = 0
      rotate_left
      · rw [(take_a hs hA).1] at h; exact absurd h hA
      obtain ⟨e1, e2⟩ := take_b hs hA _ rfl
      rw [e1] at h ⊢
      have hch : y.changeE (allocd y.may near.toNat many.toNat).length = 0 := h
      rw [if_pos hch] at e2
      rw [e2] at g1 g2 ⊢
      have hnr := AlE_near hCm hA
      have hLs := allocd_LsE (us := y.may) (f := near.toNat) (mn := many.toNat) hnr
      generalize allocd y.may near.toNat many.toNat = Tk at *
      have hne : Tk.length ≠ 0 := by omega
      rw [hch, TxS.after_0, change_full hch hne]
      have hin : ∀ x ∈ Tk, 0 ≤ x := fun x hx => (g2 x hx).1
      have hfree : ∀ x ∈ Tk, y.now.getD x.toNat false = false := fun x hx => by
        obtain ⟨k1, k2, -, k4, -⟩ := g2 x hx
        have hx' : x.toNat < y.now.length := by omega
        rw [List.getD_eq_getElem?_getD, List.getElem?_eq_getElem hx'] at k4 ⊢
        exact k4
      have hdis : ∀ a ∈ l, ∀ b ∈ Tk, a ≠ b := fun a ha b hb e => by
        subst e
        have := hl.used a ha
        rw [hfree a hb] at this; cases this
      refine ⟨by rw [List.length_append]; omega, ⟨rfl, rfl, rfl⟩, by rw [← hs]; rfl, rfl, setAll_length _ _ _, ⟨fun b hb => ?_, List.nodup_append.2 ⟨hl.nd, LsE_nodup hLs, hdis⟩, fun b hb => ?_⟩, fun b h0 h3 h4 h5 => ?_, fun b hb => ?_⟩
      · show 0 ≤ b ∧ b < ((setAll y.now Tk true).length : Int)
        rw [setAll_length]
        rcases List.mem_append.1 hb with hb | hb
        · exact hl.rng b hb
        · exact ⟨(g2 b hb).1, (g2 b hb).2.1⟩
      · show (setAll y.now Tk true).getD b.toNat false = true
        rcases List.mem_append.1 hb with hb | hb
        · have hr := hl.rng b hb
          rw [setAll_getD y.now _ true hr.1 hr.2 hin]
          split
          · rfl
          · exact hl.used b hb
        · rw [setAll_getD y.now _ true (g2 b hb).1 (g2 b hb).2.1 hin, if_pos hb]
      · show (setAll y.now Tk true).getD b.toNat false = _
        rw [setAll_getD y.now _ true h0 h3 hin, if_neg (fun hm => h5 (List.mem_append_right _ hm))]
      · rcases List.mem_append.1 hb with hb | hb
        · exact .inl hb
        · exact .inr (hfree b hb)
    · rw [if_neg h2] at h ⊢
      exact ⟨by show l.length = n; omega, ⟨rfl, rfl, rfl⟩, hs, rfl, rfl, hl, fun _ _ _ _ _ => rfl, fun b hb => .inl hb⟩

/-! What a block holds. -/
def partW (wr : List Rec) (x : DevS) (kd a : Int) : ByteArray × Int :=
  match atRec wr a with
  | some r => if r.kind ≠ kd then (⟨#[]⟩, 6) else (r.data, 0)
  | none => if x.ge a = 0 ∧ (x.fr a).kind ≠ kd then (⟨#[]⟩, 6) else ((x.fr a).data, x.ge a)
theorem secV_val {s j i b : Int} (hr : rgE s j i = 0) (h0 : 0 ≤ b) (hb : b < rgB s j i) : SecV s j i b = 2 + j + i + b := by
  have hE : SecE s j i b = 0 := by unfold SecE; rw [if_pos hr, if_neg (by omega)]
  unfold SecV
  rw [if_pos hE, (rg_ok hr).2.2.2.1]
theorem part_W {y : TxS} {x : DevS} {kd b : Int} (hr : rgE y.s y.j y.i = 0) (hs : y.stateE = 0) (h0 : 0 ≤ b) (hb : b < rgB y.s y.j y.i) : y.part x kd b = partW y.writes x kd (2 + y.j + y.i + b) := by
  have hv := secV_val hr h0 hb
  have hB : rgB y.s y.j y.i = y.s - (2 + y.j + y.i) := (rg_ok hr).2.2.2.2
  have hbd := rg_bds hr
  have hrd : y.read x (2 + y.j + y.i + b) = y.readR x (2 + y.j + y.i + b) := by
    unfold TxS.read
    rw [if_neg (by simpa using hs), if_neg (by omega)]
  have hlk : y.look (2 + y.j + y.i + b) = atRec y.writes (2 + y.j + y.i + b) := by unfold TxS.look; rw [if_neg (by omega)]
  unfold TxS.part partW
  rw [hv, hrd]
  unfold TxS.readR
  rw [hlk]
  cases atRec y.writes (2 + y.j + y.i + b) with
  | some r =>
    simp only
    by_cases hk : r.kind ≠ kd
    · rw [if_pos ⟨trivial, hk⟩, if_pos hk]
    · rw [if_neg (fun h => hk h.2), if_neg hk]
  | none => rfl
theorem partW_ins (wr : List Rec) (x : DevS) (kd a : Int) (r : Rec) : partW (insRec wr r) x kd a = if r.at_ = a then (if r.kind ≠ kd then (⟨#[]⟩, 6) else (r.data, 0)) else partW wr x kd a := by
  unfold partW
  rw [insRec_at]
  by_cases h : r.at_ = a
  · rw [if_pos h, if_pos h]
  · rw [if_neg h, if_neg h]
theorem write_zero {y : TxS} {a k : Int} {d : ByteArray} (h : (y.write a k d).1 = 0) : (y.write a k d).2 = { y with writes := insRec y.writes ⟨a, k, d⟩ } := by
  unfold TxS.write at h ⊢
  by_cases h1 : y.stateE ≠ 0
  · rw [if_pos h1] at h; exact absurd h h1
  · rw [if_neg h1] at h ⊢
    by_cases h2 : y.writeE a k d.size ≠ 0
    · rw [if_pos h2] at h; exact absurd h h2
    · rw [if_neg h2]

/-- What the first k writes make. -/
structure PutsTo (y y2 : TxS) (x : DevS) (kd : Int) (L : List Int) (ps : List ByteArray) (k : Nat) : Prop where
  same : y2.Same y
  st : y2.stateE = 0
  now : y2.now = y.now
  hit : ∀ i, i < k → y2.part x kd (L.getD i 0) = (ps.getD i ⟨#[]⟩, 0)
  out : ∀ b kd' : Int, 0 ≤ b → b < rgB y.s y.j y.i → b ∉ L.take k → y2.part x kd' b = y.part x kd' b
theorem puts_good {y : TxS} {x : DevS} {kd : Int} {L : List Int} {ps : List ByteArray} (hr : rgE y.s y.j y.i = 0) (hs : y.stateE = 0) (hL : ∀ b ∈ L, 0 ≤ b ∧ b < rgB y.s y.j y.i) (hnd : L.Nodup) :
    ∀ k, k ≤ L.length → (y.puts x kd L ps k).1 = 0 → PutsTo y (y.puts x kd L ps k).2 x kd L ps k := by
  intro k
  induction k with
  | zero => exact fun _ _ => ⟨⟨rfl, rfl, rfl⟩, hs, rfl, fun i hi => by omega, fun _ _ _ _ _ => rfl⟩
  | succ k ih =>
    intro hk h
    have hkl : k < L.length := by omega
    have hgd : L.getD k 0 = L[k] := by rw [List.getD_eq_getElem?_getD, List.getElem?_eq_getElem hkl]; rfl
    have htk : L.take (k + 1) = L.take k ++ [L[k]] := List.take_succ_eq_append_getElem hkl
    have hbk := hL _ (List.getElem_mem hkl)
    have hne : ∀ i, i < k → L.getD i 0 ≠ L[k] := fun i hi e => by
      have hil : i < L.length := by omega
      rw [List.getD_eq_getElem?_getD, List.getElem?_eq_getElem hil] at e
      exact (List.pairwise_iff_getElem.1 (List.nodup_iff_pairwise_ne.1 hnd) i k hil hkl hi) e
    have e0 : y.puts x kd L ps (k + 1) = if (y.puts x kd L ps k).1 ≠ 0 then y.puts x kd L ps k
      else if ((y.puts x kd L ps k).2.part x kd (L.getD k 0)).2 = 0 ∧ ((y.puts x kd L ps k).2.part x kd (L.getD k 0)).1 = ps.getD k ⟨#[]⟩ then y.puts x kd L ps k
      else (y.puts x kd L ps k).2.write (SecV y.s y.j y.i (L.getD k 0)) kd (ps.getD k ⟨#[]⟩) := rfl
    rw [e0] at h ⊢
    by_cases h1 : (y.puts x kd L ps k).1 ≠ 0
    · rw [if_pos h1] at h; exact absurd h h1
    rw [if_neg h1] at h ⊢
    have ih := ih (by omega) (by simpa using h1)
    generalize y.puts x kd L ps k = pr at *
    obtain ⟨ek, y2⟩ := pr
    simp only at ih h1 h ⊢
    by_cases h2 : (y2.part x kd (L.getD k 0)).2 = 0 ∧ (y2.part x kd (L.getD k 0)).1 = ps.getD k ⟨#[]⟩
    · rw [if_pos h2]
      refine ⟨ih.same, ?_, ?_, fun i hi => ?_, fun b kd' h3 h4 h5 => ?_⟩
      · exact ih.st
      · exact ih.now
      · by_cases e : i = k
        · subst e; exact Prod.ext h2.2 h2.1
        · exact ih.hit i (by omega)
      · exact ih.out b kd' h3 h4 (fun hm => h5 (by rw [htk]; exact List.mem_append_left _ hm))
    · rw [if_neg h2] at h ⊢
      rw [write_zero h]
      obtain ⟨s1, s2, s3⟩ := ih.same
      have hr2 : rgE y2.s y2.j y2.i = 0 := by rw [s1, s2, s3]; exact hr
      have hB2 : rgB y2.s y2.j y2.i = rgB y.s y.j y.i := by rw [s1, s2, s3]
      have hpt : ∀ b kd' : Int, 0 ≤ b → b < rgB y.s y.j y.i → TxS.part { y2 with writes := insRec y2.writes ⟨SecV y.s y.j y.i (L.getD k 0), kd, ps.getD k ⟨#[]⟩⟩ } x kd' b = if L[k] = b then (if kd ≠ kd' then (⟨#[]⟩, 6) else (ps.getD k ⟨#[]⟩, 0)) else y2.part x kd' b := fun b kd' h3 h4 => by
        rw [part_W (y := { y2 with writes := insRec y2.writes ⟨SecV y.s y.j y.i (L.getD k 0), kd, ps.getD k ⟨#[]⟩⟩ }) hr2 ih.st h3 (by show b < rgB y2.s y2.j y2.i; omega)]
        show partW (insRec y2.writes _) x kd' (2 + y2.j + y2.i + b) = _
        rw [partW_ins, part_W hr2 ih.st h3 (by omega), hgd, secV_val hr hbk.1 hbk.2]
        by_cases e : L[k] = b
        · rw [if_pos e, if_pos (by show 2 + y.j + y.i + L[k] = 2 + y2.j + y2.i + b; omega)]
        · rw [if_neg e, if_neg (by show ¬ (2 + y.j + y.i + L[k] = 2 + y2.j + y2.i + b); omega)]
      refine ⟨⟨s1, s2, s3⟩, ?_, ih.now, fun i hi => ?_, fun b kd' h3 h4 h5 => ?_⟩
      · have := ih.st; exact this
      · by_cases e : i = k
        · subst e
          have h9 := hpt L[i] kd hbk.1 hbk.2
          rw [if_pos rfl, if_neg (by simp)] at h9
          rw [hgd] at h9 ⊢
          exact h9
        · have hil : i < L.length := by omega
          have hgi : L.getD i 0 = L[i] := by rw [List.getD_eq_getElem?_getD, List.getElem?_eq_getElem hil]; rfl
          have hbi := hL _ (List.getElem_mem hil)
          rw [hpt (L.getD i 0) kd (by rw [hgi]; exact hbi.1) (by rw [hgi]; exact hbi.2), if_neg (fun e2 => hne i (by omega) e2.symm)]
          exact ih.hit i (by omega)
      · rw [htk] at h5
        rw [hpt b kd' h3 h4, if_neg (fun e => h5 (List.mem_append_right _ (by rw [e]; simp)))]
        exact ih.out b kd' h3 h4 (fun hm => h5 (List.mem_append_left _ hm))

/-- What Store makes. -/
structure Stored (y y2 : TxS) (x : DevS) (kd : Int) (l L : List Int) (ps : List ByteArray) : Prop where
  len : L.length = ps.length
  same : y2.Same y
  st : y2.stateE = 0
  nlen : y2.now.length = y.now.length
  lst : Lst y2 L
  hit : ∀ i, i < ps.length → y2.part x kd (L.getD i 0) = (ps.getD i ⟨#[]⟩, 0)
  out : ∀ b : Int, 0 ≤ b → b < (y.now.length : Int) → b ∉ l → b ∉ L → y2.now.getD b.toNat false = y.now.getD b.toNat false ∧ ∀ kd', y2.part x kd' b = y.part x kd' b
  old : ∀ b ∈ L, b ∈ l ∨ y.now.getD b.toNat false = false
theorem store_good {y : TxS} {x : DevS} {kd : Int} {l : List Int} {ps : List ByteArray} (ok : y.Ok) (hs : y.stateE = 0) (hl : Lst y l) (h : (y.store x kd l ps).1 = 0) : Stored y (y.store x kd l ps).2.1 x kd l (y.store x kd l ps).2.2 ps := by
  have hrg := ok.rg
  have hnow : (y.now.length : Int) = rgB y.s y.j y.i := by have h1 := ok.now; have h2 := rgB_bds y.s y.j y.i; omega
  unfold TxS.store at h ⊢
  by_cases h1 : (y.fit l ps.length).1 ≠ 0
  · rw [if_pos h1] at h; exact absurd h h1
  rw [if_neg h1] at h ⊢
  have hf := fit_good ok hs hl (by simpa using h1)
  generalize (y.fit l ps.length).2.1 = y1 at *
  generalize (y.fit l ps.length).2.2 = L at *
  by_cases h2 : (y1.puts x kd L ps ps.length).1 ≠ 0
  · rw [if_pos h2] at h; exact absurd h h2
  rw [if_neg h2]
  obtain ⟨s1, s2, s3⟩ := hf.same
  have hr1 : rgE y1.s y1.j y1.i = 0 := by rw [s1, s2, s3]; exact hrg
  have hB1 : rgB y1.s y1.j y1.i = rgB y.s y.j y.i := by rw [s1, s2, s3]
  have hp := puts_good (y := y1) (x := x) (kd := kd) (ps := ps) hr1 hf.st (fun b hb => by have := hf.lst.rng b hb; have := hf.nlen; omega) hf.lst.nd ps.length (by rw [hf.len]; exact Nat.le_refl _) (by simpa using h2)
  generalize (y1.puts x kd L ps ps.length).2 = y2 at *
  have hpart : ∀ b kd' : Int, 0 ≤ b → b < (y.now.length : Int) → y1.part x kd' b = y.part x kd' b := fun b kd' h3 h4 => by
    rw [part_W hr1 hf.st h3 (by omega), part_W hrg hs h3 (by omega), hf.wr, s2, s3]
  exact ⟨hf.len, hp.same.trans hf.same, hp.st, by rw [hp.now]; exact hf.nlen, ⟨fun b hb => by rw [hp.now]; exact hf.lst.rng b hb, hf.lst.nd, fun b hb => by rw [hp.now]; exact hf.lst.used b hb⟩, hp.hit,
    fun b h3 h4 h5 h6 => ⟨by rw [hp.now]; exact hf.out b h3 h4 h5 h6, fun kd' => (hp.out b kd' h3 (by omega) (by rw [List.take_of_length_le (by rw [hf.len]; exact Nat.le_refl _)]; exact h6)).trans (hpart b kd' h3 h4)⟩, hf.old⟩
end Go.Proofs.YtljmdcegcckblaaGreatDoor
