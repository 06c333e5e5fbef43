/- Parts of the proof, put together by program: Z7, Z8, IA, IB. -/
import Derived.Test.YtljmdcegcckblaaGreatDoorQuart33
import Derived.Test.YtljmdcegcckblaaGreatDoorQuart30
import Derived.Test.YtljmdcegcckblaaGreatDoorQuart32
import Derived.Test.YtljmdcegcckblaaGreatDoorQuart14
import Derived.Test.YtljmdcegcckblaaGreatDoorQuart18
import Derived.Lib.SlKeysI
import Derived.RangeFuncWrites
import Derived.Sort.MapsRangeIn
import Derived.Shelf.SlIterI.Stops
/- Layer 12: text. -/
namespace Go.Proofs.YtljmdcegcckblaaGreatDoor
open Go.RowKit Go.Maps

/-- What the first k blocks give of the bytes of a string. -/
def textK (y : TxS) (x : DevS) (kd size from_ to_ : Int) (l : List Int) : Nat → ByteArray × Int
  | 0 => (⟨#[]⟩, 0)
  | k + 1 =>
    if (textK y x kd size from_ to_ l k).2 ≠ 0 then textK y x kd size from_ to_ l k
    else if min ((k : Int) * 96 + 96) size ≤ from_ ∨ to_ ≤ (k : Int) * 96 then textK y x kd size from_ to_ l k
    else if (y.part x kd (l.getD k 0)).2 ≠ 0 then (⟨#[]⟩, (y.part x kd (l.getD k 0)).2)
    else if ((y.part x kd (l.getD k 0)).1.size : Int) ≠ min ((k : Int) * 96 + 96) size - k * 96 then (⟨#[]⟩, 6)
    else ((textK y x kd size from_ to_ l k).1 ++ (y.part x kd (l.getD k 0)).1.extract (max (from_ - k * 96) 0).toNat (min (to_ - k * 96) (y.part x kd (l.getD k 0)).1.size).toNat, 0)
def TxS.text (y : TxS) (x : DevS) (kd : Int) (l : List Int) (size from_ to_ : Int) : ByteArray × Int := textK y x kd size from_ to_ l l.length

theorem textK_size (y : TxS) (x : DevS) (kd size from_ to_ : Int) (l : List Int) (k : Nat) : (textK y x kd size from_ to_ l k).1.size ≤ 96 * k := by
  induction k with
  | zero => exact Nat.le_refl _
  | succ k ih =>
    unfold textK
    split
    · omega
    · split
      · omega
      · split
        · exact Nat.zero_le _
        · split
          · exact Nat.zero_le _
          · rename_i h1 h2 h3 h4
            simp only [ByteArray.size_append, ByteArray.size_extract]
            have : ((y.part x kd (l.getD k 0)).1.size : Int) ≤ 96 := by omega
            omega
theorem textK_stay {y : TxS} {x : DevS} {kd size from_ to_ : Int} {l : List Int} {k m : Nat} (h : (textK y x kd size from_ to_ l k).2 ≠ 0) (hm : k ≤ m) : textK y x kd size from_ to_ l m = textK y x kd size from_ to_ l k := by
  induction m with
  | zero =>
    obtain rfl : k = 0 := by omega
    rfl
  | succ m ih =>
    by_cases e : k = m + 1
    · rw [e]
    · have ih := ih (by omega)
      have h2 : (textK y x kd size from_ to_ l m).2 ≠ 0 := by rw [ih]; exact h
      show (if (textK y x kd size from_ to_ l m).2 ≠ 0 then textK y x kd size from_ to_ l m else _) = _
      rw [if_pos h2]; exact ih

set_option maxRecDepth 100000 in
set_option maxHeartbeats 4000000 in
theorem text_ls (Lb T : Nat) (F : List Nat) (D : Nat) (y : TxS) (B : List Nat) (x : DevS) (kd : Int) (A : Option Addr) (c : Nat) (l : List Int) (hl : l.length ≤ 8) (size from_ to_ : Int) (hs : 0 ≤ size ∧ size ≤ 768) (hf : 0 ≤ from_ ∧ from_ ≤ to_ ∧ to_ ≤ size) (w : World) (h : TxAt w T F D y) (hd : DevAt w D B x) (b : Blk w Lb 96 (lsC T y.s y.j y.i kd (.slice A l.length c))) (hR : Reads w A (l.map (.int .i64))) :
    Calls Tryz.prog 38 #[.pointer (some ⟨Lb, 0, none⟩), .int .i64 size, .int .i64 from_, .int .i64 to_] w fun e w' => e = .returned (.tuple #[.string (y.text x kd l size from_ to_).1, .int .i64 (y.text x kd l size from_ to_).2]) ∧ Below w.heap.size w w' := by
  have c5 : w.cell? ⟨Lb, 5, none⟩ = some (.slice A l.length c) := (b.cells 5).trans rfl
  have lL := b.lt
  have HT : Hid (y.text x kd l size from_ to_ = textK y x kd size from_ to_ l l.length) := Lib.hid rfl
  go_enter Tryz.func38, Tryz.ntmps38
  go_wp2_with fail
  go_loopw [10, 21] (fun o q wr => ∃ k : Nat, k ≤ l.length ∧ q = .int .i64 k ∧ o = .string (textK y x kd size from_ to_ l k).1 ∧ (textK y x kd size from_ to_ l k).2 = 0 ∧ Below w.heap.size w wr) (fun _ q _ => l.length - (RowKit.intOf q).toNat)
  case atStart => exact ⟨0, Nat.zero_le _, rfl, rfl, rfl, Below.refl _ _⟩
  case round =>
    obtain ⟨k, hk, rfl, rfl, h0, hb⟩ := hrel
    by_cases hlt : k < l.length
    · obtain ⟨v, hv⟩ : ∃ v, l[k]? = some v := ⟨_, List.getElem?_eq_getElem hlt⟩
      have hgd : l.getD k 0 = v := by rw [List.getD_eq_getElem?_getD, hv]; rfl
      have hst : textK y x kd size from_ to_ l (k + 1) = if min ((k : Int) * 96 + 96) size ≤ from_ ∨ to_ ≤ (k : Int) * 96 then textK y x kd size from_ to_ l k
    else if (y.part x kd v).2 ≠ 0 then (⟨#[]⟩, (y.part x kd v).2)
    else if ((y.part x kd v).1.size : Int) ≠ min ((k : Int) * 96 + 96) size - k * 96 then (⟨#[]⟩, 6)
    else ((textK y x kd size from_ to_ l k).1 ++ (y.part x kd v).1.extract (max (from_ - k * 96) 0).toNat (min (to_ - k * 96) (y.part x kd v).1.size).toNat, 0) := by
        show (if (textK y x kd size from_ to_ l k).2 ≠ 0 then textK y x kd size from_ to_ l k else _) = _
        rw [if_neg (by simpa using h0), hgd]
      have hpt := part_ls Lb T F D y B x kd A c l k v hv (by omega) wr (h.below hb) (hd.below hb) (b.belowAll hb) (hR.below hb)
      have hsz := textK_size y x kd size from_ to_ l k
      have hstay : (textK y x kd size from_ to_ l (k + 1)).2 ≠ 0 → y.text x kd l size from_ to_ = textK y x kd size from_ to_ l (k + 1) := fun hne => by rw [HT.out]; exact textK_stay hne (by omega)
      have HST0 := Lib.hid hst
      have HST := Lib.hid hst
      have HSY := Lib.hid hstay
      have H0 := Lib.hid h0
      have HHD := Lib.hid (And.intro h (And.intro hd (And.intro b hR)))
      clear hst hstay hgd h hd b hR h0 hv
      obtain ⟨o, ho⟩ : ∃ o, o = (textK y x kd size from_ to_ l k).1 := ⟨_, rfl⟩
      rw [← ho] at hsz HST ⊢
      have HO := Lib.hid ho
      clear ho
      by_cases hskip : min ((k : Int) * 96 + 96) size ≤ from_ ∨ to_ ≤ (k : Int) * 96
      · have HX : Hid (textK y x kd size from_ to_ l (k + 1) = textK y x kd size from_ to_ l k) := Lib.hid (by rw [HST.out, if_pos hskip])
        have h7 : (decide (min ((k : Int) * 96 + 96) size ≤ from_) = true) ∨ (decide (min ((k : Int) * 96 + 96) size ≤ from_) = false ∧ decide (to_ ≤ (k : Int) * 96) = true) := by
          by_cases e : min ((k : Int) * 96 + 96) size ≤ from_
          · exact .inl (decide_eq_true e)
          · exact .inr ⟨decide_eq_false e, decide_eq_true (by omega)⟩
        have hk8 : k < 8 := by omega
        clear hskip
        rcases h7 with h7 | ⟨h7, h7'⟩
        all_goals
          go_wp2_with fail
          go_roundw
          case rel => exact ⟨k + 1, by omega, by go_num, by rw [HX.out, HO.out], by rw [HX.out]; exact H0.out, hb⟩
          case measure => simp [RowKit.intOf]; omega
      · have hk8 : k < 8 := by omega
        have q1 : decide (min ((k : Int) * 96 + 96) size ≤ from_) = false := decide_eq_false (by omega)
        have q2 : decide (to_ ≤ (k : Int) * 96) = false := decide_eq_false (by omega)
        have HSK := Lib.hid hskip
        clear hskip
        go_wp2_with fail
        refine hpt.mono ?_
        rintro e w1 ⟨rfl, hb1⟩
        have B1 := hb.trans (hb1.mono hb.size)
        clear hpt
        generalize y.part x kd v = P at *
        obtain ⟨pd, pe⟩ := P
        simp only at HST ⊢
        by_cases he : pe = 0
        rotate_left
        · have HX : Hid (y.text x kd l size from_ to_ = (⟨#[]⟩, pe)) := Lib.hid (by
            have e1 : textK y x kd size from_ to_ l (k + 1) = (⟨#[]⟩, pe) := by rw [HST.out, if_neg HSK.out, if_pos he]
            rw [HSY.out (by rw [e1]; exact he), e1])
          have hq : (pe == 0) = false := by simpa using he
          have hq2 : (pe != 0) = true := by simpa using he
          clear he
          go_wp2_with fail
          go_ret2
          exact ⟨by rw [HX.out]; rfl, B1⟩
        subst he
        by_cases hz : (pd.size : Int) ≠ min ((k : Int) * 96 + 96) size - k * 96
        · have HX : Hid (y.text x kd l size from_ to_ = (⟨#[]⟩, 6)) := Lib.hid (by
            have e1 : textK y x kd size from_ to_ l (k + 1) = (⟨#[]⟩, 6) := by rw [HST.out, if_neg HSK.out, if_neg (by decide), if_pos hz]
            rw [HSY.out (by rw [e1]; decide), e1])
          have hq : ((pd.size : Int) != min ((k : Int) * 96 + 96) size - k * 96) = true := by simpa using hz
          clear hz
          go_wp2_with fail
          go_ret2
          exact ⟨by rw [HX.out]; rfl, B1⟩
        · have hq : ((pd.size : Int) != min ((k : Int) * 96 + 96) size - k * 96) = false := by simpa using hz
          have HX : Hid (textK y x kd size from_ to_ l (k + 1) = (o ++ pd.extract (max (from_ - k * 96) 0).toNat (min (to_ - k * 96) pd.size).toNat, 0)) := Lib.hid (by rw [HST.out, if_neg HSK.out, if_neg (by decide), if_neg hz])
          obtain ⟨lo, hlo⟩ : ∃ lo : Nat, max (from_ - k * 96) 0 = (lo : Int) := ⟨_, (Int.toNat_of_nonneg (by omega)).symm⟩
          obtain ⟨hi, hhi⟩ : ∃ hi : Nat, min (to_ - k * 96) (pd.size : Int) = (hi : Int) := ⟨_, (Int.toNat_of_nonneg (by have := HSK.out; omega)).symm⟩
          have hlh : lo ≤ hi := by have := HSK.out; omega
          have hhp : hi ≤ pd.size := by omega
          have hp96 : pd.size ≤ 96 := by omega
          have hcat : ¬ 9223372036854775807 < o.size + (min hi pd.size - lo) := by omega
          have HX2 : Hid (textK y x kd size from_ to_ l (k + 1) = (o ++ pd.extract lo hi, 0)) := Lib.hid (by rw [HX.out, hlo, hhi]; rfl)
          clear hz
          go_wp2_with fail
          go_roundw
          case rel => exact ⟨k + 1, by omega, by go_num, by rw [HX2.out], by rw [HX2.out], B1⟩
          case measure => simp [RowKit.intOf]; omega
    · obtain rfl : k = l.length := by omega
      have HX : Hid (y.text x kd l size from_ to_ = ((textK y x kd size from_ to_ l l.length).1, 0)) := Lib.hid (by rw [HT.out]; exact Prod.ext rfl h0)
      clear h0
      generalize (textK y x kd size from_ to_ l l.length).1 = o at *
      go_wp2_with fail
      go_ret2
      exact ⟨by rw [HX.out]; rfl, hb⟩

end Go.Proofs.YtljmdcegcckblaaGreatDoor
/- Layer 12: a transaction and its device together; store in plain words. -/
namespace Go.Proofs.YtljmdcegcckblaaGreatDoor
open Go.RowKit Go.Maps

/-- The list of blocks made as long as the parts. -/
def TxS.fit (y : TxS) (l : List Int) (n : Nat) : Int × TxS × List Int :=
  if n < l.length then ((y.free (l.drop n)).1, (y.free (l.drop n)).2, l.take n)
  else if l.length < n then ((y.take (l.getD (l.length - 1) 0) ((n : Int) - l.length)).1, (y.take (l.getD (l.length - 1) 0) ((n : Int) - l.length)).2, l ++ y.takeL (l.getD (l.length - 1) 0) ((n : Int) - l.length))
  else (0, y, l)
def TxS.puts (y : TxS) (x : DevS) (kd : Int) (l : List Int) (ps : List ByteArray) : Nat → Int × TxS
  | 0 => (0, y)
  | k + 1 =>
    if (y.puts x kd l ps k).1 ≠ 0 then y.puts x kd l ps k
    else if ((y.puts x kd l ps k).2.part x kd (l.getD k 0)).2 = 0 ∧ ((y.puts x kd l ps k).2.part x kd (l.getD k 0)).1 = ps.getD k ⟨#[]⟩ then y.puts x kd l ps k
    else (y.puts x kd l ps k).2.write (SecV y.s y.j y.i (l.getD k 0)) kd (ps.getD k ⟨#[]⟩)
def TxS.store (y : TxS) (x : DevS) (kd : Int) (l : List Int) (ps : List ByteArray) : Int × TxS × List Int :=
  if (y.fit l ps.length).1 ≠ 0 then ((y.fit l ps.length).1, (y.fit l ps.length).2.1, [])
  else if ((y.fit l ps.length).2.1.puts x kd (y.fit l ps.length).2.2 ps ps.length).1 ≠ 0 then (((y.fit l ps.length).2.1.puts x kd (y.fit l ps.length).2.2 ps ps.length).1, ((y.fit l ps.length).2.1.puts x kd (y.fit l ps.length).2.2 ps ps.length).2, [])
  else (0, ((y.fit l ps.length).2.1.puts x kd (y.fit l ps.length).2.2 ps ps.length).2, (y.fit l ps.length).2.2)

def TxS.Same (a b : TxS) : Prop := a.s = b.s ∧ a.j = b.j ∧ a.i = b.i
theorem TxS.write_same (y : TxS) (a k : Int) (d : ByteArray) : (y.write a k d).2.Same y := by
  unfold TxS.write TxS.brk; split
  · exact ⟨rfl, rfl, rfl⟩
  · split <;> exact ⟨rfl, rfl, rfl⟩
theorem TxS.change_same (y : TxS) (us : List Bool) (n : Nat) : (y.change us n).Same y := by
  unfold TxS.change; split
  · exact ⟨rfl, rfl, rfl⟩
  · split <;> exact ⟨rfl, rfl, rfl⟩
theorem TxS.free_same (y : TxS) (l : List Int) : (y.free l).2.Same y := by
  unfold TxS.free TxS.brk; split
  · exact ⟨rfl, rfl, rfl⟩
  · split
    · exact ⟨rfl, rfl, rfl⟩
    · exact TxS.change_same _ _ _
theorem TxS.take_same (y : TxS) (a b : Int) : (y.take a b).2.Same y := by
  unfold TxS.take TxS.brk; split
  · exact ⟨rfl, rfl, rfl⟩
  · split
    · exact ⟨rfl, rfl, rfl⟩
    · exact TxS.change_same _ _ _
theorem TxS.Same.trans {a b c : TxS} (h : a.Same b) (k : b.Same c) : a.Same c := ⟨h.1.trans k.1, h.2.1.trans k.2.1, h.2.2.trans k.2.2⟩
theorem TxS.puts_same (y : TxS) (x : DevS) (kd : Int) (l : List Int) (ps : List ByteArray) (k : Nat) : (y.puts x kd l ps k).2.Same y := by
  induction k with
  | zero => exact ⟨rfl, rfl, rfl⟩
  | succ k ih =>
    unfold TxS.puts
    split
    · exact ih
    · split
      · exact ih
      · exact (TxS.write_same _ _ _ _).trans ih
theorem TxS.puts_stay {y : TxS} {x : DevS} {kd : Int} {l : List Int} {ps : List ByteArray} {k m : Nat} (h : (y.puts x kd l ps k).1 ≠ 0) (hm : k ≤ m) : y.puts x kd l ps m = y.puts x kd l ps k := by
  induction m with
  | zero =>
    obtain rfl : k = 0 := by omega
    rfl
  | succ m ih =>
    by_cases e : k = m + 1
    · rw [e]
    · have ih := ih (by omega)
      have h2 : (y.puts x kd l ps m).1 ≠ 0 := by rw [ih]; exact h
      show (if (y.puts x kd l ps m).1 ≠ 0 then y.puts x kd l ps m else _) = _
      rw [if_pos h2]; exact ih
theorem SecV_bds (s j i b : Int) : 0 ≤ SecV s j i b ∧ SecV s j i b ≤ 1000 := by
  have h1 := rgD_bds s j i
  have h2 := rgB_bds s j i
  unfold SecV
  split
  · rename_i h
    unfold SecE at h
    split at h
    · split at h
      · cases h
      · omega
    · rename_i h3; exact absurd h h3
  · omega
theorem TxS.takeL_len (y : TxS) (a b : Int) : (y.take a b).1 = 0 → b.toNat = (y.takeL a b).length := by
  unfold TxS.take TxS.takeL
  intro h
  split at h
  · rename_i h1; exact absurd h h1
  · rename_i h1
    split at h
    · rename_i h2; exact absurd h h2
    · rename_i h2
      rw [if_neg h1, if_neg h2]
      have h3 : y.takeE a b = 0 := by simpa using h2
      have h4 : AlE y.s y.j y.i y.may a b = 0 := by
        unfold TxS.takeE at h3
        split at h3
        · rename_i h5; exact absurd h3 h5
        · rename_i h5; simpa using h5
      unfold AlE at h4
      split at h4
      · split at h4
        · cases h4
        · split at h4
          · cases h4
          · unfold allocd; rw [List.length_take]; omega
      · rename_i h6; exact absurd h4 h6

end Go.Proofs.YtljmdcegcckblaaGreatDoor
/- Layer 10: what a transaction writes, in plain words. No program in sight. -/
namespace Go.Proofs.YtljmdcegcckblaaGreatDoor
open Go.RowKit Go.Maps

def TxS.bmap (y : TxS) : Rec := ⟨1 + y.j, 5, mapS y.now⟩
/-- What Records returns. -/
def TxS.recs (y : TxS) : List Rec := if y.changed then insRec y.writes y.bmap else y.writes
/-- The records that came by Write. -/
structure TxS.Clean (y : TxS) : Prop where
  asc : Asc y.writes
  out : ∀ r ∈ y.writes, r.at_ < 1 ∨ 1 + y.j < r.at_
  small : ∀ r ∈ y.writes, r.data.size ≤ 96
  j0 : 0 ≤ y.j

theorem insRec_perm {l : List Rec} {r : Rec} (h : ∀ x ∈ l, x.at_ ≠ r.at_) : (insRec l r).Perm (r :: l) := by
  induction l with
  | nil => exact List.Perm.refl _
  | cons x t ih =>
    have h1 := h x (by simp)
    unfold insRec
    split
    · exact List.Perm.refl _
    · split
      · omega
      · exact ((ih fun y hy => h y (List.mem_cons_of_mem _ hy)).cons x).trans (List.Perm.swap _ _ _)
theorem asc_perm {l m : List Rec} (hl : Asc l) (hm : m.Pairwise (fun a b => a.at_ ≤ b.at_)) (hp : m.Perm l) : m = l := by
  induction l generalizing m with
  | nil => exact hp.eq_nil
  | cons x t ih =>
    obtain ⟨h1, h2⟩ := List.pairwise_cons.1 hl
    cases m with
    | nil => exact absurd hp.symm.eq_nil (by simp)
    | cons y s =>
      obtain ⟨k1, k2⟩ := List.pairwise_cons.1 hm
      have e : y = x := by
        have hy : y ∈ x :: t := hp.mem_iff.1 (by simp)
        rcases List.mem_cons.1 hy with e | hy
        · exact e
        · have hx : x ∈ y :: s := hp.mem_iff.2 (by simp)
          rcases List.mem_cons.1 hx with e | hx
          · exact e.symm
          · have := h1 y hy; have := k1 x hx; omega
      subst e
      rw [ih h2 k2 ((List.perm_cons _).1 hp)]
theorem recs_asc {y : TxS} (h : y.Clean) : Asc y.recs := by
  unfold TxS.recs
  split
  · exact insRec_asc h.asc _
  · exact h.asc
theorem recs_perm {y : TxS} (h : y.Clean) : y.recs.Perm (y.writes ++ if y.changed then [y.bmap] else []) := by
  unfold TxS.recs
  split
  · refine (insRec_perm fun x hx => ?_).trans ?_
    · have := h.out x hx; have := h.j0; show x.at_ ≠ 1 + y.j; omega
    · exact (List.perm_append_comm (l₁ := [y.bmap]) (l₂ := y.writes))
  · rw [List.append_nil]
theorem recs_length {y : TxS} (h : y.Clean) : y.recs.length = y.writes.length + if y.changed then 1 else 0 := by
  rw [(recs_perm h).length_eq, List.length_append]
  split <;> rfl

/-! How calls turn it. -/
theorem clean_insRec {y : TxS} (h : y.Clean) {r : Rec} (h1 : r.at_ < 1 ∨ 1 + y.j < r.at_) (h2 : r.data.size ≤ 96) : TxS.Clean { y with writes := insRec y.writes r } :=
  ⟨insRec_asc h.asc r, fun x hx => (insRec_mem hx).elim (fun e => e ▸ h1) (h.out x), fun x hx => (insRec_mem hx).elim (fun e => e ▸ h2) (h.small x), h.j0⟩
theorem TxS.Clean.brk {y : TxS} (h : y.Clean) : y.brk.Clean := ⟨h.asc, h.out, h.small, h.j0⟩
theorem TxS.Clean.change {y : TxS} (h : y.Clean) (us : List Bool) (n : Nat) : (y.change us n).Clean := by
  unfold TxS.change
  split
  · exact h
  · split
    · exact h
    · exact ⟨h.asc, h.out, h.small, h.j0⟩
theorem TxS.Clean.write {y : TxS} (h : y.Clean) (a k : Int) (d : ByteArray) : (y.write a k d).2.Clean := by
  unfold TxS.write
  split
  · exact h
  · split
    · exact h.brk
    · rename_i hE
      unfold TxS.writeE at hE
      split at hE
      · exact absurd (by decide) hE
      · split at hE
        · exact absurd (by decide) hE
        · split at hE
          · exact absurd (by decide) hE
          · exact clean_insRec h (by show a < 1 ∨ 1 + y.j < a; omega) (by show d.size ≤ 96; omega)
theorem TxS.Clean.take {y : TxS} (h : y.Clean) (near many : Int) : (y.take near many).2.Clean := by
  unfold TxS.take
  split
  · exact h
  · split
    · exact h.brk
    · exact h.change _ _
theorem TxS.Clean.free {y : TxS} (h : y.Clean) (l : List Int) : (y.free l).2.Clean := by
  unfold TxS.free
  split
  · exact h
  · split
    · exact h.brk
    · exact h.change _ _

end Go.Proofs.YtljmdcegcckblaaGreatDoor
/- Layer 10: the records of a map, by maps.Values and slices.Collect. -/
namespace Go.Proofs.YtljmdcegcckblaaGreatDoor
open Go.RowKit Go.Maps Go.Shelf Go.Sort

attribute [local go_sem] Oper.semAt_some

/-- What has come of a map's records. -/
structure ValsOf (E : DataW Unit) (rs : List Rec) (left : Lit → Bool) (xs : List Rec) : Prop where
  keys : CollectedI E left (xs.map (·.at_))
  mem : ∀ r ∈ xs, r ∈ rs
theorem asc_inj {l : List Rec} (h : Asc l) {r s : Rec} (hr : r ∈ l) (hs : s ∈ l) (he : r.at_ = s.at_) : r = s := by
  induction l with
  | nil => cases hr
  | cons x t ih =>
    obtain ⟨h1, h2⟩ := List.pairwise_cons.1 h
    rcases List.mem_cons.1 hr with e1 | hr2
    · rcases List.mem_cons.1 hs with e2 | hs2
      · rw [e1, e2]
      · have := h1 s hs2; rw [e1] at he; omega
    · rcases List.mem_cons.1 hs with e2 | hs2
      · have := h1 r hr2; rw [e2] at he; omega
      · exact ih h2 hr2 hs2
theorem asc_nodup {l : List Rec} (h : Asc l) : l.Nodup := h.imp fun {a b} hab he => by subst he; omega
theorem atRec_of_mem {l : List Rec} (h : Asc l) {r : Rec} (hr : r ∈ l) : atRec l r.at_ = some r := by
  cases e : atRec l r.at_ with
  | none => exact absurd rfl (atRec_none e r hr)
  | some s =>
    obtain ⟨h1, h2⟩ := atRec_mem e
    rw [asc_inj h h1 hr h2]
theorem ValsOf.all {E : DataW Unit} {rs : List Rec} {left : Lit → Bool} {xs : List Rec} (h : ValsOf E rs left xs) (hE : RecMap E rs) (hl : ∀ kl, left kl = false) : xs.Perm rs := by
  have hnx : xs.Nodup := (List.pairwise_map.1 h.keys.1).imp fun {a b} hab he => hab (by rw [he])
  refine (List.perm_ext_iff_of_nodup hnx (asc_nodup hE.asc)).2 fun r => ⟨h.mem r, fun hr => ?_⟩
  have h1 : r.at_ ∈ xs.map (·.at_) := (h.keys.2 _).2 ⟨by rw [hE.has_, atRec_of_mem hE.asc hr]; rfl, hl _⟩
  obtain ⟨s, hs, he⟩ := List.mem_map.1 h1
  rwa [asc_inj hE.asc (h.mem s hs) hr he] at hs

abbrev encR (r : Rec) : Value := .agg (recC r)
theorem recR_val {v : Value} {y : DataW Unit × List MemPlace} (h : recR v = some y) : ∃ r, v = encR r ∧ y = (recD r, []) := by
  unfold recR at h
  split at h
  · rename_i a k s
    exact ⟨⟨a, k, s⟩, rfl, (Option.some.inj h).symm⟩
  · cases h

section
variable {F : Fence} {n : Nat}
theorem wpListIn_storeBy {P : Program} {ops : Array Oper} {rest : List Oper} {o : Oper} {a : Act} {w w' : World} {Q : Exit → Act → World → Prop} (hgd : o.guard = none) (ty : TypeId) (x y : Operand) (ho : o.op = .store ty x y) (p v : Value)
    (hx : a.eval x = p) (hy : a.eval y = v) (hrun : (Instr.storeAt ty p v).run P w = .ok () w') (h : wpListIn F n P ops Q rest (a.put o.dst undef) w') : wpListIn F n P ops Q (o :: rest) a w := by
  refine wpListIn_plain hgd fun K hK' => ?_
  unfold Oper.wpIn
  refine ⟨?_, ?_⟩
  · simp [Oper.about, ho]
  · rw [Oper.semAt_plain F _ _ (by rw [ho]; intro c hc'; cases hc')]
    simp [execOp, ho, hx, hy, hrun, Result.andThen]
    exact hK' _ _ h
end
set_option maxRecDepth 100000 in
set_option maxHeartbeats 1000000 in
theorem vals1_in (F : Fence) (n : Nat) (hf : F.fn 66) (hro : F.round = none) (hn : 1 ≤ n) (l Bm b : Nat) (rs : List Rec) (E : DataW Unit) (hE : RecMap E rs) (J Jx : List Rec → World → Prop)
    (hY : ∀ pre x W, J pre W → pre.length < rs.length → YieldAt F (n - 1) Tryz.prog l #[encR x] W fun e W' =>
      (e = .returned (.bool true) ∧ J (pre ++ [x]) W' ∧ KeepsWalks W W') ∨ (e = .returned (.bool false) ∧ Jx (pre ++ [x]) W'))
    (W : World) (hJ : AbidesFrom W.heap.size J) (hm : W.cell? ⟨Bm, 0, none⟩ = some (.map (some b))) (hown : W.ownsMap Tryz.prog 3 recR b rs.length E) (h0 : J [] W) :
    CallsIn F n Tryz.prog 66 #[.func (.yield l) #[] #[], .pointer (some ⟨Bm, 0, none⟩)] W fun e W' => (∃ v, e = .returned v) ∧
      ((∃ xs, xs.Perm rs ∧ J xs W') ∨ (∃ pre, True ∧ Jx pre W')) := by
  refine callsIn_of_wp Tryz.func66 rfl hf ?_ hro
  simp only [Tryz.ntmps66, List.size_toArray, List.length_cons, List.length_nil, Nat.reduceAdd, Nat.reduceSub, Array.replicate_succ, Array.replicate_zero, List.push_toArray, List.append_toArray, List.nil_append, List.cons_append]
  gi_wp2_with (first
    | (gi_at_range; refine wpListIn_range_own _ rfl _ 104 rfl 3 65 keyInt Tryz.underlying104 _ b rs.length _ rfl hown ?_; intro w0 hrg0 hg0 hs0)
    | gi_in)
  go_frame
  gi_loopw [4] (fun _ wr => ∃ (left : Lit → Bool) (cnt : Nat) (xs : List Rec), wr.ranges Tryz.prog 3 recR b W.heap.size rs.length E left cnt ∧ xs.length + cnt ≤ Maps.size E ∧ ValsOf E rs left xs ∧ J xs wr)
    (fun _ wr => wr.rangeLeft b W.heap.size)
  case atStart =>
    exact ⟨_, _, [], hrg0, by simp, ⟨CollectedI.start E, by simp⟩, hJ [] W w0 none h0 hg0 (fun r e => by cases e)⟩
  case round =>
    obtain ⟨left, cnt, xs, hrg, hcs, hC, hJs⟩ := hrel
    gi_wp2_with (first
      | (gi_at_next; refine wpListIn_next_ranges _ rfl _ rfl 3 keyInt recR encZ encR (fun key kl hk => by obtain ⟨x, hx, _⟩ := Maps.keyOf_i64 Tryz.underlying3 hk; exact ⟨x, hx⟩) (fun v y hv => by obtain ⟨r, hr, _⟩ := recR_val hv; exact ⟨r, hr⟩) b W.heap.size rs.length _ _ _ rfl hrg ?_ ?_)
      | gi_in)
    · intro hc0 hl0
      gi_wp2
      go_end0
      exact ⟨⟨_, rfl⟩, .inl ⟨xs, hC.all hE hl0, hJs⟩⟩
    · intro x c kl yd yp w2 cnt2 hkey hlk hv hat hrg2 hlt hg2 hs2 hen
      obtain ⟨x', ex, rfl, _⟩ := Maps.keyOf_i64 Tryz.underlying3 hkey
      obtain rfl : x = x' := encZ_inj ex
      have hyd : yd = recD c := by
        obtain ⟨r, hr, hy⟩ := recR_val hv
        have e1 : yd = recD r := (Prod.mk.inj hy).1
        have e2 : recD c = recD r := by
          have h3 : recR (.agg (recC c)) = recR (.agg (recC r)) := congrArg recR hr
          rw [recR_mk c, recR_mk r] at h3
          exact (Prod.mk.inj (Option.some.inj h3)).1
        rw [e1, e2]
      have hcm : c ∈ rs ∧ c.at_ = x := by
        have h1 := hat (.map [])
        rw [hE.at_, hyd] at h1
        cases e : atRec rs x with
        | none => rw [e] at h1; unfold recD at h1; cases h1
        | some r =>
          rw [e] at h1
          have := recD_inj h1
          subst this
          exact atRec_mem e
      have hJ2 : J xs w2 := hJ xs wr w2 (some W.heap.size) hJs hg2 (fun r e => by cases e; exact ⟨Nat.le_refl _, hrg.iter_walk⟩)
      have hln : xs.length < rs.length := by have := hE.size_; omega
      obtain ⟨W6, hW6⟩ : ∃ W6, W6 = (w2.alloc (.cells #[.int .i64 0, .int .i64 0, .string ⟨#[]⟩] 65)).setRow w2.heap.size #[.int .i64 c.at_, .int .i64 c.kind, .string c.data] := ⟨_, rfl⟩
      have b6 : Blk W6 w2.heap.size 65 #[.int .i64 c.at_, .int .i64 c.kind, .string c.data] := by rw [hW6]; exact (Blk.new _ _ _).setRow
      have B6 : Below w2.heap.size w2 W6 := by rw [hW6]; exact Below.setRow ((Below.refl _ _).alloc (Nat.le_refl _) _) (Nat.le_refl _) _
      have HST : (Instr.storeAt 65 (.pointer (some ⟨w2.heap.size, 0, none⟩)) (.agg #[.int .i64 c.at_, .int .i64 c.kind, .string c.data])).run Tryz.prog (w2.alloc (.cells #[.int .i64 0, .int .i64 0, .string ⟨#[]⟩] 65)) = .ok () W6 := by
        rw [hW6]; exact storeRow (ty := 65) (vs := #[.int .i64 c.at_, .int .i64 c.kind, .string c.data]) (Blk.new _ _ _) rfl (by simp [Value.oneCell']) (by kernel_rfl)
      have hJ6 : J xs W6 := hJ xs w2 W6 none hJ2 ⟨B6.os, B6.tape, B6.output, B6.size, fun k hk _ => B6.block k hk⟩ (fun r e => by cases e)
      have hrg6 := hrg2.of_walks ⟨B6.size, fun k o hk _ => (B6.block k (Array.getElem?_eq_some_iff.1 hk).1).trans hk⟩
      obtain ⟨fn, tmps, assign, body, hy, hR⟩ := hY xs c W6 hJ6 hln
      have hC2 : ValsOf E rs (fun z => left z && !z.sameKey (.int .i64 x)) (xs ++ [c]) :=
        ⟨by rw [List.map_append, List.map_cons, List.map_nil, hcm.2]; exact hC.keys.step hlk hat, fun r hr => (List.mem_append.1 hr).elim (hC.mem r) (fun e => by simp at e; subst e; exact hcm.1)⟩
      have HC2 := Lib.hid hC2
      have c6 := b6.cells
      have l6 := b6.lt
      dsimp only [encR, recC] at hy hen
      clear hs2 hC2 hcm hyd hW6 b6 B6 hJ2 hJ6
      gi_wp2_with (refine wpListIn_storeBy rfl _ _ _ rfl _ _ rfl rfl HST ?_)
      refine hR.mono ?_
      clear c6 l6
      rintro e W3 (⟨rfl, hJ3, hk3⟩ | ⟨rfl, hJx3⟩)
      · gi_wp2
        have hrg3 := hrg6.of_walks hk3
        go_roundw
        case rel => exact ⟨_, cnt2, xs ++ [c], hrg3, by simp; omega, HC2.out, hJ3⟩
        case measure => rw [hrg3.left_eq, hrg.left_eq]; exact hlt
      · gi_wp2
        refine bodyPost_ret (results_none rfl _ _ _) rfl ?_
        exact ⟨⟨_, rfl⟩, .inr ⟨_, trivial, hJx3⟩⟩

theorem vals_stops (F : Fence) (n : Nat) (hf : F.fn 66) (hro : F.round = none) (hn : 1 ≤ n) (Bm b : Nat) (rs : List Rec) (E : DataW Unit) (hE : RecMap E rs) (w : World) (hBm : Bm < w.heap.size)
    (hm : w.cell? ⟨Bm, 0, none⟩ = some (.map (some b))) (hown : w.ownsMap Tryz.prog 3 recR b rs.length E) :
    SeqStopsK F n Tryz.prog 66 #[.pointer (some ⟨Bm, 0, none⟩)] (fun r => #[encR r]) KeepsWalks (fun xs => xs.Perm rs) (fun _ => True) rs.length w := fun l J Jx W hW hJ _ hY h0 =>
  vals1_in F n hf hro hn l Bm b rs E hE J Jx hY W hJ ((hW.cell (p := ⟨Bm, 0, none⟩) hBm).trans hm) (map_block hown (hW.block b hown.lt)) h0

set_option maxHeartbeats 400000 in
theorem values_any (mb : Option Nat) (w : World) :
    Calls Tryz.prog 42 #[.map mb] w fun e w' => e = .returned (.func (.func 66) #[] #[.pointer (some ⟨w.heap.size, 0, none⟩)]) ∧ w' = w.alloc (.cells #[.map mb] 104) := by
  have hmf : ∀ (fn : Fn) (first cap : Array Value) (w : World), (Instr.makeFunc fn first cap).run Tryz.prog w = .ok (.func fn first cap) w := fun _ _ _ _ => rfl
  go_enter Tryz.func42, Tryz.ntmps42
  go_wp2
  go_ret
  exact ⟨rfl, rfl⟩

end Go.Proofs.YtljmdcegcckblaaGreatDoor
