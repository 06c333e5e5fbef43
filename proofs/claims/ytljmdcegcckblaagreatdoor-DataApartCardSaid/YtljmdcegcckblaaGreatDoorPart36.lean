/- Parts of the proof, put together by program: IG, ZF, ZG. -/
import Derived.Test.YtljmdcegcckblaaGreatDoorPart35
import Derived.Test.YtljmdcegcckblaaGreatDoorPart32
import Derived.Test.YtljmdcegcckblaaGreatDoorPart20
/- Layer 10: Commit of a transaction. -/
namespace Go.Proofs.YtljmdcegcckblaaGreatDoor
open Go.RowKit Go.Maps

theorem Reads.of_own3 {w : World} {base : Nat} {e : TypeId} {A : Option Addr} {n c : Nat} {xs : List Value} (h : w.ownsRow base e 3 (.slice A n c) n xs) : Reads w A xs := by
  obtain ⟨h1, h2⟩ := h
  rcases h2 with ⟨_, h2⟩ | ⟨g, cap, cur, hv, hg, hh, h3, h4, h5, h6⟩
  · left; subst h2; simpa using h1
  · right
    simp only [Value.slice.injEq] at hv
    refine ⟨g, 0, hv.1, ?_, fun j u hu => ?_⟩
    · exact (Array.getElem?_eq_some_iff.1 hh).1
    · rw [cell_of_row w g (0 + j) cur e (0, 0) hh]
      rw [← h6, List.getElem?_take] at hu
      split at hu
      · simpa using hu
      · simp at hu

/-- What Commit returns, and the device behind it. -/
def TxS.commit (y : TxS) (x : DevS) : Int × DevS := if y.recs = [] then (0, x) else x.commit 1 y.j y.recs
def TxS.end_ (y : TxS) : TxS := { y with ended := true }
def CommitDid (w : World) (T : Nat) (F : List Nat) (D : Nat) (y : TxS) (B : List Nat) (x : DevS) (e : Ending) (w' : World) : Prop :=
  e = .returned (.int .i64 (y.commit x).1) ∧ ∃ B', TD w' T F D y.end_ B' (y.commit x).2 ∧ Grow w (F ++ B) w' (F ++ B')
end Go.Proofs.YtljmdcegcckblaaGreatDoor
/- Layers 9 and 10 in plain words: Commit on a device that has power; a device that was formatted. No program in sight. -/
namespace Go.Proofs.YtljmdcegcckblaaGreatDoor
open Go.RowKit Go.Maps

theorem sameFr.trans {x y z : DevS} {b : Int} (h : sameFr x y b) (k : sameFr y z b) : sameFr x z b := ⟨k.1.trans h.1, k.2.trans h.2⟩
theorem sameFr.refl (x : DevS) (b : Int) : sameFr x x b := ⟨rfl, rfl⟩

theorem puts_runs {L : List (Int × Fr)} (hn : (L.map (·.1)).Nodup) : ∀ (k : Nat) {x : DevS} {n : Nat}, (∀ p ∈ L, 0 ≤ p.1 ∧ p.1 < x.stable.length ∧ 1 ≤ p.2.kind ∧ p.2.kind ≤ 255 ∧ p.2.data.size ≤ 112 ∧ 0 ≤ p.2.seq ∧ p.2.seq < 4294967296) → k ≤ L.length → x.Runs (n + k) →
    (x.puts L k).1 = 0 ∧ (x.puts L k).2.Runs n ∧ (x.puts L k).2.stable.length = x.stable.length ∧ (∀ p ∈ L.take k, (x.puts L k).2.ge p.1 = 0 ∧ (x.puts L k).2.fr p.1 = p.2) ∧ (∀ b : Int, 0 ≤ b → b < x.stable.length → b ∉ (L.take k).map (·.1) → sameFr x (x.puts L k).2 b) := by
  intro k
  induction k with
  | zero => intro x n _ _ h; exact ⟨rfl, h, rfl, fun p hp => by simp at hp, fun b _ _ _ => sameFr.refl _ _⟩
  | succ k ih =>
    intro x n hv hk h
    obtain ⟨i1, i2, i3, i4, i5⟩ := ih (n := n + 1) hv (by omega) (h.mono (by omega))
    have hkl : k < L.length := by omega
    have hgd : L.getD k default = L[k] := by rw [List.getD_eq_getElem?_getD, List.getElem?_eq_getElem hkl]; rfl
    have hp := hv L[k] (List.getElem_mem hkl)
    have e : x.puts L (k + 1) = (x.puts L k).2.put L[k].1 L[k].2.kind L[k].2.seq L[k].2.data := by
      show (if (x.puts L k).1 ≠ 0 then x.puts L k else _) = _
      rw [if_neg (by simpa using i1), hgd]
    obtain ⟨j1, j2⟩ := put_runs i2 (a := L[k].1) (kind := L[k].2.kind) (seq := L[k].2.seq) (s := L[k].2.data) (by rw [i3]; exact ⟨hp.1, hp.2.1⟩) ⟨hp.2.2.1, hp.2.2.2.1⟩ hp.2.2.2.2.1 hp.2.2.2.2.2
    have htk : L.take (k + 1) = L.take k ++ [L[k]] := by rw [List.take_succ_eq_append_getElem hkl]
    have hnew : L[k].1 ∉ (L.take k).map (·.1) := by
      have h2 : (L.map (·.1)).take (k + 1) = (L.take k).map (·.1) ++ [L[k].1] := by rw [← List.map_take, htk, List.map_append]; rfl
      have h3 : ((L.take k).map (·.1) ++ [L[k].1]).Nodup := by rw [← h2]; exact hn.sublist (List.take_sublist _ _)
      intro hm
      exact (List.nodup_append.1 h3).2.2 _ hm _ (by simp) rfl
    rw [e]
    refine ⟨j1, j2.runs, j2.size.trans i3, fun p hpm => ?_, fun b hb1 hb2 hbn => ?_⟩
    · rw [htk] at hpm
      rcases List.mem_append.1 hpm with hpm | hpm
      · have h4 := i4 p hpm
        have h5 := hv p (List.mem_of_mem_take hpm)
        have h6 := j2.old p.1 h5.1 (by rw [i3]; exact h5.2.1) (fun e2 => hnew (by rw [← e2]; exact List.mem_map_of_mem hpm))
        exact ⟨h6.1.trans h4.1, h6.2.trans h4.2⟩
      · obtain rfl : p = L[k] := by simpa using hpm
        exact j2.new
    · rw [htk, List.map_append] at hbn
      have h5 := i5 b hb1 hb2 (fun hm => hbn (List.mem_append_left _ hm))
      exact h5.trans (j2.old b hb1 (by rw [i3]; exact hb2) (fun e2 => hbn (by rw [e2]; simp)))

/-- A device on which a call has come to its end: it is flushed. -/
theorem done_runs {x : DevS} {n : Nat} (h : x.Runs n) : DevS.done (0, x) = (0, x.flushed) := by
  unfold DevS.done DevS.flush
  rw [if_neg (by simp)]
  simp [readyE, h.on]

/-- A formatted journal: its head, at the number q. -/
structure HeadAt (x : DevS) (F q : Int) : Prop where
  ge : x.ge F = 0
  fr : x.fr F = ⟨1, q, ⟨#[]⟩⟩
theorem HeadAt.head {x : DevS} {F Z q : Int} (h : HeadAt x F q) (hc : checkE F Z = 0) : x.head F Z = (0, q) := by
  unfold DevS.head
  rw [if_neg (by simpa using hc), if_neg (by rw [h.ge]; simp), if_neg (by rw [h.fr]; simp), h.fr]
theorem HeadAt.same {x y : DevS} {F q : Int} (h : HeadAt x F q) (hs : sameFr x y F) : HeadAt y F q := ⟨hs.1.trans h.ge, hs.2.trans h.fr⟩

theorem blanks_runs {a : Int} (ha : 0 ≤ a) : ∀ (k : Nat) {x : DevS} {n : Nat}, a + k ≤ x.stable.length → x.Runs (n + k) →
    (x.blanks a k).1 = 0 ∧ (x.blanks a k).2.Runs n ∧ (x.blanks a k).2.stable.length = x.stable.length ∧ (∀ b : Int, a ≤ b → b < a + k → (x.blanks a k).2.ge b = 70) ∧ (∀ b : Int, 0 ≤ b → b < x.stable.length → (b < a ∨ a + k ≤ b) → sameFr x (x.blanks a k).2 b) := by
  intro k
  induction k with
  | zero => intro x n _ h; exact ⟨rfl, h, rfl, fun b h1 h2 => by omega, fun b _ _ _ => sameFr.refl _ _⟩
  | succ k ih =>
    intro x n hk h
    obtain ⟨i1, i2, i3, i4, i5⟩ := ih (n := n + 1) (by omega) (h.mono (by omega))
    have e : x.blanks a (k + 1) = (x.blanks a k).2.write (a + k) zsec := by
      show (if (x.blanks a k).1 ≠ 0 then x.blanks a k else _) = _
      rw [if_neg (by simpa using i1)]
    obtain ⟨j1, j2⟩ := blank_runs i2 (a := a + k) (by omega)
    rw [e]
    refine ⟨j1, j2.runs, j2.size.trans i3, fun b h1 h2 => ?_, fun b hb1 hb2 hb3 => ?_⟩
    · by_cases hb : b = a + k
      · rw [hb]; exact j2.new.1
      · exact (j2.old b (by omega) (by omega) hb).1.trans (i4 b h1 (by omega))
    · exact (i5 b hb1 hb2 (by omega)).trans (j2.old b hb1 (by omega) (by omega))

theorem checkE_zero {F Z : Int} (h : checkE F Z = 0) : 8 ≤ Z ∧ Z ≤ 96 ∧ 0 ≤ F ∧ F ≤ 256 - Z := by
  unfold checkE at h; split at h
  · cases h
  · omega
theorem jfmt_runs {x : DevS} {F Z : Int} {n : Nat} (hc : checkE F Z = 0) (hF : F + Z ≤ x.stable.length) (h : x.Runs (n + 1 + (Z - 1).toNat)) :
    ∃ y, x.jfmt F Z = (0, y) ∧ y.Runs n ∧ y.stable.length = x.stable.length ∧ HeadAt y F 0 ∧ (∀ b : Int, F + 1 ≤ b → b < F + Z → y.ge b = 70) ∧ (∀ b : Int, 0 ≤ b → b < x.stable.length → (b < F ∨ F + Z ≤ b) → sameFr x y b) := by
  have hz := checkE_zero hc
  obtain ⟨j1, j2⟩ := put_runs (n := n + (Z - 1).toNat) (h.mono (by omega)) (a := F) (kind := 1) (seq := 0) (s := ⟨#[]⟩) (by omega) (by omega) (Nat.zero_le _) (by omega)
  obtain ⟨i1, i2, i3, i4, i5⟩ := blanks_runs (a := F + 1) (by omega) (Z - 1).toNat (n := n) (by rw [j2.size]; omega) j2.runs
  have hz1 : F + 1 + ((Z - 1).toNat : Int) = F + Z := by omega
  rw [hz1] at i4 i5
  obtain ⟨f1, f2, f3⟩ := flush_same i2
  refine ⟨((x.put F 1 0 ⟨#[]⟩).2.blanks (F + 1) (Z - 1).toNat).2.flushed, ?_, f1, f2.trans (i3.trans j2.size), ?_, fun b h1 h2 => ?_, fun b h1 h2 h3 => ?_⟩
  · unfold DevS.jfmt DevS.flush
    rw [if_neg (by simpa using hc), if_neg (by simpa using j1), if_neg (by simpa using i1), i2.on]
    rfl
  · have hF2 : F < (x.put F 1 0 ⟨#[]⟩).2.stable.length := by rw [j2.size]; omega
    have h0 : HeadAt (x.put F 1 0 ⟨#[]⟩).2 F 0 := ⟨j2.new.1, j2.new.2⟩
    exact (h0.same (i5 F (by omega) hF2 (by omega))).same (f3 F (by omega) (by rw [i3]; exact hF2))
  · exact (f3 b (by omega) (by rw [i3, j2.size]; omega)).1.trans (i4 b h1 h2)
  · exact ((j2.old b h1 h2 (by omega)).trans (i5 b h1 (by rw [j2.size]; exact h2) (by omega))).trans (f3 b h1 (by rw [i3, j2.size]; exact h2))

/-! What is valid. -/
theorem validTo_all {n F Z : Int} {l : List Rec} : ∀ {m : Nat}, validTo n F Z l m = 0 → ∀ k, k < m → recE n F Z (l.take k) (l.getD k default) = 0 := by
  intro m
  induction m with
  | zero => intro _ k hk; omega
  | succ m ih =>
    intro h k hk
    unfold validTo at h
    by_cases h1 : validTo n F Z l m = 0
    · rw [if_neg (by simpa using h1)] at h
      by_cases e : k = m
      · rw [e]; exact h
      · exact ih h1 k (by omega)
    · rw [if_pos (by simpa using h1)] at h; exact absurd h h1
theorem recE_zero' {n F Z : Int} {l : List Rec} {r : Rec} (h : recE n F Z l r = 0) : ¬ (F ≤ r.at_ ∧ r.at_ < F + Z) ∧ 0 ≤ r.at_ ∧ r.at_ < n ∧ 1 ≤ r.kind ∧ r.kind ≤ 255 ∧ r.data.size ≤ 96 ∧ r.at_ ∉ l.map (·.at_) := by
  unfold recE at h
  by_cases h1 : F ≤ r.at_ ∧ r.at_ < F + Z
  · rw [if_pos h1] at h; cases h
  · rw [if_neg h1] at h
    by_cases h2 : r.at_ < 0 ∨ n ≤ r.at_ ∨ r.kind < 1 ∨ 255 < r.kind
    · rw [if_pos h2] at h; cases h
    · rw [if_neg h2] at h
      by_cases h3 : 96 < r.data.size
      · rw [if_pos h3] at h; cases h
      · rw [if_neg h3] at h
        by_cases h4 : r.at_ ∈ l.map (·.at_)
        · rw [if_pos h4] at h; cases h
        · exact ⟨h1, by omega, by omega, by omega, by omega, by omega, h4⟩
structure ValidL (n F Z : Int) (l : List Rec) : Prop where
  len : (l.length : Int) ≤ mostN Z
  rec_ : ∀ k, (hk : k < l.length) → ¬ (F ≤ l[k].at_ ∧ l[k].at_ < F + Z) ∧ 0 ≤ l[k].at_ ∧ l[k].at_ < n ∧ 1 ≤ l[k].kind ∧ l[k].kind ≤ 255 ∧ l[k].data.size ≤ 96 ∧ l[k].at_ ∉ (l.take k).map (·.at_)
theorem validL {n F Z : Int} {l : List Rec} (h : validE n F Z l = 0) : ValidL n F Z l := by
  unfold validE at h
  by_cases h1 : mostN Z < l.length
  · rw [if_pos h1] at h; cases h
  · rw [if_neg h1] at h
    refine ⟨by omega, fun k hk => ?_⟩
    have h2 := validTo_all h k hk
    have e : l.getD k default = l[k] := by rw [List.getD_eq_getElem?_getD, List.getElem?_eq_getElem hk]; rfl
    rw [e] at h2
    exact recE_zero' h2
theorem nodup_of_take {α : Type} {l : List α} (h : ∀ k, (hk : k < l.length) → l[k] ∉ l.take k) : l.Nodup := by
  rw [List.nodup_iff_pairwise_ne] 
  rw [List.pairwise_iff_getElem]
  intro i j hi hj hij e
  apply h j hj
  rw [← e]
  exact List.mem_take_iff_getElem.2 ⟨i, by omega, rfl⟩
theorem ValidL.nodup {n F Z : Int} {l : List Rec} (h : ValidL n F Z l) : (l.map (·.at_)).Nodup := nodup_of_take fun k hk => by
  have hk' : k < l.length := by simpa using hk
  have := (h.rec_ k hk').2.2.2.2.2.2
  rw [← List.map_take]
  simpa using this

/-! The frames of the journal. -/
theorem strL_str {l : List Int} (h : Bytes l) : strL (strOfNums l) = l := by
  unfold strL strOfNums
  simp only [List.map_map]
  conv => rhs; rw [← List.map_id l]
  apply List.map_congr_left
  intro x hx
  have := h x hx
  simp only [Function.comp, UInt8.toNat_ofNat', id]
  omega
theorem strL_app (a b : ByteArray) : strL ⟨a.data ++ b.data⟩ = strL a ++ strL b := by unfold strL; simp
theorem bits_at : ∀ a : Fin 257, bits .or .i64 ((a.val : Int) % 256) ((a.val : Int) / 256 % 256 * 256) = a.val := by decide +kernel
theorem logS_str {r : Rec} (_ha : 0 ≤ r.at_ ∧ r.at_ < 257) (hk : 0 ≤ r.kind ∧ r.kind < 256) : strL (logS r) = [r.at_ % 256, r.at_ / 256 % 256, r.kind] ++ strL r.data := by
  unfold logS
  have e1 : strL (⟨(shortS r.at_).data ++ (bstr [r.kind % 256]).data ++ r.data.data⟩ : ByteArray) = strL ⟨(shortS r.at_).data ++ (bstr [r.kind % 256]).data⟩ ++ strL r.data := strL_app ⟨(shortS r.at_).data ++ (bstr [r.kind % 256]).data⟩ r.data
  rw [e1, strL_app]
  have e2 : strL (shortS r.at_) = [r.at_ % 256, r.at_ / 256 % 256] := strL_str (fun x hx => by
    simp only [List.mem_cons, List.mem_nil_iff, or_false] at hx
    rcases hx with rfl | rfl <;> omega)
  have e3 : strL (bstr [r.kind % 256]) = [r.kind % 256] := strL_str (fun x hx => by
    simp only [List.mem_cons, List.mem_nil_iff, or_false] at hx
    rcases hx with rfl; omega)
  rw [e2, e3, Int.emod_eq_of_lt hk.1 hk.2]
  rfl
theorem logS_size {r : Rec} : (logS r).size = 3 + r.data.size := by
  unfold logS shortS bstr
  show ((strOfNums [r.at_ % 256, r.at_ / 256 % 256]).data ++ (strOfNums [r.kind % 256]).data ++ r.data.data).size = _
  rw [Array.size_append, Array.size_append]
  show (strOfNums [r.at_ % 256, r.at_ / 256 % 256]).size + (strOfNums [r.kind % 256]).size + r.data.size = _
  rw [strOfNums_size, strOfNums_size]; simp
theorem recOf_log {r : Rec} {q : Int} (ha : 0 ≤ r.at_ ∧ r.at_ < 257) (hk : 0 ≤ r.kind ∧ r.kind < 256) (hd : r.data.size ≤ 96) : recOf ⟨2, q, logS r⟩ = r := by
  unfold recOf
  rw [if_neg (by simp only [logS_size]; omega)]
  simp only [logS_str ha hk]
  have e1 : bits .or .i64 (([r.at_ % 256, r.at_ / 256 % 256, r.kind] ++ strL r.data).getD 0 0) (([r.at_ % 256, r.at_ / 256 % 256, r.kind] ++ strL r.data).getD 1 0 * 256) = r.at_ := by
    show bits .or .i64 (r.at_ % 256) (r.at_ / 256 % 256 * 256) = r.at_
    have h := bits_at ⟨r.at_.toNat, by omega⟩
    simp only [Int.toNat_of_nonneg ha.1] at h
    exact h
  have e2 : ([r.at_ % 256, r.at_ / 256 % 256, r.kind] ++ strL r.data).getD 2 0 = r.kind := rfl
  have e3 : (logS r).extract 3 (logS r).size = r.data := by
    have h3 : ((shortS r.at_).data ++ (bstr [r.kind % 256]).data).size = 3 := by
      rw [Array.size_append]
      show (strOfNums _).size + (strOfNums _).size = 3
      rw [strOfNums_size, strOfNums_size]; rfl
    apply ByteArray.ext
    rw [ByteArray.data_extract]
    unfold logS
    show ((shortS r.at_).data ++ (bstr [r.kind % 256]).data ++ r.data.data).extract 3 _ = r.data.data
    rw [Array.extract_append, h3]
    have e4 : ((shortS r.at_).data ++ (bstr [r.kind % 256]).data).extract 3 (ByteArray.size ⟨(shortS r.at_).data ++ (bstr [r.kind % 256]).data ++ r.data.data⟩) = #[] := by
      apply Array.eq_empty_of_size_eq_zero
      rw [Array.size_extract, h3]; omega
    rw [e4]
    have e5 : (ByteArray.size ⟨(shortS r.at_).data ++ (bstr [r.kind % 256]).data ++ r.data.data⟩) - 3 = r.data.data.size := by
      show ((shortS r.at_).data ++ (bstr [r.kind % 256]).data ++ r.data.data).size - 3 = _
      rw [Array.size_append, h3]; omega
    rw [e5, Nat.sub_self]
    simp
  rw [e1, e2, e3]

theorem next_bds (q : Int) : 0 ≤ next q ∧ next q < 4294967296 := by unfold next; omega
theorem logL_get' {F q : Int} {l : List Rec} {k : Nat} (hk : k < l.length) : (logL F q l)[k]? = some (F + 1 + k, ⟨2, q, logS l[k]⟩) := by
  unfold logL
  rw [List.getElem?_map, List.getElem?_zipIdx, List.getElem?_eq_getElem hk]; simp
theorem logL_mem {F q : Int} {l : List Rec} {p : Int × Fr} (h : p ∈ logL F q l) : ∃ k, ∃ hk : k < l.length, p = (F + 1 + k, ⟨2, q, logS l[k]⟩) := by
  obtain ⟨k, hk, rfl⟩ := List.mem_iff_getElem.1 h
  have hk' : k < l.length := by rw [logL_length] at hk; exact hk
  refine ⟨k, hk', ?_⟩
  have := logL_get' (F := F) (q := q) hk'
  rw [List.getElem?_eq_getElem hk] at this
  exact Option.some.inj this
theorem logL_nodup (F q : Int) (l : List Rec) : ((logL F q l).map (·.1)).Nodup := by
  refine nodup_of_take fun k hk hm => ?_
  have hk' : k < l.length := by simpa [logL_length] using hk
  rw [← List.map_take] at hm
  obtain ⟨p, hp, he⟩ := List.mem_map.1 hm
  obtain ⟨i, hi, hpi⟩ := List.mem_take_iff_getElem.1 hp
  have hi2 : i < l.length := by have := hi; rw [logL_length] at this; omega
  have h1 := logL_get' (F := F) (q := q) hi2
  have h2 := logL_get' (F := F) (q := q) hk'
  rw [List.getElem?_eq_getElem (by rw [logL_length]; exact hi2), hpi] at h1
  rw [List.getElem_map] at he
  rw [List.getElem?_eq_getElem (by rw [logL_length]; exact hk')] at h2
  rw [Option.some.inj h1, Option.some.inj h2] at he
  have hik : i < k := by omega
  simp only at he
  omega

/-- The log of a transaction. -/
structure LogAt (z : DevS) (F q : Int) (l : List Rec) : Prop where
  recs : ∀ k, (hk : k < l.length) → z.ge (F + 1 + k) = 0 ∧ z.fr (F + 1 + k) = ⟨2, next q, logS l[k]⟩
  mark : z.ge (F + 1 + l.length) = 0 ∧ z.fr (F + 1 + l.length) = ⟨3, next q, shortS l.length⟩
theorem log_runs {x : DevS} {F Z q : Int} {n : Nat} {l : List Rec} (hc : checkE F Z = 0) (hF : F + Z ≤ x.stable.length) (hh : HeadAt x F q) (hv : ValidL x.stable.length F Z l) (hv0 : validE x.stable.length F Z l = 0) (h : x.Runs (n + 1 + l.length)) :
    ∃ z, x.log F Z l = (0, z) ∧ z.Runs n ∧ z.stable.length = x.stable.length ∧ HeadAt z F q ∧ LogAt z F q l ∧ (∀ b : Int, 0 ≤ b → b < x.stable.length → (b < F ∨ F + Z ≤ b) → sameFr x z b) := by
  have hz := checkE_zero hc
  have hm : (l.length : Int) ≤ Z - 2 := by have := hv.len; unfold mostN at this; omega
  have hnx := next_bds q
  obtain ⟨i1, i2, i3, i4, i5⟩ := puts_runs (logL_nodup F (next q) l) l.length (x := x) (n := n + 1) (fun p hp => by
    obtain ⟨k, hk, rfl⟩ := logL_mem hp
    have h9 := hv.rec_ k hk
    refine ⟨by show 0 ≤ F + 1 + (k : Int); omega, by show F + 1 + (k : Int) < _; omega, by show (1 : Int) ≤ 2; omega, by show (2 : Int) ≤ 255; omega, ?_, hnx.1, hnx.2⟩
    show (logS l[k]).size ≤ 112
    rw [logS_size]; omega) (by rw [logL_length]; exact Nat.le_refl _) h
  have htk : (logL F (next q) l).take l.length = logL F (next q) l := List.take_of_length_le (by rw [logL_length]; exact Nat.le_refl _)
  rw [htk] at i4 i5
  have hsz2 : (shortS l.length).size ≤ 112 := by unfold shortS bstr; rw [strOfNums_size]; simp
  obtain ⟨j1, j2⟩ := put_runs i2 (a := F + 1 + l.length) (kind := 3) (seq := next q) (s := shortS l.length) (by rw [i3]; omega) (by omega) hsz2 hnx
  obtain ⟨f1, f2, f3⟩ := flush_same j2.runs
  have hnin : ∀ b : Int, (b < F + 1 ∨ F + 1 + l.length ≤ b) → b ∉ (logL F (next q) l).map (·.1) := fun b hb hm => by
    obtain ⟨p, hp, he⟩ := List.mem_map.1 hm
    obtain ⟨k, hk, rfl⟩ := logL_mem hp
    simp only at he; omega
  have hall : ∀ b : Int, 0 ≤ b → b < x.stable.length → b ≠ F + 1 + l.length → sameFr (x.puts (logL F (next q) l) l.length).2 ((x.puts (logL F (next q) l) l.length).2.put (F + 1 + l.length) 3 (next q) (shortS l.length)).2.flushed b := fun b h1 h2 h3 =>
    (j2.old b h1 (by rw [i3]; exact h2) h3).trans (f3 b h1 (by rw [j2.size, i3]; exact h2))
  refine ⟨((x.puts (logL F (next q) l) l.length).2.put (F + 1 + l.length) 3 (next q) (shortS l.length)).2.flushed, ?_, f1, f2.trans (j2.size.trans i3), ?_, ⟨fun k hk => ?_, ?_⟩, fun b h1 h2 h3 => ?_⟩
  · unfold DevS.log
    rw [hh.head hc]
    simp only
    rw [if_neg (by simp), if_neg (by simpa using hv0), if_neg (by simpa using i1)]
    rw [show (x.puts (logL F (next q) l) l.length).2.put (F + 1 + l.length) 3 (next q) (shortS l.length) = (0, ((x.puts (logL F (next q) l) l.length).2.put (F + 1 + l.length) 3 (next q) (shortS l.length)).2) from Prod.ext j1 rfl]
    exact done_runs j2.runs
  · exact (hh.same (i5 F (by omega) (by omega) (hnin F (by omega)))).same (hall F (by omega) (by omega) (by omega))
  · have h4 := i4 (F + 1 + k, ⟨2, next q, logS l[k]⟩) (List.mem_of_getElem? (logL_get' hk))
    have h5 := hall (F + 1 + k) (by omega) (by omega) (by omega)
    exact ⟨h5.1.trans h4.1, h5.2.trans h4.2⟩
  · have h5 := f3 (F + 1 + l.length) (by omega) (by rw [j2.size, i3]; omega)
    exact ⟨h5.1.trans j2.new.1, h5.2.trans j2.new.2⟩
  · exact (i5 b h1 h2 (hnin b (by omega))).trans (hall b h1 h2 (by omega))

end Go.Proofs.YtljmdcegcckblaaGreatDoor
/- Layers 9 and 10 in plain words: Commit on a device that has power; a device that was formatted; Begin on it. No program in sight. -/
namespace Go.Proofs.YtljmdcegcckblaaGreatDoor
open Go.RowKit Go.Maps

theorem lookTo_log {z : DevS} {F Z q : Int} {l : List Rec} (_hF : 0 ≤ F) (hs : z.stable.length ≤ 256) (hv : ValidL z.stable.length F Z l) (hl : LogAt z F q l) : ∀ k, k ≤ l.length → z.lookTo F Z q k = ⟨false, 0, l.take k, false⟩ := by
  intro k
  induction k with
  | zero => intro _; rfl
  | succ k ih =>
    intro hk
    have ih := ih (by omega)
    have hkl : k < l.length := by omega
    obtain ⟨g, f⟩ := hl.recs k hkl
    have h9 := hv.rec_ k hkl
    have hro := recOf_log (r := l[k]) (q := next q) ⟨h9.2.1, by omega⟩ (by omega) h9.2.2.2.2.2.1
    show (if (z.lookTo F Z q k).stop then z.lookTo F Z q k else _) = _
    rw [ih, g, f, hro]
    have h1 : recIs z.stable.length F Z ⟨2, next q, logS l[k]⟩ = true := by
      unfold recIs
      rw [if_neg (by simp only [logS_size]; omega), hro]
      simp only [insideB, Bool.and_eq_true, decide_eq_true_eq, Bool.not_eq_true', decide_eq_false_iff_not]
      exact ⟨⟨h9.2.2.1, h9.1⟩, by omega⟩
    have h2 : decide (l[k].at_ ∈ (l.take k).map (·.at_)) = false := decide_eq_false h9.2.2.2.2.2.2
    have h3 : decide (((l.take k).length : Int) = mostN Z) = false := decide_eq_false (by have := hv.len; rw [List.length_take]; omega)
    rw [h1]
    simp only [h2, h3]
    rw [if_neg (by simp), if_neg (by simp [brokenB]), if_neg (by simp), List.take_succ_eq_append_getElem hkl]
theorem lookTo_end {z : DevS} {F Z q : Int} {l : List Rec} (hF : 0 ≤ F) (hs : z.stable.length ≤ 256) (hv : ValidL z.stable.length F Z l) (hl : LogAt z F q l) : ∀ k, l.length < k → z.lookTo F Z q k = ⟨true, 0, l, true⟩ := by
  intro k hk
  induction k with
  | zero => omega
  | succ k ih =>
    by_cases e : l.length < k
    · show (if (z.lookTo F Z q k).stop then z.lookTo F Z q k else _) = _
      rw [ih e]; rfl
    · obtain rfl : k = l.length := by omega
      obtain ⟨g, f⟩ := hl.mark
      show (if (z.lookTo F Z q l.length).stop then z.lookTo F Z q l.length else _) = _
      rw [lookTo_log hF hs hv hl _ (Nat.le_refl _), g, f, List.take_length]
      have h1 : recIs z.stable.length F Z ⟨3, next q, shortS l.length⟩ = false := by
        unfold recIs; rw [if_pos (by left; simp)]
      rw [h1]
      simp [brokenB]
theorem look_log {z : DevS} {F Z q : Int} {l : List Rec} (hc : checkE F Z = 0) (hs : z.stable.length ≤ 256) (hh : HeadAt z F q) (hv : ValidL z.stable.length F Z l) (hl : LogAt z F q l) : z.look F Z = (0, q, l, true) := by
  have hz := checkE_zero hc
  have h1 := lookTo_end (by omega) hs hv hl (Z - 1).toNat (by have := hv.len; unfold mostN at this; omega)
  unfold DevS.look
  rw [hh.head hc]
  simp only
  rw [if_neg (by simp), h1, if_neg (by simp)]
theorem appL_nodup {q : Int} {l : List Rec} (h : (l.map (·.at_)).Nodup) : ((appL q l).map (·.1)).Nodup := by
  have e : (appL q l).map (·.1) = l.map (·.at_) := by unfold appL; rw [List.map_map]; rfl
  rw [e]; exact h
theorem apply_runs {z : DevS} {F Z q : Int} {n : Nat} {l : List Rec} (hc : checkE F Z = 0) (hF : F + Z ≤ z.stable.length) (hh : HeadAt z F q) (hv : ValidL z.stable.length F Z l) (hl : LogAt z F q l) (h : z.Runs (n + l.length)) :
    ∃ y, (z.apply F Z).2 = (0, y) ∧ y.Runs n ∧ y.stable.length = z.stable.length ∧ HeadAt y F q ∧ (∀ r ∈ l, y.ge r.at_ = 0 ∧ y.fr r.at_ = ⟨r.kind, next q, r.data⟩) ∧ (∀ b : Int, 0 ≤ b → b < z.stable.length → b ∉ l.map (·.at_) → sameFr z y b) := by
  have hz := checkE_zero hc
  have hnx := next_bds q
  have hr : ∀ r ∈ l, ¬ (F ≤ r.at_ ∧ r.at_ < F + Z) ∧ 0 ≤ r.at_ ∧ r.at_ < z.stable.length ∧ 1 ≤ r.kind ∧ r.kind ≤ 255 ∧ r.data.size ≤ 96 := fun r hm => by
    obtain ⟨k, hk, rfl⟩ := List.mem_iff_getElem.1 hm
    have h9 := hv.rec_ k hk
    exact ⟨h9.1, h9.2.1, h9.2.2.1, h9.2.2.2.1, h9.2.2.2.2.1, h9.2.2.2.2.2.1⟩
  have hlen : (appL (next q) l).length = l.length := by unfold appL; simp
  obtain ⟨i1, i2, i3, i4, i5⟩ := puts_runs (appL_nodup (q := next q) hv.nodup) l.length (x := z) (n := n) (fun p hp => by
    unfold appL at hp
    obtain ⟨r, hm, rfl⟩ := List.mem_map.1 hp
    have h9 := hr r hm
    exact ⟨h9.2.1, h9.2.2.1, h9.2.2.2.1, h9.2.2.2.2.1, by show r.data.size ≤ 112; omega, hnx.1, hnx.2⟩) (by omega) h
  have htk : (appL (next q) l).take l.length = appL (next q) l := List.take_of_length_le (by omega)
  rw [htk] at i4 i5
  have hmap : (appL (next q) l).map (·.1) = l.map (·.at_) := by unfold appL; rw [List.map_map]; rfl
  obtain ⟨f1, f2, f3⟩ := flush_same i2
  have e : z.applies q l = (0, (z.puts (appL (next q) l) l.length).2.flushed) := by
    unfold DevS.applies
    rw [show z.puts (appL (next q) l) l.length = (0, (z.puts (appL (next q) l) l.length).2) from Prod.ext i1 rfl]
    exact done_runs i2
  have hnF : F ∉ l.map (·.at_) := fun hm => by
    obtain ⟨r, hm, he⟩ := List.mem_map.1 hm
    have := (hr r hm).1
    omega
  refine ⟨(z.puts (appL (next q) l) l.length).2.flushed, ?_, f1, f2.trans i3, ?_, fun r hm => ?_, fun b h1 h2 h3 => ?_⟩
  · unfold DevS.apply
    rw [look_log hc h.ok.hi hh hv hl]
    rw [if_neg (by simp), if_neg (by simp), e]
    rw [if_neg (by simp)]
  · exact (hh.same (i5 F (by omega) (by omega) (by rw [hmap]; exact hnF))).same (f3 F (by omega) (by rw [i3]; omega))
  · have h4 := i4 (r.at_, ⟨r.kind, next q, r.data⟩) (List.mem_map.2 ⟨r, hm, rfl⟩)
    have h5 := f3 r.at_ (hr r hm).2.1 (by rw [i3]; exact (hr r hm).2.2.1)
    exact ⟨h5.1.trans h4.1, h5.2.trans h4.2⟩
  · exact (i5 b h1 h2 (by rw [hmap]; exact h3)).trans (f3 b h1 (by rw [i3]; exact h2))
/-- Commit on a device that has power. -/
theorem commit_runs {x : DevS} {F Z q : Int} {n : Nat} {l : List Rec} (hc : checkE F Z = 0) (hF : F + Z ≤ x.stable.length) (hh : HeadAt x F q) (hv0 : validE x.stable.length F Z l = 0) (h : x.Runs (n + 1 + l.length + 1 + l.length)) :
    ∃ y, x.commit F Z l = (0, y) ∧ y.Runs n ∧ y.stable.length = x.stable.length ∧ HeadAt y F (next q) ∧ (∀ r ∈ l, y.ge r.at_ = 0 ∧ y.fr r.at_ = ⟨r.kind, next q, r.data⟩) ∧ (∀ b : Int, 0 ≤ b → b < x.stable.length → (b < F ∨ F + Z ≤ b) → b ∉ l.map (·.at_) → sameFr x y b) := by
  have hz := checkE_zero hc
  have hv := validL hv0
  have hnx := next_bds q
  obtain ⟨z, ez, z1, z2, z3, z4, z5⟩ := log_runs (n := n + 1 + l.length) hc hF hh hv hv0 h
  obtain ⟨y, ey, y1, y2, y3, y4, y5⟩ := apply_runs (n := n + 1) hc (by rw [z2]; exact hF) z3 (by rw [z2]; exact hv) z4 z1
  obtain ⟨j1, j2⟩ := put_runs y1 (a := F) (kind := 1) (seq := next q) (s := ⟨#[]⟩) (by rw [y2, z2]; omega) (by omega) (Nat.zero_le _) hnx
  obtain ⟨f1, f2, f3⟩ := flush_same j2.runs
  have hsz : y.stable.length = x.stable.length := y2.trans z2
  have hall : ∀ b : Int, 0 ≤ b → b < x.stable.length → b ≠ F → sameFr y (y.put F 1 (next q) ⟨#[]⟩).2.flushed b := fun b h1 h2 h3 => (j2.old b h1 (by rw [hsz]; exact h2) h3).trans (f3 b h1 (by rw [j2.size, hsz]; exact h2))
  have hr : ∀ r ∈ l, 0 ≤ r.at_ ∧ r.at_ < x.stable.length ∧ r.at_ ≠ F := fun r hm => by
    obtain ⟨k, hk, rfl⟩ := List.mem_iff_getElem.1 hm
    have h9 := hv.rec_ k hk
    exact ⟨h9.2.1, h9.2.2.1, fun e => h9.1 (by omega)⟩
  refine ⟨(y.put F 1 (next q) ⟨#[]⟩).2.flushed, ?_, f1, f2.trans (j2.size.trans hsz), ?_, fun r hm => ?_, fun b h1 h2 h3 h4 => ?_⟩
  · unfold DevS.commit
    rw [ez]
    simp only
    rw [if_neg (by simp), ey]
    simp only
    rw [if_neg (by simp)]
    unfold DevS.clear
    rw [y3.head hc]
    simp only
    rw [if_neg (by simp), show y.put F 1 (next q) ⟨#[]⟩ = (0, (y.put F 1 (next q) ⟨#[]⟩).2) from Prod.ext j1 rfl]
    exact done_runs j2.runs
  · have h5 := f3 F (by omega) (by rw [j2.size, hsz]; omega)
    exact ⟨h5.1.trans j2.new.1, h5.2.trans j2.new.2⟩
  · have h5 := hall r.at_ (hr r hm).1 (hr r hm).2.1 (hr r hm).2.2
    have h6 := y4 r hm
    exact ⟨h5.1.trans h6.1, h5.2.trans h6.2⟩
  · exact ((z5 b h1 h2 h3).trans (y5 b h1 (by rw [z2]; exact h2) h4)).trans (hall b h1 h2 (by omega))

/-! A device that was formatted. -/
theorem newDev_runs {n : Nat} (hn : 64 ≤ n ∧ n ≤ 256) (N : Nat) (hN : N ≤ 1000000000000) : (newDev n).Runs N := ⟨newDev_ok hn, rfl, rfl, by show (0 : Int) + N ≤ _; omega⟩
theorem freeRec_valid {s j i : Int} (h : rgE s j i = 0) : validE s 1 j [freeRec s j i] = 0 := by
  have hb := rg_bds h
  have hr : recE s 1 j [] (freeRec s j i) = 0 := by
    unfold recE freeRec
    rw [if_neg (by show ¬ (1 ≤ 1 + j ∧ 1 + j < 1 + j); omega), if_neg (by show ¬ (1 + j < 0 ∨ s ≤ 1 + j ∨ (5 : Int) < 1 ∨ 255 < (5 : Int)); omega), if_neg (by simp only [mapS_size]; omega), if_neg (by simp)]
  unfold validE
  rw [if_neg (by show ¬ mostN j < ((1 : Nat) : Int); unfold mostN; omega)]
  show (if validTo s 1 j [freeRec s j i] 0 ≠ 0 then _ else recE s 1 j [] (freeRec s j i)) = 0
  rw [if_neg (by show ¬ ((0 : Int) ≠ 0); simp), hr]

/-- The device behind New and Format. -/
structure Fresh (y : DevS) (s j i : Int) (N : Nat) : Prop where
  runs : y.Runs N
  size : (y.stable.length : Int) = s
  head : HeadAt y 1 1
  map_ : y.ge (1 + j) = 0 ∧ y.fr (1 + j) = ⟨5, 1, mapS (List.replicate (rgB s j i).toNat false)⟩
  blank : ∀ a : Int, (a = 0 ∨ 2 + j ≤ a) → a < s → y.ge a = 70
theorem format_fresh {s j i : Int} (h : rgE s j i = 0) (N : Nat) (hN : N ≤ 100000000000) : ∃ y, (newDev s.toNat).tfmt s j i = (0, y) ∧ Fresh y s j i N := by
  have hb := rg_bds h
  have hsz : ((newDev s.toNat).stable.length : Int) = s := by show ((List.replicate s.toNat zsec).length : Int) = s; rw [List.length_replicate]; omega
  have hck : checkE 1 j = 0 := by unfold checkE; rw [if_neg (by omega)]
  obtain ⟨x1, e1, r1, s1, h1, -, o1⟩ := jfmt_runs (x := newDev s.toNat) (F := 1) (Z := j) (n := N + 1 + 1 + 1 + 1) hck (by rw [hsz]; omega) (newDev_runs (by omega) _ (by omega))
  have s1' : (x1.stable.length : Int) = s := by rw [s1]; exact hsz
  obtain ⟨y, e2, r2, s2, h2, w2, o2⟩ := commit_runs (x := x1) (F := 1) (Z := j) (q := 0) (n := N) (l := [freeRec s j i]) hck (by rw [s1']; omega) h1 (by rw [s1']; exact freeRec_valid h) r1
  refine ⟨y, ?_, ⟨r2, by rw [s2]; exact s1', h2, w2 (freeRec s j i) (by simp), fun a ha1 ha2 => ?_⟩⟩
  · unfold DevS.tfmt
    have hf : findE (newDev s.toNat).stable.length s j i = 0 := by
      unfold findE; rw [if_neg (by simpa using h), if_neg (by omega), if_neg (by rw [hsz]; simp)]
    rw [if_neg (by simpa using hf), e1]
    simp only
    rw [if_neg (by simp), e2]
  · have hg : (newDev s.toNat).ge a = 70 := newDev_ge (by omega) (by omega)
    have h3 := o1 a (by omega) (by rw [hsz]; exact ha2) (by omega)
    have h4 := o2 a (by omega) (by rw [s1']; exact ha2) (by omega) (by
      intro hm
      simp only [List.map_cons, List.map_nil, List.mem_cons, List.mem_nil_iff, or_false] at hm
      have : a = 1 + j := hm
      omega)
    exact h4.1.trans (h3.1.trans hg)
/-- A transaction that has begun on it. -/
def freeTx (s j i : Int) : TxS := ⟨s, j, i, List.replicate (rgB s j i).toNat false, List.replicate (rgB s j i).toNat false, [], false, false, false⟩
theorem begin_fresh {y : DevS} {s j i : Int} {N : Nat} (h : rgE s j i = 0) (hy : Fresh y s j i N) : (∀ E, y.beginE s j i E ↔ E = 0) ∧ y.begins s j i = freeTx s j i ∧ (y.fr (1 + j)).data.size ≤ 1000 := by
  have hb := rg_bds h
  have hB : rgB s j i = s - (2 + j + i) := (rg_ok h).2.2.2.2
  have hl : (List.replicate (rgB s j i).toNat false).length = (rgB s j i).toNat := List.length_replicate ..
  have hst : strL (mapS (List.replicate (rgB s j i).toNat false)) = encL (List.replicate (rgB s j i).toNat false) (List.replicate (rgB s j i).toNat false).length := strL_str (encL_bytes _ _)
  have hde := dec_enc (us := List.replicate (rgB s j i).toNat false) (by rw [hl]; omega)
  rw [← hst, hl] at hde
  have hmo : mapOk (y.fr (1 + j)).data (rgB s j i).toNat := by
    rw [hy.map_.2]
    exact ⟨by rw [hst, encL_length], hde.2⟩
  have hf : findE y.stable.length s j i = 0 := by
    unfold findE; rw [if_neg (by simpa using h), if_neg (by have := hy.size; omega), if_neg (by have := hy.size; omega)]
  refine ⟨fun E => ⟨fun hE => ?_, fun hE => ?_⟩, ?_, ?_⟩
  · rcases hE with ⟨h1, -⟩ | ⟨-, h1, -⟩ | ⟨-, -, h1, -⟩ | ⟨-, -, -, -, h1⟩
    · exact absurd hf h1
    · exact absurd hy.map_.1 h1
    · exact absurd ⟨hmo, by rw [hy.map_.2]⟩ h1
    · exact h1
  · exact .inr (.inr (.inr ⟨hf, hy.map_.1, hmo, by rw [hy.map_.2], hE⟩))
  · unfold DevS.begins freeTx
    rw [hy.map_.2]
    simp only
    rw [hde.1]
  · rw [hy.map_.2]
    show (mapS _).size ≤ 1000
    rw [mapS_size]; omega

end Go.Proofs.YtljmdcegcckblaaGreatDoor
