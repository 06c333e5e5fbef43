/- Free of what Alloc took, and Take of it; runs: plain lists. -/
import Derived.Test.YtenfheheepkfbaaT0
import Derived.Test.YtenfheheepkfbaaF1
import Derived.Test.YtenfheheepkfbaaR9
namespace Go.Proofs.Ytenfheheepkfbaa
open Go.RowKit

theorem frees_nodup_aux {us : List Bool} {near : Nat} (hn : near < us.length) : ∀ k, k ≤ us.length → ∀ p, (hp : p < (goRound us near k).length) → (goRound us near k)[p] ∉ (goRound us near k).take p := by
  intro k
  induction k with
  | zero => intro _ p hp; rw [goRound_0] at hp; simp at hp
  | succ k ih =>
    intro hk p hp
    have ih := ih (by omega)
    have hm : (near + k) % us.length < us.length := Nat.mod_lt _ (by omega)
    cases hu : us[(near + k) % us.length]
    · have hh := goRound_hit (us := us) (near := near) (k := k) (by rw [List.getElem?_eq_getElem hm, hu])
      have hcast : ((near : Int) + (k : Int)) % (us.length : Int) = (((near + k) % us.length : Nat) : Int) := by simp
      simp only [hh, List.length_append, List.length_singleton] at hp ⊢
      by_cases hp2 : p < (goRound us near k).length
      · rw [List.getElem_append_left hp2, List.take_append_of_le_length (by omega)]
        exact ih p hp2
      · have : p = (goRound us near k).length := by omega
        subst this
        rw [List.getElem_append_right (by omega), List.take_append_of_le_length (by omega), List.take_length]
        simp only [Nat.sub_self, List.getElem_singleton]
        rw [hcast]
        intro hmem
        obtain ⟨i, hi, _, he⟩ := goRound_mem hmem
        have : (near + k) % us.length = (near + i) % us.length := by exact_mod_cast he
        exact step_inj hi (by omega) hn this.symm
    · have hh := goRound_miss (us := us) (near := near) (k := k) (by rw [List.getElem?_eq_getElem hm, hu])
      simp only [hh] at hp ⊢
      exact ih p hp

theorem allocd_LsE {us : List Bool} {f mn : Nat} (hf : f < us.length) : LsE us.length (allocd us f mn) (allocd us f mn).length = 0 := by
  refine LsE_of (fun k hk => ?_) (Nat.le_refl _)
  have hin := allocd_in (us := us) (near := f) (many := mn) (by omega) _ (List.getElem_mem hk)
  refine ⟨hin.1, hin.2, ?_⟩
  have hk2 : k < (frees us f).length := by unfold allocd at hk; rw [List.length_take] at hk; omega
  have h := frees_nodup_aux hf us.length (Nat.le_refl _) k hk2
  have hkm : k < mn := by unfold allocd at hk; rw [List.length_take] at hk; omega
  have hval : (allocd us f mn)[k] = (frees us f)[k] := by
    have : (allocd us f mn)[k]? = (frees us f)[k]? := by unfold allocd; rw [List.getElem?_take, if_pos hkm]
    rw [List.getElem?_eq_getElem hk, List.getElem?_eq_getElem hk2] at this
    exact Option.some.inj this
  have htk : (allocd us f mn).take k = (frees us f).take k := by unfold allocd; rw [List.take_take, Nat.min_eq_left (by omega)]
  rw [hval, htk]
  exact h
theorem allocd_free {us : List Bool} {f mn : Nat} {b : Int} (h : b ∈ allocd us f mn) : us.getD b.toNat false = false := by
  obtain ⟨i, _, hu, rfl⟩ := goRound_mem (List.mem_of_mem_take h)
  rw [List.getD_eq_getElem?_getD, Int.toNat_natCast, hu]; rfl
theorem allocd_nonneg {us : List Bool} {f mn : Nat} (hf : f < us.length) : ∀ x ∈ allocd us f mn, 0 ≤ x := fun x hx => (allocd_in (by omega) x hx).1

theorem undo_free {s j i : Int} {us : List Bool} {f mn : Nat} (hE : CkE s j i us.length = 0) (hf : f < us.length) :
    TnE s j i (setAll us (allocd us f mn) true) (allocd us f mn) false 4 = 0 ∧ setAll (setAll us (allocd us f mn) true) (allocd us f mn) false = us := by
  constructor
  · unfold TnE
    rw [setAll_length, if_pos hE, if_pos (allocd_LsE hf), if_neg]
    intro h
    obtain ⟨b, hb, he⟩ := List.any_eq_true.1 h
    have hin := allocd_in (us := us) (near := f) (many := mn) (by omega) b hb
    rw [List.getD_eq_getElem?_getD, setAll_val _ _ _ b.toNat (by omega) (allocd_nonneg hf), if_pos (by rw [Int.toNat_of_nonneg hin.1]; exact hb)] at he
    simp at he
  · apply List.ext_getElem?
    intro b
    by_cases hb : b < us.length
    · rw [setAll_val _ _ _ b (by rw [setAll_length]; exact hb) (allocd_nonneg hf)]
      have h1 := setAll_val us (allocd us f mn) true b hb (allocd_nonneg hf)
      have h2 := (List.getElem_eq_iff (by rw [setAll_length]; exact hb)).mpr h1
      rw [h2, List.getElem?_eq_getElem hb]
      by_cases hm : ((b : Nat) : Int) ∈ allocd us f mn
      · have := allocd_free hm
        rw [List.getD_eq_getElem?_getD, Int.toNat_natCast, List.getElem?_eq_getElem hb] at this
        rw [if_pos hm]
        simpa using this.symm
      · rw [if_neg hm, if_neg hm]
    · rw [List.getElem?_eq_none (by rw [setAll_length, setAll_length]; omega), List.getElem?_eq_none (by omega)]
theorem undo_take {s j i : Int} {us : List Bool} {f mn : Nat} (hE : CkE s j i us.length = 0) (hf : f < us.length) : TnE s j i us (allocd us f mn) true 9 = 0 := by
  unfold TnE
  rw [if_pos hE, if_pos (allocd_LsE hf), if_neg]
  intro h
  obtain ⟨b, hb, he⟩ := List.any_eq_true.1 h
  rw [allocd_free hb] at he
  simp at he

/-- Sum and end behind the first k runs. -/
def scan (l : List Int) : Nat → Int × Int
  | 0 => (0, -1)
  | k + 1 => ((scan l k).1 + l.getD (k * 2 + 1) 0, l.getD (k * 2) 0 + l.getD (k * 2 + 1) 0)
theorem scan_congr {l l' : List Int} {k : Nat} (h : ∀ i, i < k * 2 → l.getD i 0 = l'.getD i 0) : scan l k = scan l' k := by
  induction k with
  | zero => rfl
  | succ k ih =>
    show (_, _) = (_, _)
    rw [ih (fun i hi => h i (by omega)), h (k * 2) (by omega), h (k * 2 + 1) (by omega)]
/-- Runs of which c blocks have been met, up to block K. -/
def ScanOk (l : List Int) (e : Int) (c K : Nat) : Prop :=
  ∃ m, l.length = m * 2 ∧ (∀ k, k < m → (scan l k).2 < l.getD (k * 2) 0 ∧ 0 ≤ l.getD (k * 2) 0 ∧ 1 ≤ l.getD (k * 2 + 1) 0 ∧ l.getD (k * 2) 0 + l.getD (k * 2 + 1) 0 ≤ K) ∧ scan l m = ((c : Int), e) ∧ e ≤ K ∧ -1 ≤ e ∧ (e = -1 ∨ 0 < m)
theorem ScanOk.step {l : List Int} {e : Int} {c K : Nat} (h : ScanOk l e c K) : ScanOk (runStep (l, e) (K : Int)).1 ((K : Int) + 1) (c + 1) (K + 1) := by
  obtain ⟨m, hl, hall, hs, he, he1, hem⟩ := h
  by_cases hK : (K : Int) = e
  · subst hK
    have hm : 0 < m := by omega
    obtain ⟨p, rfl⟩ : ∃ p, m = p + 1 := ⟨m - 1, by omega⟩
    have hz : l[p * 2 + 1]? = some (l.getD (p * 2 + 1) 0) := by
      rw [List.getD_eq_getElem?_getD, List.getElem?_eq_getElem (by omega)]; rfl
    rw [runStep_old hl hz]
    simp only
    have hne : ∀ i, i ≠ p * 2 + 1 → (l.set (p * 2 + 1) (l.getD (p * 2 + 1) 0 + 1)).getD i 0 = l.getD i 0 := fun i hi => by
      simp only [List.getD_eq_getElem?_getD]; rw [List.getElem?_set_ne (fun h => hi h.symm)]
    have heq : (l.set (p * 2 + 1) (l.getD (p * 2 + 1) 0 + 1)).getD (p * 2 + 1) 0 = l.getD (p * 2 + 1) 0 + 1 := by
      rw [List.getD_eq_getElem?_getD, List.getElem?_set_self (by omega)]; rfl
    have hsc : ∀ k, k ≤ p → scan (l.set (p * 2 + 1) (l.getD (p * 2 + 1) 0 + 1)) k = scan l k := fun k hk => scan_congr fun i hi => hne i (by omega)
    have hs' : (scan l p).1 + l.getD (p * 2 + 1) 0 = (c : Int) ∧ l.getD (p * 2) 0 + l.getD (p * 2 + 1) 0 = (K : Int) := by
      have := hs
      unfold scan at this
      exact ⟨congrArg Prod.fst this, congrArg Prod.snd this⟩
    refine ⟨p + 1, by simpa using hl, fun k hk => ?_, ?_, by omega, by omega, .inr (by omega)⟩
    · have := hall k hk
      rw [hsc k (by omega), hne (k * 2) (by omega)]
      by_cases hkp : k = p
      · subst hkp
        rw [heq]
        exact ⟨this.1, this.2.1, by omega, by push_cast; omega⟩
      · rw [hne (k * 2 + 1) (by omega)]
        exact ⟨this.1, this.2.1, this.2.2.1, by push_cast; omega⟩
    · unfold scan
      rw [hsc p (Nat.le_refl _), heq, hne (p * 2) (by omega)]
      exact Prod.ext (by show _ + (_ + 1) = _; push_cast; omega) (by show _ + (_ + 1) = _; omega)
  · rw [runStep_new hl hK]
    simp only
    have hset : (l ++ [(K : Int), 0]).set (m * 2 + 1) (0 + 1) = l ++ [(K : Int), 1] := by
      rw [List.set_append_right _ _ (by omega)]
      have : m * 2 + 1 - l.length = 1 := by omega
      rw [this]; rfl
    rw [hset]
    have hlo : ∀ i, i < m * 2 → (l ++ [(K : Int), 1]).getD i 0 = l.getD i 0 := fun i hi => by
      simp only [List.getD_eq_getElem?_getD]; rw [List.getElem?_append_left (by omega)]
    have h0 : (l ++ [(K : Int), 1]).getD (m * 2) 0 = K := by
      rw [List.getD_eq_getElem?_getD, List.getElem?_append_right (by omega)]
      have : m * 2 - l.length = 0 := by omega
      rw [this]; rfl
    have h1 : (l ++ [(K : Int), 1]).getD (m * 2 + 1) 0 = 1 := by
      rw [List.getD_eq_getElem?_getD, List.getElem?_append_right (by omega)]
      have : m * 2 + 1 - l.length = 1 := by omega
      rw [this]; rfl
    have hsc : ∀ k, k ≤ m → scan (l ++ [(K : Int), 1]) k = scan l k := fun k hk => scan_congr fun i hi => hlo i (by omega)
    refine ⟨m + 1, by simp [hl]; omega, fun k hk => ?_, ?_, by omega, by omega, .inr (by omega)⟩
    · by_cases hkm : k = m
      · subst hkm
        rw [hsc k (Nat.le_refl _), h0, h1, hs]
        exact ⟨by show e < _; omega, by omega, by omega, by push_cast; omega⟩
      · have := hall k (by omega)
        rw [hsc k (by omega), hlo (k * 2) (by omega), hlo (k * 2 + 1) (by omega)]
        exact ⟨this.1, this.2.1, this.2.2.1, by push_cast; omega⟩
    · unfold scan
      rw [hsc m (Nat.le_refl _), h0, h1, hs]
      exact Prod.ext (by show (c : Int) + 1 = _; push_cast; rfl) rfl
theorem ScanOk.mono {l : List Int} {e : Int} {c K K' : Nat} (h : ScanOk l e c K) (hK : K ≤ K') : ScanOk l e c K' := by
  obtain ⟨m, hl, hall, hs, he, he1, hem⟩ := h
  exact ⟨m, hl, fun k hk => ⟨(hall k hk).1, (hall k hk).2.1, (hall k hk).2.2.1, by have := (hall k hk).2.2.2; omega⟩, hs, by omega, he1, hem⟩
theorem scan_runs {us : List Bool} {k : Nat} (hk : k ≤ us.length) : ScanOk (runsOf (goRound us 0 k)).1 (runsOf (goRound us 0 k)).2 (goRound us 0 k).length k := by
  induction k with
  | zero => rw [goRound_0]; exact ⟨0, rfl, fun k hk => absurd hk (by omega), rfl, by simp [runsOf], by simp [runsOf], .inl rfl⟩
  | succ k ih =>
    have ih := ih (by omega)
    cases hu : us[k]
    · rw [goRound0_hit (by omega) hu, runsOf_snoc]
      have := ih.step
      simpa [runStep] using this
    · rw [goRound0_miss (by omega) hu]
      exact ih.mono (by omega)
theorem scan_all (us : List Bool) : ∃ m e, (runsL us).length = m * 2 ∧ m ≤ us.length ∧ (∀ k, k < m → (scan (runsL us) k).2 < (runsL us).getD (k * 2) 0 ∧ 0 ≤ (runsL us).getD (k * 2) 0 ∧ 1 ≤ (runsL us).getD (k * 2 + 1) 0 ∧ (runsL us).getD (k * 2) 0 + (runsL us).getD (k * 2 + 1) 0 ≤ (us.length : Int)) ∧
    scan (runsL us) m = (((frees us 0).length : Int), e) ∧ e ≤ (us.length : Int) ∧ -1 ≤ e := by
  obtain ⟨m, h1, h2, h3, h4, h5, _⟩ := scan_runs (us := us) (Nat.le_refl us.length)
  obtain ⟨m', h6, h7, _⟩ := (runs_know (us := us) (Nat.le_refl us.length)).1
  have hmm : m' = m := by have := h6.symm.trans h1; omega
  subst hmm
  exact ⟨m', _, h1, h7, h2, h3, h4, h5⟩

end Go.Proofs.Ytenfheheepkfbaa
