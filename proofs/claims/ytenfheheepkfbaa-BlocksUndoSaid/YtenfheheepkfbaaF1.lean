/- What Alloc takes, step by step from near on: plain lists. -/
import Derived.Test.YtenfheheepkfbaaR5
import Derived.Test.YtenfheheepkfbaaW3
namespace Go.Proofs.Ytenfheheepkfbaa
open Go.RowKit

theorem goRound_mem {us : List Bool} {near k : Nat} {x : Int} (h : x ∈ goRound us near k) : ∃ i, i < k ∧ us[(near + i) % us.length]? = some false ∧ x = (((near + i) % us.length : Nat) : Int) := by
  unfold goRound at h
  simp only [List.mem_map, List.mem_filter, List.mem_range, beq_iff_eq] at h
  obtain ⟨i, ⟨h1, h2⟩, rfl⟩ := h
  exact ⟨i, h1, h2, by simp⟩
theorem step_inj {n near i k : Nat} (hi : i < k) (hk : k < n) (hn : near < n) (h : (near + i) % n = (near + k) % n) : False := by
  have h1 : near + i < n ∨ n ≤ near + i := by omega
  have h2 : near + k < n ∨ n ≤ near + k := by omega
  rcases h1 with h1 | h1 <;> rcases h2 with h2 | h2
  · rw [Nat.mod_eq_of_lt h1, Nat.mod_eq_of_lt h2] at h; omega
  · rw [Nat.mod_eq_of_lt h1, Nat.mod_eq_sub_mod h2, Nat.mod_eq_of_lt (by omega)] at h; omega
  · rw [Nat.mod_eq_of_lt h2, Nat.mod_eq_sub_mod h1, Nat.mod_eq_of_lt (by omega)] at h; omega
  · rw [Nat.mod_eq_sub_mod h1, Nat.mod_eq_sub_mod h2, Nat.mod_eq_of_lt (by omega), Nat.mod_eq_of_lt (by omega)] at h; omega

/-- F1: a free block that is met before many have been taken is the next one of the list. -/
theorem allocd_at {us : List Bool} {near many k : Nat} (hk : k < us.length) (hf : us[(near + k) % us.length]? = some false) (hm : (goRound us near k).length < many) :
    ∃ h : (goRound us near k).length < (allocd us near many).length, (allocd us near many)[(goRound us near k).length] = (((near + k) % us.length : Nat) : Int) := by
  obtain ⟨r, hr⟩ := goRound_pre us near (k + 1) us.length (by omega)
  rw [goRound_hit hf] at hr
  have hfr : frees us near = goRound us near k ++ ((((near + k) % us.length : Nat) : Int) :: r) := by
    unfold frees; rw [← hr]; simp
  have hlen : (goRound us near k).length < (allocd us near many).length := by
    unfold allocd; rw [hfr]; simp; omega
  refine ⟨hlen, ?_⟩
  have h1 : (allocd us near many)[(goRound us near k).length]? = some (((near + k) % us.length : Nat) : Int) := by
    unfold allocd
    rw [hfr, List.getElem?_take, if_pos hm, List.getElem?_append_right (Nat.le_refl _)]
    simp
  rw [List.getElem?_eq_getElem hlen] at h1
  exact Option.some.inj h1
/-- F2: a used block is not in the list. -/
theorem allocd_used {us : List Bool} {near many : Nat} {b : Nat} (hb : us[b]? = some true) : ((b : Nat) : Int) ∉ allocd us near many := by
  intro h
  have h := List.mem_of_mem_take h
  obtain ⟨i, _, hf, he⟩ := goRound_mem h
  have : b = (near + i) % us.length := by exact_mod_cast he
  rw [← this, hb] at hf
  cases hf
/-- F3: when many have been taken the next ones are not in the list. -/
theorem allocd_late {us : List Bool} {near many k : Nat} (hk : k < us.length) (hn : near < us.length) (hm : many ≤ (goRound us near k).length) : (((near + k) % us.length : Nat) : Int) ∉ allocd us near many := by
  intro h
  obtain ⟨r, hr⟩ := goRound_pre us near k us.length (by omega)
  have h2 : allocd us near many = (goRound us near k).take many := by
    unfold allocd frees; rw [← hr, List.take_append_of_le_length hm]
  rw [h2] at h
  obtain ⟨i, hi, _, he⟩ := goRound_mem (List.mem_of_mem_take h)
  have : (near + k) % us.length = (near + i) % us.length := by exact_mod_cast he
  exact step_inj hi hk hn this.symm

theorem setAll_at (us : List Bool) (bl : List Int) (b : Nat) (hb : b < us.length) (hin : ∀ x ∈ bl, 0 ≤ x) : (setAll us bl true)[b]? = some (us[b] || decide (((b : Nat) : Int) ∈ bl)) := by
  induction bl generalizing us with
  | nil => simp [setAll, hb]
  | cons x bl ih =>
    have hx := hin x (by simp)
    have := ih (us.set x.toNat true) (by simpa using hb) (fun y hy => hin y (by simp [hy]))
    unfold setAll at this ⊢
    rw [List.foldl_cons, this]
    congr 1
    by_cases hxb : x = (b : Int)
    · subst hxb; simp
    · have hne : x.toNat ≠ b := by omega
      have hne2 : ¬ ((b : Int) = x) := fun h => hxb h.symm
      simp [List.getElem_set, hne, hne2]

/-- How many of the list have been met after k steps. -/
def nextAt (us : List Bool) (near many k : Nat) : Nat := min many (goRound us near k).length

end Go.Proofs.Ytenfheheepkfbaa
