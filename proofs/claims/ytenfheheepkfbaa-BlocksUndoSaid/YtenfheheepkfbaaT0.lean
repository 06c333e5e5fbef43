/- Lists of blocks: their errors; plain lists. Which of them are used, or free, already. -/
import Derived.Test.YtenfheheepkfbaaA6
import Derived.Test.YtenfheheepkfbaaA4
namespace Go.Proofs.Ytenfheheepkfbaa
open Go.RowKit

/-- The error at entry k of a list, where those before it had none. -/
def stepE (n : Nat) (l : List Int) (k : Nat) : Int := if l.getD k 0 < 0 ∨ (n : Int) - 1 < l.getD k 0 then 7 else if l.getD k 0 ∈ l.take k then 8 else 0
/-- The error of a list's first k entries. -/
def LsE (n : Nat) (l : List Int) : Nat → Int
  | 0 => 0
  | k + 1 => if LsE n l k = 0 then stepE n l k else LsE n l k
theorem LsE_step {n : Nat} {l : List Int} {k : Nat} (h : LsE n l k = 0) : LsE n l (k + 1) = stepE n l k := by
  show (if _ then _ else _) = _
  rw [if_pos h]
theorem LsE_stay {n : Nat} {l : List Int} {k m : Nat} (h : LsE n l k ≠ 0) (hm : k ≤ m) : LsE n l m = LsE n l k := by
  induction m with
  | zero => have : k = 0 := by omega
            subst this; rfl
  | succ m ih =>
    by_cases hk : k = m + 1
    · subst hk; rfl
    · have := ih (by omega)
      show (if LsE n l m = 0 then _ else _) = _
      rw [if_neg (by rw [this]; exact h), this]
theorem LsE_pre {n : Nat} {l : List Int} {k m : Nat} (h : LsE n l m = 0) (hm : k ≤ m) : LsE n l k = 0 := by
  by_cases h0 : LsE n l k = 0
  · exact h0
  · exact absurd ((LsE_stay h0 hm).symm.trans h) h0
theorem LsE_in {n : Nat} {l : List Int} {m : Nat} (h : LsE n l m = 0) {k : Nat} (hk : k < m) : 0 ≤ l.getD k 0 ∧ l.getD k 0 < n ∧ l.getD k 0 ∉ l.take k := by
  have h1 := LsE_pre h (show k + 1 ≤ m by omega)
  rw [LsE_step (LsE_pre h (show k ≤ m by omega))] at h1
  unfold stepE at h1
  split at h1
  · omega
  · split at h1
    · omega
    · exact ⟨by omega, by omega, by assumption⟩
theorem LsE_all {n : Nat} {l : List Int} (h : LsE n l l.length = 0) : ∀ b ∈ l, 0 ≤ b ∧ b < (n : Int) := by
  intro b hb
  obtain ⟨k, hk, rfl⟩ := List.mem_iff_getElem.1 hb
  have := LsE_in h hk
  rw [List.getD_eq_getElem?_getD, List.getElem?_eq_getElem hk] at this
  exact ⟨this.1, this.2.1⟩
theorem LsE_of {n : Nat} {l : List Int} (h : ∀ k, (hk : k < l.length) → 0 ≤ l[k] ∧ l[k] < (n : Int) ∧ l[k] ∉ l.take k) {m : Nat} (hm : m ≤ l.length) : LsE n l m = 0 := by
  induction m with
  | zero => rfl
  | succ m ih =>
    rw [LsE_step (ih (by omega))]
    obtain ⟨h1, h2, h3⟩ := h m (by omega)
    unfold stepE
    rw [List.getD_eq_getElem?_getD, List.getElem?_eq_getElem (by omega), Option.getD_some, if_neg (by omega), if_neg h3]
theorem setAll_val (us : List Bool) (bl : List Int) (v : Bool) (b : Nat) (hb : b < us.length) (hin : ∀ x ∈ bl, 0 ≤ x) : (setAll us bl v)[b]? = some (if ((b : Nat) : Int) ∈ bl then v else us[b]) := by
  induction bl generalizing us with
  | nil => simp [setAll, hb]
  | cons x bl ih =>
    have hx := hin x (by simp)
    have := ih (us.set x.toNat v) (by simpa using hb) (fun y hy => hin y (by simp [hy]))
    unfold setAll at this ⊢
    rw [List.foldl_cons, this]
    congr 1
    by_cases hm : ((b : Nat) : Int) ∈ bl
    · rw [if_pos hm, if_pos (by simp [hm])]
    · rw [if_neg hm]
      by_cases hxb : x = (b : Int)
      · subst hxb; simp
      · have hne : x.toNat ≠ b := by omega
        have hne2 : ¬ ((b : Int) = x) := fun h => hxb h.symm
        simp [hne, hne2, hm]
/-- The blocks that have been met when k entries have been looked at. -/
def metL (l : List Int) (k : Nat) : List Bool := setAll (List.replicate 256 false) (l.take k) true
theorem metL_length (l : List Int) (k : Nat) : (metL l k).length = 256 := by unfold metL; rw [setAll_length, List.length_replicate]
theorem metL_at {l : List Int} {k n : Nat} (h : LsE n l k = 0) (hk : k ≤ l.length) (b : Nat) (hb : b < 256) : (metL l k).getD b false = decide (((b : Nat) : Int) ∈ l.take k) := by
  unfold metL
  have hin : ∀ x ∈ l.take k, 0 ≤ x := by
    intro x hx
    obtain ⟨p, hp, rfl⟩ := List.mem_iff_getElem.1 hx
    have hpk : p < k := by rw [List.length_take] at hp; omega
    have := (LsE_in h hpk).1
    rw [List.getD_eq_getElem?_getD, List.getElem?_eq_getElem (by omega)] at this
    simpa using this
  rw [List.getD_eq_getElem?_getD, setAll_val _ _ _ b (by rw [List.length_replicate]; exact hb) hin, List.getElem_replicate, Option.getD_some]
  by_cases hm : ((b : Nat) : Int) ∈ l.take k
  · rw [if_pos hm, decide_eq_true hm]
  · rw [if_neg hm, decide_eq_false hm]
theorem metL_step {l : List Int} {k : Nat} (hk : k < l.length) : metL l (k + 1) = (metL l k).set (l[k]).toNat true := setAll_snoc _ _ _ _ hk
/-- Is a block of a list used already, or free? -/
def hasAny (us : List Bool) (l : List Int) (u : Bool) : Bool := l.any fun b => us.getD b.toNat false == u

/-- The error of Take and Free. -/
def TnE (s j i : Int) (us : List Bool) (l : List Int) (u : Bool) (al : Int) : Int :=
  if CkE s j i us.length = 0 then (if LsE us.length l l.length = 0 then (if hasAny us l u = true then al else 0) else LsE us.length l l.length) else CkE s j i us.length
/-- The blocks that they return. -/
def TnU (s j i : Int) (us : List Bool) (l : List Int) (u : Bool) (al : Int) : List Bool := if TnE s j i us l u al = 0 then setAll us l u else us
theorem TnU_length (s j i : Int) (us : List Bool) (l : List Int) (u : Bool) (al : Int) : (TnU s j i us l u al).length = us.length := by
  unfold TnU; split
  · exact setAll_length _ _ _
  · rfl
def TnPost (s j i : Int) (A : Option Addr) (c : Nat) (us : List Bool) (l : List Int) (u : Bool) (al : Int) (w : World) (e : Ending) (w' : World) : Prop :=
  Below w.heap.size w w' ∧ ((TnE s j i us l u al ≠ 0 ∧ e = .returned (.tuple #[.agg #[.int .i64 s, .int .i64 j, .int .i64 i, .slice A us.length c], .int .i64 (TnE s j i us l u al)])) ∨
    (TnE s j i us l u al = 0 ∧ ∃ g cap, e = .returned (.tuple #[.agg #[.int .i64 s, .int .i64 j, .int .i64 i, .slice (some ⟨g, 0, none⟩) us.length cap], .int .i64 0]) ∧
      w'.ownsRow w.heap.size 4 1 (.slice (some ⟨g, 0, none⟩) us.length cap) us.length ((setAll us l u).map .bool)))
theorem TnPost.bad {s j i : Int} {us : List Bool} {l : List Int} {u : Bool} {al E : Int} {w w' : World} {A : Option Addr} {c : Nat} (hE : E ≠ 0) (h : TnE s j i us l u al = E) (hb : Below w.heap.size w w') :
    TnPost s j i A c us l u al w (.returned (.tuple #[.agg #[.int .i64 s, .int .i64 j, .int .i64 i, .slice A us.length c], .int .i64 E])) w' := by
  subst h
  exact ⟨hb, .inl ⟨hE, rfl⟩⟩
/-- .. as a slice that reads. -/
theorem TnPost.form {s j i : Int} {us : List Bool} {l : List Int} {u : Bool} {al : Int} {w w' : World} {A : Option Addr} {c : Nat} {e : Ending} (hR : Reads w A (us.map .bool)) (h : TnPost s j i A c us l u al w e w') :
    Below w.heap.size w w' ∧ ∃ A' c', e = .returned (.tuple #[.agg #[.int .i64 s, .int .i64 j, .int .i64 i, .slice A' (TnU s j i us l u al).length c'], .int .i64 (TnE s j i us l u al)]) ∧ Reads w' A' ((TnU s j i us l u al).map .bool) := by
  obtain ⟨hb, ⟨hE, he⟩ | ⟨hE, g, cap, he, ho⟩⟩ := h
  · refine ⟨hb, A, c, by rw [TnU_length]; exact he, ?_⟩
    unfold TnU
    rw [if_neg hE]
    exact hR.below hb
  · refine ⟨hb, some ⟨g, 0, none⟩, cap, by rw [TnU_length, hE]; exact he, ?_⟩
    unfold TnU
    rw [if_pos hE]
    exact Reads.of_own ho

end Go.Proofs.Ytenfheheepkfbaa
