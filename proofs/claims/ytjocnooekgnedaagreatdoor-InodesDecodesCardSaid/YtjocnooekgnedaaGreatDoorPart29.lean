/- Layer 10: Free. -/
import Derived.Test.YtjocnooekgnedaaGreatDoorPart27
import Derived.Test.YtjocnooekgnedaaGreatDoorPart28
set_option linter.unusedVariables false
set_option linter.unusedSimpArgs false
namespace Go.Proofs.YtjocnooekgnedaaGreatDoor
open Go.RowKit Go.Maps

theorem LsE_vals (n : Nat) (l : List Int) (k : Nat) : LsE n l k = 0 ∨ LsE n l k = 7 ∨ LsE n l k = 8 := by
  induction k with
  | zero => exact .inl rfl
  | succ k ih =>
    unfold LsE
    split
    · unfold stepE; split
      · exact .inr (.inl rfl)
      · split
        · exact .inr (.inr rfl)
        · exact .inl rfl
    · exact ih
theorem TnE_vals {s j i : Int} {us : List Bool} {l : List Int} {u : Bool} {al : Int} (hC : CkE s j i us.length = 0) : TnE s j i us l u al = 0 ∨ TnE s j i us l u al = 7 ∨ TnE s j i us l u al = 8 ∨ TnE s j i us l u al = al := by
  unfold TnE
  rw [if_pos hC]
  split
  · split
    · exact .inr (.inr (.inr rfl))
    · exact .inl rfl
  · rcases LsE_vals us.length l l.length with h | h | h
    · exact .inl h
    · exact .inr (.inl h)
    · exact .inr (.inr (.inl h))
theorem changeE_vals (y : TxS) (n : Nat) : y.changeE n = 0 ∨ (y.changeE n = 12 ∧ ∀ us, y.change us n = y) := by
  unfold TxS.changeE TxS.change
  split
  · exact .inl rfl
  · split
    · exact .inr ⟨rfl, fun _ => rfl⟩
    · exact .inl rfl
theorem ok_ckE {y : TxS} (h : y.Ok) : CkE y.s y.j y.i y.now.length = 0 := by rw [h.now]; exact ckE_rgB h.rg
theorem free_a {y : TxS} {l : List Int} (hs : y.stateE = 0) (h : TnE y.s y.j y.i y.now l false 4 ≠ 0) : y.free l = (TnE y.s y.j y.i y.now l false 4, y.brk) := by
  have e : y.freeE l = TnE y.s y.j y.i y.now l false 4 := by unfold TxS.freeE; rw [if_pos h]
  unfold TxS.free; rw [if_neg (by simpa using hs), e, if_pos h]
theorem free_b {y : TxS} {l : List Int} (hs : y.stateE = 0) (h : TnE y.s y.j y.i y.now l false 4 = 0) : y.free l = (y.changeE l.length, (y.change (setAll y.now l false) l.length).after (y.changeE l.length)) := by
  have e : y.freeE l = y.changeE l.length := by unfold TxS.freeE; rw [if_neg (by simpa using h)]
  unfold TxS.free; rw [if_neg (by simpa using hs), e]
  rcases changeE_vals y l.length with h | ⟨h, h2⟩
  · rw [if_neg (by simpa using h), h, TxS.after_0]
  · rw [if_pos (by rw [h]; decide), h, h2, TxS.after_bad (by decide) (by decide) (by decide)]



end Go.Proofs.YtjocnooekgnedaaGreatDoor
