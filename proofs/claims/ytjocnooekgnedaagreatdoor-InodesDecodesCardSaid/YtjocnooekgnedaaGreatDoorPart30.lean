/- Layer 10: Take. -/
import Derived.Test.YtjocnooekgnedaaGreatDoorPart29
set_option linter.unusedVariables false
set_option linter.unusedSimpArgs false
namespace Go.Proofs.YtjocnooekgnedaaGreatDoor
open Go.RowKit Go.Maps

theorem res_tmp_cell {fn : Func} {tmps : Array Value} {W : World} {R m n : Nat} {t : TypeId} {E : Int} {v : Value} (hr : fn.results = #[.tmp m, .cell n t]) (hm : tmps.getD m undef = v) (hn : tmps.getD n undef = .pointer (some ⟨R, 0, none⟩)) (ht : t = 30) (hc : W.cell? ⟨R, 0, none⟩ = some (.int .i64 E)) : (results fn tmps).run Tryz.prog W = .ok (.tuple #[v, .int .i64 E]) W := by
  subst ht
  rw [Array.getD_eq_getD_getElem?] at hn hm
  simp [results, hr, hn, hm, go_sem, hc]

/-- In a function that defers: a region that does not panic. -/
def noPanic (Q : Exit → Act → World → Prop) : Exit → Act → World → Prop
  | .panic _, _, _ => False
  | e, a, w => Q e a w
theorem noPanic_to {Q : Exit → Act → World → Prop} : ∀ e a w, noPanic Q e a w → Q e a w := fun e a w h => by cases e <;> first | exact h | exact h.elim
theorem wp_region_calm {P : Program} {id : Nat} {ops : Array Oper} {b : Bool} {Q : Exit → Act → World → Prop} {a : Act} {w : World} (h : (Code.region id ops b).wp P (noPanic Q) a w) : (Code.region id ops b).wp P Q a w := wp_mono h noPanic_to

def TakeDid (w : World) (T : Nat) (F : List Nat) (D : Nat) (E : Int) (y : TxS) (L : List Int) (e : Ending) (w' : World) : Prop :=
  ∃ v, e = .returned (.tuple #[v, .int .i64 E]) ∧ w'.ownsRow w.heap.size 3 1 v L.length (L.map (.int .i64)) ∧ ∃ F', TxAt w' T F' D y ∧ Grow w F w' F' ∧ ∀ q, v.ownBlock = some q → q ∉ F'

theorem AlE_vals {s j i : Int} {us : List Bool} {near many : Int} (hC : CkE s j i us.length = 0) : AlE s j i us near many = 0 ∨ AlE s j i us near many = 7 ∨ AlE s j i us near many = 11 := by
  unfold AlE
  rw [if_pos hC]
  split
  · exact .inr (.inl rfl)
  · split
    · exact .inr (.inr rfl)
    · exact .inl rfl
theorem AlE_near {s j i : Int} {us : List Bool} {near many : Int} (hC : CkE s j i us.length = 0) (h : AlE s j i us near many = 0) : near.toNat < us.length := by
  unfold AlE at h
  rw [if_pos hC] at h
  split at h
  · cases h
  · omega
theorem take_a {y : TxS} {near many : Int} (hs : y.stateE = 0) (h : AlE y.s y.j y.i y.may near many ≠ 0) : y.take near many = (AlE y.s y.j y.i y.may near many, y.brk) ∧ y.takeL near many = [] := by
  have e : y.takeE near many = AlE y.s y.j y.i y.may near many := by unfold TxS.takeE; rw [if_pos h]
  constructor
  · unfold TxS.take; rw [if_neg (by simpa using hs), e, if_pos h]
  · unfold TxS.takeL; rw [if_neg (by simpa using hs), e, if_pos h]
theorem take_b {y : TxS} {near many : Int} (hs : y.stateE = 0) (h : AlE y.s y.j y.i y.may near many = 0) (L : List Int) (hL : allocd y.may near.toNat many.toNat = L) :
    y.take near many = (y.changeE L.length, (y.change (setAll y.now L true) L.length).after (y.changeE L.length)) ∧ y.takeL near many = if y.changeE L.length = 0 then L else [] := by
  subst hL
  have e : y.takeE near many = y.changeE (allocd y.may near.toNat many.toNat).length := by unfold TxS.takeE; rw [if_neg (by simpa using h)]
  have hs' : ¬ y.stateE ≠ 0 := by simpa using hs
  rcases changeE_vals y (allocd y.may near.toNat many.toNat).length with h | ⟨h, h2⟩
  · have h' : ¬ y.changeE (allocd y.may near.toNat many.toNat).length ≠ 0 := by simpa using h
    constructor
    · unfold TxS.take; rw [if_neg hs', e, if_neg h', h, TxS.after_0]
    · unfold TxS.takeL; rw [if_neg hs', e, if_neg h', if_pos h]
  · have h' : y.changeE (allocd y.may near.toNat many.toNat).length ≠ 0 := by rw [h]; decide
    constructor
    · unfold TxS.take; rw [if_neg hs', e, if_pos h', h, h2, TxS.after_bad (by decide) (by decide) (by decide)]
    · unfold TxS.takeL; rw [if_neg hs', e, if_pos h', if_neg (by rw [h]; decide)]





end Go.Proofs.YtjocnooekgnedaaGreatDoor
