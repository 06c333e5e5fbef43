/- Layer 10: may. -/
import Derived.Test.YtjocnooekgnedaaGreatDoorPart26
set_option linter.unusedVariables false
set_option linter.unusedSimpArgs false
namespace Go.Proofs.YtjocnooekgnedaaGreatDoor
open Go.RowKit Go.Maps

def MayPost (s j i : Int) (n : Nat) (l : List Bool) (w : World) (e : Ending) (w' : World) : Prop :=
  ∃ g cap, e = .returned (.agg #[.int .i64 s, .int .i64 j, .int .i64 i, .slice (some ⟨g, 0, none⟩) n cap]) ∧ w'.ownsRow w.heap.size 4 1 (.slice (some ⟨g, 0, none⟩) n cap) n (l.map .bool) ∧ Below w.heap.size w w'

/-- What the first k rounds have made of the blocks. -/
def mayK (a b : List Bool) (k : Nat) : List Bool := orL (a.take k) (b.take k) ++ a.drop k
theorem mayK_0 (a b : List Bool) : mayK a b 0 = a := by simp [mayK, orL]
theorem mayK_all {a b : List Bool} (h : a.length = b.length) : mayK a b a.length = orL a b := by unfold mayK; rw [List.take_length, h, List.take_length, List.drop_of_length_le (by omega), List.append_nil]
theorem mayK_length {a b : List Bool} (h : a.length = b.length) (k : Nat) (hk : k ≤ a.length) : (mayK a b k).length = a.length := by
  unfold mayK; rw [List.length_append, orL_length (by simp [h]), List.length_take, List.length_drop]; omega
theorem mayK_at {a b : List Bool} (h : a.length = b.length) (k : Nat) (hk : k < a.length) : (mayK a b k)[k]? = some a[k] := by
  unfold mayK
  rw [List.getElem?_append_right (by rw [orL_length (by simp [h]), List.length_take]; omega), orL_length (by simp [h]), List.length_take]
  rw [List.getElem?_drop, show k + (k - min k a.length) = k by omega, List.getElem?_eq_getElem hk]
theorem mayK_succ {a b : List Bool} (h : a.length = b.length) (k : Nat) (hk : k < a.length) : mayK a b (k + 1) = (mayK a b k).set k (a[k] || b[k]'(h ▸ hk)) := by
  apply List.ext_getElem?
  intro i
  have hl : (orL (a.take k) (b.take k)).length = k := by rw [orL_length (by simp [h]), List.length_take]; omega
  have hl1 : (orL (a.take (k + 1)) (b.take (k + 1))).length = k + 1 := by rw [orL_length (by simp [h]), List.length_take]; omega
  have hg : ∀ m i, m ≤ a.length → i < m → (orL (a.take m) (b.take m))[i]? = (orL a b)[i]? := by
    intro m i hm hi
    unfold orL
    rw [List.getElem?_zipWith, List.getElem?_zipWith, List.getElem?_take_of_lt hi, List.getElem?_take_of_lt hi]
  by_cases hi : i < k
  · rw [List.getElem?_set_ne (by omega)]
    unfold mayK
    rw [List.getElem?_append_left (by omega), List.getElem?_append_left (by omega), hg _ _ (by omega) (by omega), hg _ _ (by omega) hi]
  · by_cases he : i = k
    · subst he
      rw [List.getElem?_set_self (by rw [mayK_length h _ (by omega)]; exact hk)]
      unfold mayK
      rw [List.getElem?_append_left (by omega), hg _ _ (by omega) (by omega)]
      unfold orL
      rw [List.getElem?_zipWith, List.getElem?_eq_getElem hk, List.getElem?_eq_getElem (h ▸ hk)]
    · rw [List.getElem?_set_ne (by omega)]
      unfold mayK
      rw [List.getElem?_append_right (by omega), List.getElem?_append_right (by omega), hl, hl1, List.getElem?_drop, List.getElem?_drop]
      congr 1; omega


end Go.Proofs.YtjocnooekgnedaaGreatDoor
