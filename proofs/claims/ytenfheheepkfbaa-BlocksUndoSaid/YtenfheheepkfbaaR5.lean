/- The reference's Alloc: it returns what Alloc returns. -/
import Derived.Test.YtenfheheepkfbaaR4
import Derived.Test.YtenfheheepkfbaaA3
namespace Go.Proofs.Ytenfheheepkfbaa
open Go.RowKit

theorem goRound_len (us : List Bool) (near k : Nat) : (goRound us near k).length = (List.range k).countP fun i => us[(near + i) % us.length]? == some false := by
  unfold goRound; rw [List.length_map, List.countP_eq_length_filter]
theorem countP_range_get (us : List Bool) (a m : Nat) (h : a + m ≤ us.length) : ((List.range m).countP fun i => us[a + i]? == some false) = nfree ((us.drop a).take m) := by
  induction m with
  | zero => simp [nfree]
  | succ m ih =>
    rw [List.range_succ, List.countP_append, ih (by omega)]
    have hl : m < (us.drop a).length := by simp; omega
    unfold nfree
    rw [List.take_succ_eq_append_getElem hl, List.countP_append]
    congr 1
    have hg : us[a + m]? = some (us.drop a)[m] := by rw [List.getElem_drop, List.getElem?_eq_getElem (by omega)]
    simp only [List.countP_cons, List.countP_nil, hg]
    cases (us.drop a)[m] <;> simp
/-- As many blocks are met as are free, wherever one begins. -/
theorem frees_len {us : List Bool} {near : Nat} (h : near < us.length) : (frees us near).length = nfree us := by
  unfold frees
  rw [goRound_len]
  have hsplit : List.range us.length = List.range (us.length - near) ++ (List.range near).map (us.length - near + ·) := by
    rw [← List.range_add]; congr 1; omega
  rw [hsplit, List.countP_append, List.countP_map]
  have h1 : ((List.range (us.length - near)).countP fun i => us[(near + i) % us.length]? == some false) = nfree ((us.drop near).take (us.length - near)) := by
    rw [← countP_range_get us near (us.length - near) (by omega)]
    apply List.countP_congr
    intro i hi
    simp only [List.mem_range] at hi
    rw [Nat.mod_eq_of_lt (by omega)]
  have h2 : ((List.range near).countP ((fun i => us[(near + i) % us.length]? == some false) ∘ (us.length - near + ·))) = nfree ((us.drop 0).take near) := by
    rw [← countP_range_get us 0 near (by omega)]
    apply List.countP_congr
    intro i hi
    simp only [List.mem_range] at hi
    have : (near + (us.length - near + i)) % us.length = 0 + i := by
      rw [show near + (us.length - near + i) = i + us.length from by omega, Nat.add_mod_right, Nat.mod_eq_of_lt (by omega)]; omega
    simp only [Function.comp, this]
  rw [h1, h2]
  unfold nfree
  have : us.countP (!·) = (us.take near ++ us.drop near).countP (!·) := by rw [List.take_append_drop]
  rw [this, List.countP_append, List.drop_zero, List.take_of_length_le (by simp)]
  omega

end Go.Proofs.Ytenfheheepkfbaa
