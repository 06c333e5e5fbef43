/- ref free. -/
import Derived.Test.YtenfheheepkfbaaA2
namespace Go.Proofs.Ytenfheheepkfbaa
open Go.RowKit

def nfree (us : List Bool) : Nat := us.countP (!·)
theorem nfree_le (us : List Bool) : nfree us ≤ us.length := List.countP_le_length
theorem nfree_snoc (us : List Bool) (k : Nat) (h : k < us.length) : nfree (us.take (k + 1)) = nfree (us.take k) + if us[k] = false then 1 else 0 := by
  unfold nfree
  rw [List.take_succ_eq_append_getElem h, List.countP_append]
  cases us[k] <;> simp

set_option maxHeartbeats 400000 in
theorem rfree_any (s j i : Int) (A : Option Addr) (c : Nat) (us : List Bool) (w : World) (hR : Reads w A (us.map .bool)) (hn : us.length ≤ 1000) :
    Calls Try.prog 42 #[.agg #[.int .i64 s, .int .i64 j, .int .i64 i, .slice A us.length c]] w fun e w' => e = .returned (.int .i64 (nfree us)) ∧ Below w.heap.size w w' := by
  go_enter Try.func42, Try.ntmps42
  go_wp2
  go_loop [3, 4] (fun n i => ∃ k : Nat, k ≤ us.length ∧ i = .int .i64 k ∧ n = .int .i64 (nfree (us.take k))) (fun _ i => us.length - (intOf i).toNat)
  case atStart => exact ⟨0, by omega, rfl, rfl⟩
  case round =>
    obtain ⟨k, hk, rfl, rfl⟩ := hrel
    by_cases hlt : k < us.length
    · obtain ⟨b, off, rfl, hb, hc⟩ := hR.at_ (k := k) (by simpa using hlt)
      rw [List.getElem_map] at hc
      have hle := nfree_le (us.take k)
      have hs := nfree_snoc us k hlt
      have hs' := Lib.hid hs
      have hl : (us.take k).length ≤ k := List.length_take_le _ _
      clear hs
      cases hu : us[k] <;> rw [hu] at hc hs'
      all_goals
        clear hu
        go_wp2
        go_round
        case rel => exact ⟨k + 1, by omega, by go_num, by rw [hs'.out]; simp⟩
        case measure => simp [intOf]; omega
    · go_wp2
      go_ret
      refine ⟨ret_int (by rw [List.take_of_length_le (by omega)]), ?_⟩
      exact (Below.refl _ _).alloc (Nat.le_refl _) _
end Go.Proofs.Ytenfheheepkfbaa
