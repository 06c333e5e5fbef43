/- slices.Clone over a slice of bools; set, with. -/
import Derived.Test.YtenfheheepkfbaaA4
namespace Go.Proofs.Ytenfheheepkfbaa
open Go.RowKit

theorem oneCell_bools (us : List Bool) : ∀ u ∈ us.map Value.bool, u.oneCell' = true := by
  intro u hu; simp at hu; rcases hu with ⟨_, rfl⟩ | ⟨_, rfl⟩ <;> rfl

set_option maxHeartbeats 400000 in
theorem clone_any (A : Option Addr) (c : Nat) (us : List Bool) (w : World) (hR : Reads w A (us.map .bool)) (hA : A ≠ none) (hn : us.length ≤ 1000) :
    Calls Try.prog 47 #[.slice A us.length c] w fun e w' => ∃ v, e = .returned v ∧ w'.ownsRow w.heap.size 4 1 v us.length (us.map .bool) ∧ Below w.heap.size w w' := by
  obtain ⟨i0, hi, hz0, hz1, hz2⟩ := info_parts Try.info4
  have hm := oneCell_bools us
  obtain ⟨ad, rfl⟩ := Option.ne_none_iff_exists'.1 hA
  have hnil := fun (w : World) => Lib.run_eql_slice_nil (P := Try.prog) w 24 4 (some ad) us.length c 0 0 Try.underlying24
  go_enter Try.func47, Try.ntmps47
  go_wp2_with (at_builtin; refine wpList_append_any _ rfl (.tmp 5) (.tmp 6) _ rfl w.heap.size 4 i0 (.bool false) 1 Try.underlying24 hi hz0 hz1 hz2 rfl (.slice (some ⟨w.heap.size, 0, none⟩) 0 0) 0 [] rfl (World.ownsRow_made w #[] 0 (Nat.le_refl _) (by simp) rfl) (some ad) us.length c (us.map .bool) rfl (by simp) (by simp) (hR.alloc _) hm (by simp only [maxLen]; omega) (by omega) (by simp) ?_; intro v1 w1 hown1 hg1 hat1)
  go_ret
  refine ⟨v1, rfl, by simpa using hown1, ((Below.refl _ _).alloc (Nat.le_refl _) _).grown hg1 (by simp) (fun k hk => ?_)⟩
  simp [Value.ownBlock] at hk; omega

end Go.Proofs.Ytenfheheepkfbaa
