/- BlocksTakes: for every state and list the call returns true, and each argument reads behind the call as it read before. No condition. -/
import Derived.Test.YtenfheheepkfbaaRows
import Derived.Test.YtenfheheepkfbaaW7
import Derived.Test.YtenfheheepkfbaaO3
import Derived.Test.YtenfheheepkfbaaP0
import Derived.ProofKit
import Derived.OpenShut
import Derived.Lib.SmallJoins
namespace Go.Proofs.Ytenfheheepkfbaa
open Go.ChangeShapes Go.WideShapes Go.ChangeAt Go.RowKit Go.Joins


set_option maxRecDepth 100000 in
theorem takes_lifted (os : Os) (started : os.Started) (H : Type) (enc : TypeId × Value → H) :
    ReturnsInHanded {} Try.checked os 9 .any (Rows.blocksTakesSpec.pre6 enc Try.prog Try.f9 Rows.blocksTakesRow.domain false) (Rows.blocksTakesSpec.post enc Try.prog Try.f9 false true false false) := by
  refine returnsInHanded_of_change (C := Try.checked) Try.own started (by kernel_rfl) Try.func9
    (ChangeSpec.witness6 (enc := enc) (C := Try.checked) false ⟨#[], #[.agg #[.int .i64 0, .int .i64 0, .int .i64 0, .slice none 0 0], .slice none 0 0], []⟩ 8 (by kernel_rfl) (by kernel_rfl) (by kernel_rfl) (by kernel_rfl)) ?_
  intro W base args ds gs before hval0 hW hcnd _
  have hval : ∀ (j : Nat) t v, Try.f9.params[j]? = some t → args[j]? = some v → Value.okWide Try.prog W .any base t v := hval0
  have hW' := hW
  obtain ⟨p, q, hA0, hV, rfl, _, _⟩ := hW
  have hA : DataW.TrodAll enc Try.prog W 0 (fun _ => true) true Try.f9.params.toList args.toList ds p := hA0
  rw [Try.params9] at hA hval
  obtain ⟨v0, v1, d0, d1, p0, p1, rfl, rfl, rfl, h0, h1⟩ := trodAll_two hA
  obtain ⟨rfl, rfl⟩ := trodVars_none hV
  have h0k := h0
  have h1k := h1
  clear hA0 hval0
  simp only [List.append_nil] at hW'
  have hlt0 : ∀ x ∈ p0, x.block < W.heap.size := fun x hx => by simpa using hW'.lt x (by simp [hx])
  have hlt1 : ∀ x ∈ p1, x.block < W.heap.size := fun x hx => by simpa using hW'.lt x (by simp [hx])
  obtain ⟨s, j, i, A, n, c, us, rfl, rfl, hR, hnc, hcm, hA1⟩ := open_state (hval 0 26 v0 rfl rfl) h0
  obtain ⟨B, m, d, xs, rfl, rfl, hX, hmd, hdm⟩ := open_ints (hval 1 29 v1 rfl rfl) h1
  have walk : Calls Try.prog 9 #[.agg #[.int .i64 s, .int .i64 j, .int .i64 i, .slice A us.length c], .slice B xs.length d] W fun e w' => e = .returned (.bool true) ∧ Below W.heap.size W w' := by
    by_cases h300 : us.length ≤ 300 ∧ xs.length ≤ 300
    · exact takesLaw_near s j i A B c d us xs W h300.1 h300.2 (fun h => (hA1 h).1) hR hX
    · exact takesLaw_far s j i A B us.length c xs.length d W (by omega) (by omega)
  refine walk.mono fun e W' ⟨he, hnx⟩ => ?_
  subst he
  refine ⟨_, rfl, _, _, _, [], p0 ++ p1, [], hW', ?_, ?_, rfl, hnx.frame _, fun h => by cases h⟩
  · exact trodAll_mk1 (shut_bool Try.underlying4 true)
  · exact trodAll_mk2 (Below.trod Try.laidOut (by kernel_rfl) (of_decide_eq_true (by kernel_rfl)) h0k hnx hlt0) (Below.trod Try.laidOut (by kernel_rfl) (of_decide_eq_true (by kernel_rfl)) h1k hnx hlt1)

theorem blocksTakes_holds : Rows.BlocksTakesSaid :=
  OpenClaim.holds_of_wide 9 Try.f9 rfl rfl rfl rfl rfl rfl rfl ⟨rfl, rfl, rfl, rfl, rfl⟩ rfl rfl rfl rfl rfl (by kernel_rfl) Try.func9 (by kernel_rfl)
    (of_decide_eq_true (by kernel_rfl)) (by unfold Func.isWrapper; rw [if_neg (of_decide_eq_false (by kernel_rfl))]; exact ⟨rfl, rfl⟩)
    (fun os started H enc _ => takes_lifted os started H enc)

#print axioms blocksTakes_holds
end Go.Proofs.Ytenfheheepkfbaa
