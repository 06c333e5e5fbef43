/- Bytes that came in. -/
import Derived.Test.YtenfheheepkfbaaO1
import Derived.Test.YtenfheheepkfbaaQ1
import Derived.ProofKit
import Derived.OpenShut
namespace Go.Proofs.Ytenfheheepkfbaa
open Go.ChangeShapes Go.WideShapes Go.ChangeAt Go.RowKit Go.Deep

/-- Bytes that came in. -/
theorem open_bytes {H : Type} {enc : TypeId × Value → H} {W : World} {r : Reach} {b0 : Nat} {v : Value} {d : DataW H} {p : List MemPlace} (hv : Value.okWide Try.prog W r b0 50 v) (h : DataW.Trod enc Try.prog W 0 (fun _ => true) true 50 v d p) :
    ∃ (A : Option Addr) (n c : Nat) (xs : List Int), v = .slice A n c ∧ xs.length = n ∧ Reads W A (xs.map (.int .u8)) ∧ Bytes xs ∧ n ≤ c ∧ c ≤ maxLen := by
  obtain ⟨a0, l0, c0, rfl⟩ := okWide_slice Try.underlying50 hv
  obtain ⟨fuel, hf⟩ := h
  obtain ⟨A, n, c, ys, he, hl, hR, hnc, hcm, _⟩ := open_cells (α := { x : Int // 0 ≤ x ∧ x < 256 }) (fun x => Value.int .u8 x.val) Try.underlying50 Try.cellsU8 (fun n cs x hx => by
    obtain ⟨z, rfl, _, hw⟩ := DataW.trod_int Try.underlying5 hx
    have := bounds_u8 hw
    exact ⟨⟨z, by omega⟩, rfl⟩) (v := .slice a0 l0 c0) (by simpa [Value.cells] using hf)
  refine ⟨A, n, c, ys.map Subtype.val, he, by simpa using hl, by simpa [List.map_map, Function.comp_def] using hR, ?_, hnc, hcm⟩
  intro x hx
  obtain ⟨y, _, rfl⟩ := List.mem_map.1 hx
  exact y.2

end Go.Proofs.Ytenfheheepkfbaa
