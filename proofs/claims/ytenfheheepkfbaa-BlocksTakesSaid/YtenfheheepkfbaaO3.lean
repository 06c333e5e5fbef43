/- Lists of ints that came in. -/
import Derived.Test.YtenfheheepkfbaaO1
import Derived.ProofKit
import Derived.OpenShut
namespace Go.Proofs.Ytenfheheepkfbaa
open Go.ChangeShapes Go.WideShapes Go.ChangeAt Go.RowKit Go.Deep

/-- Ints that came in. -/
theorem open_ints {H : Type} {enc : TypeId × Value → H} {W : World} {r : Reach} {b0 : Nat} {v : Value} {d : DataW H} {p : List MemPlace} (hv : Value.okWide Try.prog W r b0 29 v) (h : DataW.Trod enc Try.prog W 0 (fun _ => true) true 29 v d p) :
    ∃ (A : Option Addr) (n c : Nat) (xs : List Int), v = .slice A n c ∧ xs.length = n ∧ Reads W A (xs.map (.int .i64)) ∧ n ≤ c ∧ c ≤ maxLen := by
  obtain ⟨a0, l0, c0, rfl⟩ := okWide_slice Try.underlying29 hv
  obtain ⟨fuel, hf⟩ := h
  obtain ⟨A, n, c, ys, he, hl, hR, hnc, hcm, _⟩ := open_cells (α := Int) (fun x => Value.int .i64 x) Try.underlying29 Try.cellsInt (fun n cs x hx => by
    obtain ⟨z, rfl, _, _⟩ := DataW.trod_int Try.underlying3 hx
    exact ⟨z, rfl⟩) (v := .slice a0 l0 c0) (by simpa [Value.cells] using hf)
  exact ⟨A, n, c, ys, he, hl, hR, hnc, hcm⟩

end Go.Proofs.Ytenfheheepkfbaa
