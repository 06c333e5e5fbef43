/- The closed results of the examples' layout. -/
import Derived.Test.YtenfheheepkfbaaR4
import Derived.Test.YtenfheheepkfbaaE1
import Derived.Test.YtenfheheepkfbaaS1
import Derived.Test.YtenfheheepkfbaaS2
namespace Go.Proofs.Ytenfheheepkfbaa
open Go.RowKit

def usA : List Bool := List.replicate 14 false
def usB : List Bool := setAll usA [12, 13, 0] true
def usC : List Bool := setAll usB [1] true

theorem rgL : rgE 64 8 40 = 0 ∧ rgB 64 8 40 = 14 := by decide

theorem new_L (w : World) : Calls Try.prog 24 #[.agg #[.int .i64 64, .int .i64 8, .int .i64 40]] w fun e w' =>
    ∃ b, e = .returned (.tuple #[.agg #[.int .i64 64, .int .i64 8, .int .i64 40, .slice (some ⟨b, 0, none⟩) 14 14], .int .i64 0]) ∧ Reads w' (some ⟨b, 0, none⟩) (usA.map .bool) ∧ Below w.heap.size w w' := by
  refine (new_any 64 8 40 w).mono ?_
  rintro e w' ⟨hb, h⟩
  rcases h with ⟨h, _⟩ | ⟨_, b, he, _, hh⟩
  · exact absurd rgL.1 h
  · rw [rgL.2] at he hh
    refine ⟨b, he, ?_, hb⟩
    refine .inr ⟨b, 0, rfl, (Array.getElem?_eq_some_iff.1 hh).1, fun j u hu => ?_⟩
    rw [cell_of_row w' b (0 + j) _ _ (0, 0) hh, fill_eq]
    unfold usA at hu
    simp only [List.map_replicate, List.getElem?_replicate] at hu
    split at hu
    · rename_i hj; simp only [Option.some.injEq] at hu; subst hu; simp [hj]
    · simp at hu

theorem alA : AlE 64 8 40 usA 12 3 = 0 ∧ allocd usA (Int.toNat 12) (Int.toNat 3) = [12, 13, 0] ∧ usA.length = 14 := by decide
theorem alB : AlE 64 8 40 usB 12 1 = 0 ∧ allocd usB (Int.toNat 12) (Int.toNat 1) = [1] ∧ usB.length = 14 := by decide
theorem cnC : CkE 64 8 40 usC.length = 0 ∧ CountN 64 8 40 usC = 10 ∧ usC.length = 14 := by decide

theorem allocA_L (A : Option Addr) (c : Nat) (w : World) (hR : Reads w A (usA.map .bool)) : Calls Try.prog 13 #[.agg #[.int .i64 64, .int .i64 8, .int .i64 40, .slice A 14 c], .int .i64 12, .int .i64 3] w fun e w' =>
    ∃ g cap av cv, e = .returned (.tuple #[.agg #[.int .i64 64, .int .i64 8, .int .i64 40, .slice (some ⟨g, 0, none⟩) 14 cap], .slice av 3 cv, .int .i64 0]) ∧ w'.ownsRow w.heap.size 4 1 (.slice (some ⟨g, 0, none⟩) 14 cap) 14 (usB.map .bool) ∧ w'.ownsRow w.heap.size 3 1 (.slice av 3 cv) 3 (([12,13,0] : List Int).map (.int .i64)) ∧ Below w.heap.size w w' := by
  have h := alloc_any 64 8 40 A c usA 12 3 w (by rw [alA.2.2]; omega) hR
  rw [alA.2.2] at h
  refine h.mono ?_
  rintro e w' ⟨hb, h⟩
  rcases h with ⟨h, _⟩ | ⟨_, g, cap, av, cv, he, h1, h2⟩
  · exact absurd alA.1 h
  · obtain ⟨_, q1, q2⟩ := alA
    simp only [q1, q2] at he h1 h2
    exact ⟨g, cap, av, cv, he, h1, h2, hb⟩

theorem allocB_L (A : Option Addr) (c : Nat) (w : World) (hR : Reads w A (usB.map .bool)) : Calls Try.prog 13 #[.agg #[.int .i64 64, .int .i64 8, .int .i64 40, .slice A 14 c], .int .i64 12, .int .i64 1] w fun e w' =>
    ∃ g cap av cv, e = .returned (.tuple #[.agg #[.int .i64 64, .int .i64 8, .int .i64 40, .slice (some ⟨g, 0, none⟩) 14 cap], .slice av 1 cv, .int .i64 0]) ∧ w'.ownsRow w.heap.size 4 1 (.slice (some ⟨g, 0, none⟩) 14 cap) 14 (usC.map .bool) ∧ w'.ownsRow w.heap.size 3 1 (.slice av 1 cv) 1 (([1] : List Int).map (.int .i64)) ∧ Below w.heap.size w w' := by
  have h := alloc_any 64 8 40 A c usB 12 1 w (by rw [alB.2.2]; omega) hR
  rw [alB.2.2] at h
  refine h.mono ?_
  rintro e w' ⟨hb, h⟩
  rcases h with ⟨h, _⟩ | ⟨_, g, cap, av, cv, he, h1, h2⟩
  · exact absurd alB.1 h
  · obtain ⟨_, q1, q2⟩ := alB
    simp only [q1, q2] at he h1 h2
    exact ⟨g, cap, av, cv, he, h1, h2, hb⟩

theorem enC : (encL usC 14).getD 0 9 = 3 ∧ (encL usC 14).getD 1 9 = 48 ∧ (encL usC 14).getD 2 9 = 0 := by decide

theorem encode_L (A : Option Addr) (c : Nat) (w : World) (hR : Reads w A (usC.map .bool)) : Calls Try.prog 26 #[.agg #[.int .i64 64, .int .i64 8, .int .i64 40, .slice A 14 c]] w fun e w' =>
    ∃ g, e = .returned (.tuple #[.slice (some ⟨g, 0, none⟩) 96 96, .int .i64 0]) ∧ w'.cell? ⟨g, 0, none⟩ = some (.int .u8 3) ∧ w'.cell? ⟨g, 1, none⟩ = some (.int .u8 48) ∧ w'.cell? ⟨g, 2, none⟩ = some (.int .u8 0) ∧ g < w'.heap.size ∧ Below w.heap.size w w' := by
  have h := encode_any 64 8 40 A c usC (by rw [cnC.2.2]; omega) w hR
  rw [cnC.2.2] at h
  refine h.mono ?_
  rintro e w' ⟨hb, h⟩
  rcases h with ⟨h, _⟩ | ⟨_, g, he, hg, hr⟩
  · exact absurd cnC.1 h
  · have hl := encL_length usC usC.length
    rw [cnC.2.2] at hl hr
    have hat : ∀ k, k < 96 → w'.cell? ⟨g, k, none⟩ = some (.int .u8 ((encL usC 14).getD k 9)) ∧ g < w'.heap.size := by
      intro k hk
      obtain ⟨b, off, hA, hlt, hc⟩ := hr.at_ (k := k) (by simpa [hl] using hk)
      simp only [Option.some.injEq, Addr.mk.injEq, and_true] at hA
      obtain ⟨rfl, rfl⟩ := hA
      rw [Nat.zero_add, List.getElem_map] at hc
      refine ⟨by rw [hc]; simp [hl, hk], hlt⟩
    obtain ⟨e0, e1, e2⟩ := enC
    exact ⟨g, he, by rw [(hat 0 (by omega)).1, e0], by rw [(hat 1 (by omega)).1, e1], by rw [(hat 2 (by omega)).1, e2], (hat 0 (by omega)).2, hb⟩

theorem count_L (A : Option Addr) (c : Nat) (w : World) (hR : Reads w A (usC.map .bool)) : Calls Try.prog 19 #[.agg #[.int .i64 64, .int .i64 8, .int .i64 40, .slice A 14 c]] w fun e w' =>
    e = .returned (.tuple #[.int .i64 10, .int .i64 0]) ∧ Below w.heap.size w w' := by
  have h := count_any 64 8 40 A c usC (by rw [cnC.2.2]; omega) w hR
  rw [cnC.2.1, cnC.1, cnC.2.2] at h
  exact h

theorem reads_lit {w : World} {g : Nat} {t : TypeId} {cs : Array Value} (h : Blk w g t cs) : Reads w (some ⟨g, 0, none⟩) cs.toList :=
  .inr ⟨g, 0, rfl, h.lt, fun j u hu => by rw [h.cells, Nat.zero_add]; simpa using hu⟩
theorem ints3_L (A B : Option Addr) (c d : Nat) (w : World) (hx : Reads w A (([12, 13, 0] : List Int).map (.int .i64))) (hy : Reads w B (([12, 13, 0] : List Int).map (.int .i64))) :
    Calls Try.prog 18 #[.slice A 3 c, .slice B 3 d] w fun e w' => e = .returned (.bool true) ∧ Below w.heap.size w w' := by
  have h := ints_any A B c d [12, 13, 0] [12, 13, 0] w hx hy (by decide) (by decide)
  exact h.mono fun e w' ⟨he, hb⟩ => ⟨by rw [he]; rfl, hb⟩
theorem ints1_L (A B : Option Addr) (c d : Nat) (w : World) (hx : Reads w A (([1] : List Int).map (.int .i64))) (hy : Reads w B (([1] : List Int).map (.int .i64))) :
    Calls Try.prog 18 #[.slice A 1 c, .slice B 1 d] w fun e w' => e = .returned (.bool true) ∧ Below w.heap.size w w' := by
  have h := ints_any A B c d [1] [1] w hx hy (by decide) (by decide)
  exact h.mono fun e w' ⟨he, hb⟩ => ⟨by rw [he]; rfl, hb⟩

end Go.Proofs.Ytenfheheepkfbaa
