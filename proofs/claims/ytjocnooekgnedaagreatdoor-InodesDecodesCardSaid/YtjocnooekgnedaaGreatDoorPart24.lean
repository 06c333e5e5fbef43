/- blocks.free hands back its iterator; Alloc. -/
import Derived.Test.YtjocnooekgnedaaGreatDoorPart23
set_option linter.unusedVariables false
set_option linter.unusedSimpArgs false
namespace Go.Proofs.YtjocnooekgnedaaGreatDoor
open Go.RowKit Go.Shelf

attribute [local go_sem] Oper.semAt_some



/-- The blocks that Alloc takes. -/
def allocd (us : List Bool) (near many : Nat) : List Int := (frees us near).take many

theorem goRound_pre (us : List Bool) (near k m : Nat) (h : k ≤ m) : goRound us near k <+: goRound us near m := by
  unfold goRound
  obtain ⟨d, rfl⟩ : ∃ d, m = k + d := ⟨m - k, by omega⟩
  rw [List.range_add, List.filter_append, List.map_append]
  exact List.prefix_append _ _
theorem allocd_all {us : List Bool} {near many : Nat} (h : (frees us near).length ≤ many) : allocd us near many = frees us near := List.take_of_length_le h
theorem allocd_part {us : List Bool} {near many k : Nat} {pre : List Int} {x : Int} (hk : k ≤ us.length) (h : goRound us near k = pre ++ [x]) (hl : pre.length = many) : allocd us near many = pre := by
  obtain ⟨r, hr⟩ := goRound_pre us near k us.length hk
  unfold allocd frees
  rw [← hr, h, ← hl]
  simp
theorem allocd_in {us : List Bool} {near many : Nat} (h0 : 0 < us.length) : ∀ b ∈ allocd us near many, 0 ≤ b ∧ b < (us.length : Int) := by
  intro b hb
  have hb := List.mem_of_mem_take hb
  unfold frees goRound at hb
  simp only [List.mem_map] at hb
  obtain ⟨k, _, rfl⟩ := hb
  exact ⟨Int.emod_nonneg _ (by omega), Int.emod_lt_of_pos _ (by omega)⟩
theorem own_slice {W : World} {base : Nat} {e : TypeId} {size : Nat} {v : Value} {k : Nat} {xs : List Value} (h : W.ownsRow base e size v k xs) : ∃ a cap, v = .slice a k cap := by
  rcases h.2 with ⟨rfl, rfl⟩ | ⟨g, cap, _, rfl, _⟩
  · exact ⟨_, _, rfl⟩
  · exact ⟨_, _, rfl⟩

/-- A box of a list of ints that the call has gathered. -/
def IntsBox (B base : Nat) (l : List Int) (W : World) : Prop :=
  ∃ v, Boxed W B 24 v ∧ W.ownsRow base 3 1 v l.length (l.map (Value.int .i64)) ∧ (v = .slice none 0 0 ↔ l = [])
theorem intsBox_own (B base C : Nat) : OwnFrom C (fun (l : List Int) W => IntsBox B base l W) :=
  Own.from (holdsRow_own base B 24 3 1 (fun l : List Int => l.length) (fun l => l.map (Value.int .i64)) (fun l v => v = .slice none 0 0 ↔ l = [])) C

theorem Tryz.info3 : (Tryz.prog.info? 3).map (fun i => (i.zero, i.size, i.bytes)) = some (some (.int .i64 0), 1, 8) := by kernel_rfl

def AllocPost (s j i : Int) (A : Option Addr) (c near many : Nat) (us : List Bool) (w : World) (e : Ending) (w' : World) : Prop :=
  Below w.heap.size w w' ∧ (((frees us near).length < many ∧ e = .returned (.tuple #[.agg #[.int .i64 s, .int .i64 j, .int .i64 i, .slice A us.length c], .slice none 0 0, .int .i64 11])) ∨
    (many ≤ (frees us near).length ∧ ∃ g cap av cv, e = .returned (.tuple #[.agg #[.int .i64 s, .int .i64 j, .int .i64 i, .slice (some ⟨g, 0, none⟩) us.length cap], .slice av (allocd us near many).length cv, .int .i64 0]) ∧
      w'.ownsRow w.heap.size 4 1 (.slice (some ⟨g, 0, none⟩) us.length cap) us.length ((setAll us (allocd us near many) true).map .bool) ∧
      w'.ownsRow w.heap.size 3 1 (.slice av (allocd us near many).length cv) (allocd us near many).length ((allocd us near many).map (.int .i64))))


end Go.Proofs.YtjocnooekgnedaaGreatDoor
