/- Layer 12: a transaction and its device together; store in plain words. -/
import Derived.Test.YtfmobeeddlnhcaaGreatDoorPart36
namespace Go.Proofs.YtfmobeeddlnhcaaGreatDoor
open Go.RowKit Go.Maps

/-- A transaction and the device that it is on. -/
structure TD (w : World) (T : Nat) (F : List Nat) (D : Nat) (y : TxS) (B : List Nat) (x : DevS) : Prop where
  tx : TxAt w T F D y
  dev : DevAt w D B x
  dis : ∀ b ∈ F, b ∉ B
theorem TD.below {w w' : World} {T : Nat} {F : List Nat} {D : Nat} {y : TxS} {B : List Nat} {x : DevS} (h : TD w T F D y B x) (hb : Below w.heap.size w w') : TD w' T F D y B x := ⟨h.tx.below hb, h.dev.below hb, h.dis⟩
theorem TD.F0 {w : World} {T : Nat} {F : List Nat} {D : Nat} {y : TxS} {B : List Nat} {x : DevS} (h : TD w T F D y B x) : 0 ∉ F := fun hm => by have := (h.tx.lt 0 hm).1; omega
theorem TD.grow {w w' : World} {T : Nat} {F F' : List Nat} {D : Nat} {y y' : TxS} {B : List Nat} {x : DevS} (h : TD w T F D y B x) (ht : TxAt w' T F' D y') (g : Grow w F w' F') : TD w' T F' D y' B x :=
  ⟨ht, h.dev.grow g h.dis h.F0, fun b hb hm => by
    rcases g.new b hb with hf | hf
    · exact h.dis b hf hm
    · have := (h.dev.lt b hm).2; omega⟩
theorem TD.set_ {w : World} {T : Nat} {F : List Nat} {D : Nat} {y : TxS} {B : List Nat} {x : DevS} (h : TD w T F D y B x) {p : Addr} (hF : p.block ∉ F) (hB : p.block ∉ B) (h0 : p.block ≠ 0) (u : Value) : TD (w.setCell p u) T F D y B x :=
  ⟨h.tx.set_ hF u, h.dev.set_ hB h0 u, h.dis⟩
theorem TD.keep {w w' : World} {T : Nat} {F : List Nat} {D : Nat} {y : TxS} {B : List Nat} {x : DevS} (h : TD w T F D y B x) (hk : ∀ b, b ∈ F ∨ b ∈ B ∨ b = 0 → w'.heap[b]? = w.heap[b]?) (hs : w.heap.size ≤ w'.heap.size) : TD w' T F D y B x :=
  ⟨h.tx.frame (fun b hb => hk b (.inl hb)) hs, h.dev.frame (fun b hb => hk b (.inr hb)) hs, h.dis⟩

/-- A world that is kept below n0 but for the blocks of F; and what has become of F. -/
structure GrowN (n0 : Nat) (w : World) (F : List Nat) (w' : World) (F' : List Nat) : Prop where
  keep : KeepEx n0 F w w'
  new : ∀ b ∈ F', b ∈ F ∨ n0 ≤ b
theorem GrowN.refl (n0 : Nat) (w : World) (F : List Nat) : GrowN n0 w F w F := ⟨KeepEx.refl _ _ _, fun _ h => .inl h⟩
theorem GrowN.trans {n0 : Nat} {w w1 w2 : World} {F F1 F2 : List Nat} (h : GrowN n0 w F w1 F1) (k : GrowN n0 w1 F1 w2 F2) : GrowN n0 w F w2 F2 :=
  ⟨⟨k.keep.os.trans h.keep.os, k.keep.tape.trans h.keep.tape, k.keep.output.trans h.keep.output, Nat.le_trans h.keep.size k.keep.size, fun b hb hn => (k.keep.block b hb (fun hm => (h.new b hm).elim hn (fun h9 => by omega))).trans (h.keep.block b hb hn)⟩,
   fun b hb => (k.new b hb).elim (fun h1 => h.new b h1) .inr⟩
theorem Grow.toN {n0 : Nat} {w w' : World} {F F' : List Nat} (h : Grow w F w' F') (hn : n0 ≤ w.heap.size) : GrowN n0 w F w' F' :=
  ⟨⟨h.keep.os, h.keep.tape, h.keep.output, h.keep.size, fun b hb hm => h.keep.block b (by omega) hm⟩, fun b hb => (h.new b hb).imp id (fun h1 => by omega)⟩
theorem GrowN.of_below {n0 : Nat} {w w' : World} (h : Below w.heap.size w w') (hn : n0 ≤ w.heap.size) (F : List Nat) : GrowN n0 w F w' F := (Grow.of_below h F).toN hn
theorem GrowN.set_ {n0 : Nat} {w V : World} {F F' : List Nat} (h : GrowN n0 w F V F') {p : Addr} (hp : n0 ≤ p.block) (u : Value) : GrowN n0 w F (V.setCell p u) F' :=
  ⟨h.keep.trans (KeepEx.setCell V (.inr hp) u), h.new⟩
theorem GrowN.toGrow {w w' : World} {F F' : List Nat} (h : GrowN w.heap.size w F w' F') : Grow w F w' F' := ⟨h.keep, h.new⟩

/-- The list of blocks made as long as the parts. -/
def TxS.fit (y : TxS) (l : List Int) (n : Nat) : Int × TxS × List Int :=
  if n < l.length then ((y.free (l.drop n)).1, (y.free (l.drop n)).2, l.take n)
  else if l.length < n then ((y.take (l.getD (l.length - 1) 0) ((n : Int) - l.length)).1, (y.take (l.getD (l.length - 1) 0) ((n : Int) - l.length)).2, l ++ y.takeL (l.getD (l.length - 1) 0) ((n : Int) - l.length))
  else (0, y, l)
def TxS.puts (y : TxS) (x : DevS) (kd : Int) (l : List Int) (ps : List ByteArray) : Nat → Int × TxS
  | 0 => (0, y)
  | k + 1 =>
    if (y.puts x kd l ps k).1 ≠ 0 then y.puts x kd l ps k
    else if ((y.puts x kd l ps k).2.part x kd (l.getD k 0)).2 = 0 ∧ ((y.puts x kd l ps k).2.part x kd (l.getD k 0)).1 = ps.getD k ⟨#[]⟩ then y.puts x kd l ps k
    else (y.puts x kd l ps k).2.write (SecV y.s y.j y.i (l.getD k 0)) kd (ps.getD k ⟨#[]⟩)
def TxS.store (y : TxS) (x : DevS) (kd : Int) (l : List Int) (ps : List ByteArray) : Int × TxS × List Int :=
  if (y.fit l ps.length).1 ≠ 0 then ((y.fit l ps.length).1, (y.fit l ps.length).2.1, [])
  else if ((y.fit l ps.length).2.1.puts x kd (y.fit l ps.length).2.2 ps ps.length).1 ≠ 0 then (((y.fit l ps.length).2.1.puts x kd (y.fit l ps.length).2.2 ps ps.length).1, ((y.fit l ps.length).2.1.puts x kd (y.fit l ps.length).2.2 ps ps.length).2, [])
  else (0, ((y.fit l ps.length).2.1.puts x kd (y.fit l ps.length).2.2 ps ps.length).2, (y.fit l ps.length).2.2)

def TxS.Same (a b : TxS) : Prop := a.s = b.s ∧ a.j = b.j ∧ a.i = b.i
theorem TxS.write_same (y : TxS) (a k : Int) (d : ByteArray) : (y.write a k d).2.Same y := by
  unfold TxS.write TxS.brk; split
  · exact ⟨rfl, rfl, rfl⟩
  · split <;> exact ⟨rfl, rfl, rfl⟩
theorem TxS.change_same (y : TxS) (us : List Bool) (n : Nat) : (y.change us n).Same y := by
  unfold TxS.change; split
  · exact ⟨rfl, rfl, rfl⟩
  · split <;> exact ⟨rfl, rfl, rfl⟩
theorem TxS.free_same (y : TxS) (l : List Int) : (y.free l).2.Same y := by
  unfold TxS.free TxS.brk; split
  · exact ⟨rfl, rfl, rfl⟩
  · split
    · exact ⟨rfl, rfl, rfl⟩
    · exact TxS.change_same _ _ _
theorem TxS.take_same (y : TxS) (a b : Int) : (y.take a b).2.Same y := by
  unfold TxS.take TxS.brk; split
  · exact ⟨rfl, rfl, rfl⟩
  · split
    · exact ⟨rfl, rfl, rfl⟩
    · exact TxS.change_same _ _ _
theorem TxS.Same.trans {a b c : TxS} (h : a.Same b) (k : b.Same c) : a.Same c := ⟨h.1.trans k.1, h.2.1.trans k.2.1, h.2.2.trans k.2.2⟩
theorem TxS.puts_same (y : TxS) (x : DevS) (kd : Int) (l : List Int) (ps : List ByteArray) (k : Nat) : (y.puts x kd l ps k).2.Same y := by
  induction k with
  | zero => exact ⟨rfl, rfl, rfl⟩
  | succ k ih =>
    unfold TxS.puts
    split
    · exact ih
    · split
      · exact ih
      · exact (TxS.write_same _ _ _ _).trans ih
theorem TxS.puts_stay {y : TxS} {x : DevS} {kd : Int} {l : List Int} {ps : List ByteArray} {k m : Nat} (h : (y.puts x kd l ps k).1 ≠ 0) (hm : k ≤ m) : y.puts x kd l ps m = y.puts x kd l ps k := by
  induction m with
  | zero =>
    obtain rfl : k = 0 := by omega
    rfl
  | succ m ih =>
    by_cases e : k = m + 1
    · rw [e]
    · have ih := ih (by omega)
      have h2 : (y.puts x kd l ps m).1 ≠ 0 := by rw [ih]; exact h
      show (if (y.puts x kd l ps m).1 ≠ 0 then y.puts x kd l ps m else _) = _
      rw [if_pos h2]; exact ih
theorem SecV_bds (s j i b : Int) : 0 ≤ SecV s j i b ∧ SecV s j i b ≤ 1000 := by
  have h1 := rgD_bds s j i
  have h2 := rgB_bds s j i
  unfold SecV
  split
  · rename_i h
    unfold SecE at h
    split at h
    · split at h
      · cases h
      · omega
    · rename_i h3; exact absurd h h3
  · omega
theorem TxS.takeL_len (y : TxS) (a b : Int) : (y.take a b).1 = 0 → b.toNat = (y.takeL a b).length := by
  unfold TxS.take TxS.takeL
  intro h
  split at h
  · rename_i h1; exact absurd h h1
  · rename_i h1
    split at h
    · rename_i h2; exact absurd h h2
    · rename_i h2
      rw [if_neg h1, if_neg h2]
      have h3 : y.takeE a b = 0 := by simpa using h2
      have h4 : AlE y.s y.j y.i y.may a b = 0 := by
        unfold TxS.takeE at h3
        split at h3
        · rename_i h5; exact absurd h3 h5
        · rename_i h5; simpa using h5
      unfold AlE at h4
      split at h4
      · split at h4
        · cases h4
        · split at h4
          · cases h4
          · unfold allocd; rw [List.length_take]; omega
      · rename_i h6; exact absurd h4 h6

end Go.Proofs.YtfmobeeddlnhcaaGreatDoor
