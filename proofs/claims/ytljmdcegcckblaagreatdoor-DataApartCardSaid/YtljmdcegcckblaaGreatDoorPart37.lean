/- Parts of the proof, put together by program: IJ, B3, DA. -/
import Derived.Test.YtljmdcegcckblaaGreatDoorPart36
import Derived.Test.YtljmdcegcckblaaGreatDoorPart34
/- Layer 10 in plain words: a device that transactions live on: Commit of one, Begin of the next. No program in sight. -/
namespace Go.Proofs.YtljmdcegcckblaaGreatDoor
open Go.RowKit Go.Maps

/-- A device with a layout, the blocks of us being used. -/
structure Live (x : DevS) (s j i : Int) (us : List Bool) (N : Nat) : Prop where
  runs : x.Runs N
  size : (x.stable.length : Int) = s
  head : ∃ q, HeadAt x 1 q
  map_ : x.ge (1 + j) = 0 ∧ ∃ q, x.fr (1 + j) = ⟨5, q, mapS us⟩
  len : us.length = (rgB s j i).toNat
theorem Live.mono {x : DevS} {s j i : Int} {us : List Bool} {N M : Nat} (h : Live x s j i us N) (hm : M ≤ N) : Live x s j i us M := ⟨h.runs.mono hm, h.size, h.head, h.map_, h.len⟩
theorem Fresh.live {y : DevS} {s j i : Int} {N : Nat} (h : Fresh y s j i N) : Live y s j i (List.replicate (rgB s j i).toNat false) N := ⟨h.runs, h.size, ⟨1, h.head⟩, ⟨h.map_.1, 1, h.map_.2⟩, List.length_replicate ..⟩
/-- A transaction that has begun. -/
def begTx (s j i : Int) (us : List Bool) : TxS := ⟨s, j, i, us, us, [], false, false, false⟩
end Go.Proofs.YtljmdcegcckblaaGreatDoor
/- TxnBlocks in plain words: what Take and Free make of the blocks. No program in sight. -/
namespace Go.Proofs.YtljmdcegcckblaaGreatDoor
open Go.RowKit Go.Maps

theorem changeE_zero {y : TxS} {us : List Bool} {n : Nat} (h : y.changeE n = 0) (hn : n ≠ 0) : (y.change us n).now = us := by
  unfold TxS.changeE at h
  unfold TxS.change
  rw [if_neg hn] at h ⊢
  split
  · rename_i h2; rw [if_pos h2] at h; exact absurd (show (12 : Int) = 0 from h) (by decide)
  · rfl
theorem orL_free {a b : List Bool} (h : a.length = b.length) {k : Nat} (hk : k < a.length) (hf : (orL a b).getD k false = false) : a.getD k true = false ∧ b.getD k true = false := by
  have e : (orL a b)[k]? = some (a[k] || b[k]'(h ▸ hk)) := by
    unfold orL
    rw [List.getElem?_zipWith, List.getElem?_eq_getElem hk, List.getElem?_eq_getElem (h ▸ hk)]
  rw [List.getD_eq_getElem?_getD, e] at hf
  simp only [Option.getD_some, Bool.or_eq_false_iff] at hf
  rw [List.getD_eq_getElem?_getD, List.getElem?_eq_getElem hk, List.getD_eq_getElem?_getD, List.getElem?_eq_getElem (h ▸ hk)]
  exact hf

theorem take_good {y : TxS} {near many : Int} (ok : y.Ok) (hs : y.stateE = 0) (h : (y.take near many).1 = 0) :
    ((y.takeL near many).length : Int) = many ∧ ∀ b ∈ y.takeL near many, 0 ≤ b ∧ b < y.now.length ∧ y.was.getD b.toNat true = false ∧ y.now.getD b.toNat true = false ∧ (y.take near many).2.now.getD b.toNat false = true := by
  have hwl : y.now.length = y.was.length := by rw [ok.now, ok.was]
  have hml : y.may.length = y.now.length := orL_length hwl
  have hC : CkE y.s y.j y.i y.may.length = 0 := by rw [hml]; exact ok_ckE ok
  have hs' : ¬ y.stateE ≠ 0 := by simpa using hs
  by_cases hA : AlE y.s y.j y.i y.may near many = 0
  rotate_left
  · obtain ⟨e, -⟩ := take_a hs hA
    rw [e] at h
    exact absurd h hA
  obtain ⟨e1, e2⟩ := take_b hs hA _ rfl
  rw [e1] at h
  have hch : y.changeE (allocd y.may near.toNat many.toNat).length = 0 := h
  rw [if_pos hch] at e2
  have hnr := AlE_near hC hA
  unfold AlE at hA
  rw [if_pos hC] at hA
  split at hA
  · exact absurd (show (7 : Int) = 0 from hA) (by decide)
  rename_i hr
  split at hA
  · exact absurd (show (11 : Int) = 0 from hA) (by decide)
  rename_i hf
  have hlen : (allocd y.may near.toNat many.toNat).length = many.toNat := by
    unfold allocd; rw [List.length_take]; omega
  refine ⟨by rw [e2, hlen]; omega, fun b hb => ?_⟩
  rw [e2] at hb
  obtain ⟨h1, h2⟩ := allocd_in (by omega) b hb
  rw [hml] at h2
  obtain ⟨h3, h4⟩ := orL_free hwl (k := b.toNat) (by omega) (allocd_free hb)
  refine ⟨h1, h2, h4, h3, ?_⟩
  have hne : (allocd y.may near.toNat many.toNat).length ≠ 0 := fun e => by
    have := List.eq_nil_of_length_eq_zero e
    rw [this] at hb; cases hb
  rw [e1, hch, TxS.after_0]
  show (y.change _ _).now.getD b.toNat false = true
  rw [changeE_zero hch hne]
  have hv := setAll_val y.now (allocd y.may near.toNat many.toNat) true b.toNat (by omega) (fun x hx => (allocd_in (by omega) x hx).1)
  rw [List.getD_eq_getElem?_getD, hv, Int.toNat_of_nonneg h1, if_pos hb]
  rfl

end Go.Proofs.YtljmdcegcckblaaGreatDoor
/- Layer 12 in plain words: what Store makes of the blocks and of what they hold. No program in sight. -/
namespace Go.Proofs.YtljmdcegcckblaaGreatDoor
open Go.RowKit Go.Maps

/-- A list of blocks that are used, each once. -/
structure Lst (y : TxS) (l : List Int) : Prop where
  rng : ∀ b ∈ l, 0 ≤ b ∧ b < (y.now.length : Int)
  nd : l.Nodup
  used : ∀ b ∈ l, y.now.getD b.toNat false = true
theorem Lst.nil (y : TxS) : Lst y [] := ⟨fun _ h => (by cases h), List.nodup_nil, fun _ h => (by cases h)⟩

/-- What fit makes. -/
structure Fitted (y y1 : TxS) (l L : List Int) (n : Nat) : Prop where
  len : L.length = n
  same : y1.Same y
  st : y1.stateE = 0
  wr : y1.writes = y.writes
  nlen : y1.now.length = y.now.length
  lst : Lst y1 L
  out : ∀ b : Int, 0 ≤ b → b < (y.now.length : Int) → b ∉ l → b ∉ L → y1.now.getD b.toNat false = y.now.getD b.toNat false
  old : ∀ b ∈ L, b ∈ l ∨ y.now.getD b.toNat false = false

def partW (wr : List Rec) (x : DevS) (kd a : Int) : ByteArray × Int :=
  match atRec wr a with
  | some r => if r.kind ≠ kd then (⟨#[]⟩, 6) else (r.data, 0)
  | none => if x.ge a = 0 ∧ (x.fr a).kind ≠ kd then (⟨#[]⟩, 6) else ((x.fr a).data, x.ge a)
/-- What the first k writes make. -/
structure PutsTo (y y2 : TxS) (x : DevS) (kd : Int) (L : List Int) (ps : List ByteArray) (k : Nat) : Prop where
  same : y2.Same y
  st : y2.stateE = 0
  now : y2.now = y.now
  hit : ∀ i, i < k → y2.part x kd (L.getD i 0) = (ps.getD i ⟨#[]⟩, 0)
  out : ∀ b kd' : Int, 0 ≤ b → b < rgB y.s y.j y.i → b ∉ L.take k → y2.part x kd' b = y.part x kd' b
/-- What Store makes. -/
structure Stored (y y2 : TxS) (x : DevS) (kd : Int) (l L : List Int) (ps : List ByteArray) : Prop where
  len : L.length = ps.length
  same : y2.Same y
  st : y2.stateE = 0
  nlen : y2.now.length = y.now.length
  lst : Lst y2 L
  hit : ∀ i, i < ps.length → y2.part x kd (L.getD i 0) = (ps.getD i ⟨#[]⟩, 0)
  out : ∀ b : Int, 0 ≤ b → b < (y.now.length : Int) → b ∉ l → b ∉ L → y2.now.getD b.toNat false = y.now.getD b.toNat false ∧ ∀ kd', y2.part x kd' b = y.part x kd' b
  old : ∀ b ∈ L, b ∈ l ∨ y.now.getD b.toNat false = false
end Go.Proofs.YtljmdcegcckblaaGreatDoor
