/- Parts of the proof, put together by program: B2, TL, B4. -/
import Derived.Test.YtfgfdjaiamaelaaGreatDoorPart39
import Derived.Test.YtfgfdjaiamaelaaGreatDoorPart42
/- TxnReads in plain words: transactions that write the blocks 50 to 55. No program in sight. -/
namespace Go.Proofs.YtfgfdjaiamaelaaGreatDoor
open Go.RowKit Go.Maps

theorem asc_len {l : List Rec} (h : Asc l) : ∀ (lo : Int) (n : Nat), (∀ r ∈ l, lo ≤ r.at_ ∧ r.at_ < lo + n) → l.length ≤ n := by
  induction l with
  | nil => intro _ _ _; exact Nat.zero_le _
  | cons x t ih =>
    intro lo n hr
    obtain ⟨h1, h2⟩ := List.pairwise_cons.1 h
    have hx := hr x (by simp)
    have := ih h2 (x.at_ + 1) (lo + n - (x.at_ + 1)).toNat (fun r hm => by
      have a := h1 r hm
      have b := hr r (List.mem_cons_of_mem _ hm)
      omega)
    rw [List.length_cons]
    omega

/-- What a transaction has written there. -/
structure InTx (y : TxS) (us : List Bool) (g : Nat → Option ByteArray) : Prop where
  s : y.s = 64
  j : y.j = 8
  i : y.i = 40
  ch : y.changed = false
  br : y.broken = false
  en : y.ended = false
  was : y.was = us
  now : y.now = us
  asc : Asc y.writes
  recs : ∀ r ∈ y.writes, 50 ≤ r.at_ ∧ r.at_ < 56 ∧ r.kind = 8 ∧ r.data.size ≤ 96
  val : ∀ b : Nat, b < 6 → (atRec y.writes (50 + b)).map (·.data) = g b
def DevHolds (x : DevS) (f : Nat → Option ByteArray) : Prop := ∀ b : Nat, b < 6 → (f b = none → x.ge (50 + b) ≠ 0) ∧ (∀ d, f b = some d → x.ge (50 + b) = 0 ∧ ∃ q, x.fr (50 + b) = ⟨8, q, d⟩)
def over (g f : Nat → Option ByteArray) (b : Nat) : Option ByteArray := match g b with | some d => some d | none => f b
def putAt (g : Nat → Option ByteArray) (b : Nat) (d : ByteArray) (k : Nat) : Option ByteArray := if k = b then some d else g k

theorem InTx.state {y : TxS} {us : List Bool} {g : Nat → Option ByteArray} (h : InTx y us g) : y.stateE = 0 := by unfold TxS.stateE; rw [h.br, h.en]; rfl
theorem InTx.begun (us : List Bool) : InTx (begTx 64 8 40 us) us (fun _ => none) := ⟨rfl, rfl, rfl, rfl, rfl, rfl, rfl, rfl, List.Pairwise.nil, fun _ h => (by cases h), fun _ _ => rfl⟩
theorem InTx.clean {y : TxS} {us : List Bool} {g : Nat → Option ByteArray} (h : InTx y us g) : y.Clean :=
  ⟨h.asc, fun r hr => by have := h.recs r hr; have := h.j; omega, fun r hr => (h.recs r hr).2.2.2, by have := h.j; omega⟩
theorem InTx.left {y : TxS} {us : List Bool} {g : Nat → Option ByteArray} (h : InTx y us g) : y.left = 6 - y.writes.length := by
  unfold TxS.left TxS.most; rw [h.ch, h.j]; simp; omega
theorem InTx.ok {y : TxS} {us : List Bool} {g : Nat → Option ByteArray} (h : InTx y us g) (hu : us.length = 14) : y.Ok := by
  refine ⟨by rw [h.s, h.j, h.i]; decide, by rw [h.was, h.s, h.j, h.i, hu]; decide, by rw [h.now, h.s, h.j, h.i, hu]; decide, fun r hr => ?_, ?_⟩
  · have h1 := h.recs r hr; have := h.s; have h2 : r.data.data.size ≤ 96 := h1.2.2.2; omega
  · rw [h.left]
    have := asc_len h.asc 50 6 (fun r hr => by have := h.recs r hr; omega)
    omega
theorem InTx.write {y : TxS} {us : List Bool} {g : Nat → Option ByteArray} (h : InTx y us g) (b : Nat) (hb : b < 6) (d : ByteArray) (hd : d.size ≤ 96) : (y.write (50 + b) 8 d).1 = 0 ∧ InTx (y.write (50 + b) 8 d).2 us (putAt g b d) := by
  have hasc := insRec_asc h.asc ⟨50 + b, 8, d⟩
  have hmem : ∀ r ∈ insRec y.writes ⟨50 + b, 8, d⟩, 50 ≤ r.at_ ∧ r.at_ < 56 ∧ r.kind = 8 ∧ r.data.size ≤ 96 := fun r hr => by
    rcases insRec_mem hr with rfl | hr
    · exact ⟨by show (50 : Int) ≤ 50 + b; omega, by show (50 : Int) + b < 56; omega, rfl, hd⟩
    · exact h.recs r hr
  have hl := asc_len hasc 50 6 (fun r hr => by have := hmem r hr; omega)
  have hwe : y.writeE (50 + b) 8 d.size = 0 := by
    unfold TxS.writeE
    rw [if_neg (by rw [h.j]; omega), if_neg (by rw [h.s]; omega), if_neg (by omega), if_neg ?_]
    rintro ⟨h1, h2⟩
    rw [insRec_length h.asc] at hl
    have h3 : (atRec y.writes ((⟨50 + b, 8, d⟩ : Rec).at_)).isSome = false := by
      cases e : atRec y.writes ((⟨50 + b, 8, d⟩ : Rec).at_) with
      | none => rfl
      | some r => rw [show atRec y.writes (50 + (b : Int)) = some r from e] at h1; cases h1
    rw [h3] at hl
    rw [h.left] at h2
    simp at hl
    omega
  have e : y.write (50 + b) 8 d = (0, { y with writes := insRec y.writes ⟨50 + b, 8, d⟩ }) := by
    unfold TxS.write
    rw [if_neg (by simpa using h.state), if_neg (by simpa using hwe)]
  rw [e]
  refine ⟨rfl, h.s, h.j, h.i, h.ch, h.br, h.en, h.was, h.now, hasc, hmem, fun k hk => ?_⟩
  show (atRec (insRec y.writes ⟨50 + b, 8, d⟩) (50 + k)).map (·.data) = putAt g b d k
  rw [insRec_at]
  unfold putAt
  by_cases e1 : k = b
  · rw [if_pos e1, if_pos (by show (50 : Int) + b = 50 + k; omega)]; rfl
  · rw [if_neg e1, if_neg (by show ¬ ((50 : Int) + b = 50 + k); omega)]; exact h.val k hk

theorem InTx.reads {y : TxS} {us : List Bool} {g f : Nat → Option ByteArray} {x : DevS} (h : InTx y us g) (hx : DevHolds x f) (b : Nat) (hb : b < 6) :
    (over g f b = none → (y.read x (50 + b)).2.2 ≠ 0) ∧ (∀ d, over g f b = some d → y.read x (50 + b) = (8, d, 0)) := by
  have hv := h.val b hb
  obtain ⟨h1, h2⟩ := hx b hb
  have e : y.read x (50 + b) = y.readR x (50 + b) := by
    unfold TxS.read
    rw [if_neg (by simpa using h.state), if_neg (by rw [h.s]; omega)]
  have el : y.look (50 + b) = atRec y.writes (50 + b) := by unfold TxS.look; rw [if_neg (by rw [h.ch]; simp)]
  rw [e]
  unfold TxS.readR
  rw [el]
  unfold over
  cases ha : atRec y.writes (50 + (b : Int)) with
  | some r =>
    rw [ha] at hv
    have hr := (atRec_mem ha).1
    have hk := (h.recs r hr).2.2.1
    rw [← hv]
    simp only [Option.map_some]
    exact ⟨fun e => (by cases e), fun d e => by cases e; rw [hk]⟩
  | none =>
    rw [ha] at hv
    rw [← hv]
    simp only [Option.map_none]
    exact ⟨h1, fun d e => by obtain ⟨k1, q, k2⟩ := h2 d e; rw [k1, k2]⟩

theorem InTx.commit {y : TxS} {us : List Bool} {g f : Nat → Option ByteArray} {x : DevS} {N : Nat} (h : InTx y us g) (hu : us.length = 14) (hl : Live x 64 8 40 us (N + 200)) (hx : DevHolds x f) :
    ∃ x', y.commit x = (0, x') ∧ Live x' 64 8 40 us N ∧ DevHolds x' (over g f) := by
  obtain ⟨x', e, l, hw, ho⟩ := commit_live (N := N) (us := us) (h.ok hu) h.clean (by rw [h.s, h.j, h.i]; exact hl) (fun _ => h.now)
  rw [h.s, h.j, h.i, h.now] at l
  refine ⟨x', e, l, fun b hb => ?_⟩
  have hv := h.val b hb
  obtain ⟨h1, h2⟩ := hx b hb
  unfold over
  cases ha : atRec y.writes (50 + (b : Int)) with
  | some r =>
    rw [ha] at hv
    obtain ⟨hr, hat⟩ := atRec_mem ha
    obtain ⟨k1, q, k2⟩ := hw r hr
    rw [hat] at k1 k2
    rw [← hv]
    simp only [Option.map_some]
    exact ⟨fun e => (by cases e), fun d e => by cases e; exact ⟨k1, q, by rw [k2, (h.recs r hr).2.2.1]⟩⟩
  | none =>
    rw [ha] at hv
    have hs := ho (50 + b) (by omega) (by rw [h.s]; omega) (by rw [h.j]; omega) (fun hm => by
      obtain ⟨r, hr, he⟩ := List.mem_map.1 hm
      exact atRec_none ha r hr he)
    rw [← hv]
    simp only [Option.map_none]
    rw [hs.1, hs.2]
    exact ⟨h1, h2⟩
theorem DevHolds.fresh {x : DevS} {N : Nat} (h : Fresh x 64 8 40 N) : DevHolds x (fun _ => none) := fun b hb => ⟨fun _ => by rw [h.blank (50 + b) (by omega) (by omega)]; decide, fun d e => (by cases e)⟩

end Go.Proofs.YtfgfdjaiamaelaaGreatDoor
/- The laws of layer 10: what a transaction reads of six blocks. -/
namespace Go.Proofs.YtfgfdjaiamaelaaGreatDoor
open Go.RowKit Go.Maps

def plusB (d : ByteArray) : ByteArray := ⟨#[43]⟩ ++ d
def wantS (o : Option ByteArray) : ByteArray := match o with | none => ⟨#[]⟩ | some d => plusB d
def wantArr (h : Nat → Option ByteArray) : Array Value := #[.string (wantS (h 0)), .string (wantS (h 1)), .string (wantS (h 2)), .string (wantS (h 3)), .string (wantS (h 4)), .string (wantS (h 5))]
theorem six (k : Nat) (hk : k < 6) : k = 0 ∨ k = 1 ∨ k = 2 ∨ k = 3 ∨ k = 4 ∨ k = 5 := by omega
theorem wantArr_at (h : Nat → Option ByteArray) (k : Nat) (hk : k < 6) : (wantArr h)[k]? = some (.string (wantS (h k))) := by
  rcases six k hk with rfl | rfl | rfl | rfl | rfl | rfl <;> rfl
theorem wantArr_put (h : Nat → Option ByteArray) (k : Nat) (hk : k < 6) (d : ByteArray) : (wantArr h).setIfInBounds k (.string (plusB d)) = wantArr (putAt h k d) := by
  rcases six k hk with rfl | rfl | rfl | rfl | rfl | rfl <;> rfl
theorem over_put (g f : Nat → Option ByteArray) (b : Nat) (d : ByteArray) : over (putAt g b d) f = putAt (over g f) b d := by
  funext k
  unfold over putAt
  by_cases h : k = b <;> simp [h]
theorem over_none (f : Nat → Option ByteArray) : over (fun _ => none) f = f := rfl
theorem plus_ne (d : ByteArray) : (plusB d).toList.isEmpty = false := by
  unfold plusB
  have h1 : (⟨#[43]⟩ ++ d : ByteArray).size = 1 + d.size := by rw [ByteArray.size_append]; rfl
  have h2 := strL_length (⟨#[43]⟩ ++ d)
  rw [h1] at h2
  have h3 : (⟨#[43]⟩ ++ d : ByteArray).toList.length = 1 + d.size := by
    rw [ByteArray.toList_eq, Array.length_toList]; exact h1
  cases h : (⟨#[43]⟩ ++ d : ByteArray).toList with
  | nil => rw [h] at h3; simp at h3; omega
  | cons => rfl

section
variable {w0 w : World} {T : Nat} {F : List Nat} {D : Nat} {y : TxS} {B : List Nat} {x : DevS}
set_option maxRecDepth 100000 in
set_option maxHeartbeats 4000000 in
theorem reads10_any {us : List Bool} {g f : Nat → Option ByteArray} (h : Play w0 w T F D y B x) (hi : InTx y us g) (hx : DevHolds x f) (hsz : ∀ k d, over g f k = some d → d.size ≤ 1000) :
    Calls Tryz.prog 20 #[.pointer (some ⟨T, 0, none⟩), .agg (wantArr (over g f))] w fun e w' => e = .returned (.bool true) ∧ Below w.heap.size w w' := by
  obtain ⟨wA, hA⟩ : ∃ wA, wA = w.alloc (.cells (wantArr (over g f)) 49) := ⟨_, rfl⟩
  have bA : Blk wA w.heap.size 49 (wantArr (over g f)) := by rw [hA]; exact Blk.new _ _ _
  have BA : Below w.heap.size w wA := by rw [hA]; exact (Below.refl _ _).alloc (Nat.le_refl _) _
  have h1 := h.below BA
  have hrd := fun k hk => InTx.reads hi hx k hk
  have HAT := Lib.hid (wantArr_at (over g f))
  generalize over g f = gf at *
  clear h hx hi
  unfold wantArr at hA ⊢
  go_enter Tryz.func20, Tryz.ntmps20
  go_wp2_with fail
  rw [← hA]
  clear hA
  go_wp2_with fail
  go_loopw [5] (fun q wr => ∃ k : Nat, k ≤ 6 ∧ q = .int .i64 k ∧ Below wA.heap.size wA wr) (fun q _ => 6 - (intOf q).toNat)
  case atStart => exact ⟨0, Nat.zero_le _, rfl, Below.refl _ _⟩
  case round =>
    obtain ⟨k, hk, rfl, hb⟩ := hrel
    have B1 := BA.trans (hb.mono BA.size)
    by_cases hlt : k < 6
    · have hp := h1.below hb
      have b1 := bA.belowAll hb
      have f1 := play_read hp (50 + k)
      have hr := hrd k hlt
      have cb : wr.cell? ⟨w.heap.size, k, none⟩ = some (.string (wantS (gf k))) := (b1.cells k).trans (HAT.out k hlt)
      have lb := b1.lt
      cases hg : gf k with
      | none =>
        rw [hg] at cb
        have hne := hr.1 hg
        generalize y.read x (50 + k) = r at *
        obtain ⟨rk, rd, E⟩ := r
        simp only at hne f1
        have hq : (E == 0) = false := by simpa using hne
        have hz : wantS none = ⟨#[]⟩ := rfl
        rw [hz] at cb
        clear hne hr hz
        go_wp2_with fail
        refine f1.mono ?_
        rintro e w2 ⟨rfl, hb2⟩
        have b2 := b1.belowAll hb2
        have cb : w2.cell? ⟨w.heap.size, k, none⟩ = some (.string ⟨#[]⟩) := (b2.cells k).trans ((HAT.out k hlt).trans (by rw [hg]; rfl))
        have lb := b2.lt
        have hB2 := hb.trans (hb2.mono hb.size)
        clear f1
        go_wp2_with fail
        go_roundw
        case rel => exact ⟨k + 1, by omega, by go_num, hB2⟩
        case measure => simp [intOf]; omega
      | some d =>
        rw [hg] at cb
        have hsd := hsz k d hg
        rw [hr.2 d hg] at f1
        clear hr
        go_wp2_with fail
        refine f1.mono ?_
        rintro e w2 ⟨rfl, hb2⟩
        have b2 := b1.belowAll hb2
        have cb : w2.cell? ⟨w.heap.size, k, none⟩ = some (.string (plusB d)) := (b2.cells k).trans ((HAT.out k hlt).trans (by rw [hg]; rfl))
        have lb := b2.lt
        have hB2 := hb.trans (hb2.mono hb.size)
        have hpl := plus_ne d
        unfold plusB at cb hpl
        clear f1
        go_wp2_with fail
        go_roundw
        case rel => exact ⟨k + 1, by omega, by go_num, hB2⟩
        case measure => simp [intOf]; omega
    · obtain rfl : k = 6 := by omega
      go_wp2_with fail
      go_ret
      exact ⟨rfl, B1⟩
end
end Go.Proofs.YtfgfdjaiamaelaaGreatDoor
/- TxnFull in plain words: a transaction of as many records as the journal admits. No program in sight. -/
namespace Go.Proofs.YtfgfdjaiamaelaaGreatDoor
open Go.RowKit Go.Maps

def bX : ByteArray := ⟨#[120]⟩
def bY : ByteArray := ⟨#[121]⟩
def fullStep (y : TxS) (i : Nat) : TxS := ((y.write (63 - i) 8 bX).2.write (63 - i) 8 bY).2
def fullN (y : TxS) : Nat → TxS
  | 0 => y
  | n + 1 => fullStep (fullN y n) n
def fullBeg (j : Int) (take : Bool) (us : List Bool) : TxS := if take then ((begTx 64 j 30 us).take 0 1).2 else begTx 64 j 30 us
def fullM (j : Nat) (take : Bool) : Nat := if take then j - 3 else j - 2
/-- The whole transaction. -/
def fullTx (j : Nat) (take : Bool) (us : List Bool) : TxS := fullN (fullBeg j take us) (fullM j take)
def us0 (j : Nat) : List Bool := List.replicate (32 - j) false
def us1 (j : Nat) (take : Bool) : List Bool := (fullTx j take (us0 j)).now
/-- All that the law asks of one round. -/
def fullOk (j : Nat) (take : Bool) (us : List Bool) : Bool :=
  (!take || (((begTx 64 j 30 us).take 0 1).1 == 0 && ((begTx 64 j 30 us).takeL 0 1).length == 1)) &&
  ((List.range (fullM j take)).all fun i => ((fullN (fullBeg j take us) i).write (63 - i) 8 bX).1 == 0 && (((fullN (fullBeg j take us) i).write (63 - i) 8 bX).2.write (63 - i) 8 bY).1 == 0) &&
  (fullTx j take us).left == 0 && (fullTx j take us).stateE == 0 && (fullTx j take us).recs.length == j - 2 && ((fullTx j take us).write 0 4 ⟨#[]⟩).1 == 12 && ((fullTx j take us).write 0 4 ⟨#[]⟩).2.stateE == 9 && ((fullTx j take us).changed == take) && (take || (fullTx j take us).now == us) && us.length == 32 - j
theorem full_all : ∀ j ∈ [8, 9, 10, 11, 12], ∀ take : Bool, fullOk j take (us0 j) = true ∧ fullOk j take (us1 j take) = true := by decide +kernel

end Go.Proofs.YtfgfdjaiamaelaaGreatDoor
