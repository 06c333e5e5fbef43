/- Parts of the proof, put together by program: H3, H4, H5, H6, R1, A6, A7. -/
import Derived.Test.YtjocnooekgnedaaGreatDoorPart22
import Derived.Defers
import Derived.Test.YtjocnooekgnedaaGreatDoorPart04
import Derived.Test.YtjocnooekgnedaaGreatDoorPart03
import Derived.Test.YtjocnooekgnedaaGreatDoorPart21
set_option linter.unusedVariables false
set_option linter.unusedSimpArgs false
/- Layer 10: Abort. -/
namespace Go.Proofs.YtjocnooekgnedaaGreatDoor
open Go.RowKit Go.Maps

set_option maxRecDepth 100000 in
set_option maxHeartbeats 1000000 in
theorem abort_tx (T : Nat) (F : List Nat) (D : Nat) (y : TxS) (w : World) (h : TxAt w T F D y) (he : y.ended = false) :
    Calls Tryz.prog 24 #[.pointer (some ⟨T, 0, none⟩)] w fun e w' => e = .returned (.int .i64 0) ∧ w' = w.setCell ⟨T, 20, none⟩ (.bool true) := by
  have qT : ∀ (w : World) (r : Option Nat), (binOp .eql 59 (.map r) (.map none)).run Tryz.prog w = .ok (.bool r.isNone) w := fun w r => run_eql_map_nil w _ _ _ r Tryz.underlying59
  obtain ⟨ok, ⟨M, wv, nv, bT, -⟩, lt⟩ := h
  have c17 : w.cell? ⟨T, 17, none⟩ = some (.map (some M)) := (bT.cells 17).trans rfl
  have c20 : w.cell? ⟨T, 20, none⟩ = some (.bool y.ended) := (bT.cells 20).trans rfl
  have lT := bT.lt
  have fT := bT.free
  rw [he] at c20
  clear bT ok lt
  go_enter Tryz.func24, Tryz.ntmps24
  go_wp2_with fail
  go_ret
  exact ⟨rfl, rfl⟩

end Go.Proofs.YtjocnooekgnedaaGreatDoor
/- Layer 10: a transaction that is ended, or broken. -/
namespace Go.Proofs.YtjocnooekgnedaaGreatDoor
open Go.RowKit Go.Maps

theorem TxAt.ended {w : World} {T : Nat} {F : List Nat} {D : Nat} {y : TxS} (h : TxAt w T F D y) : TxAt (w.setCell ⟨T, 20, none⟩ (.bool true)) T F D { y with ended := true } := by
  obtain ⟨ok, ⟨M, wv, nv, bT, hT, hM, hMT, ⟨E, hE, hO⟩, hw, hn⟩, lt⟩ := h
  have hk : ∀ b, b ≠ T → (w.setCell ⟨T, 20, none⟩ (.bool true)).heap[b]? = w.heap[b]? := fun b hb => Below.heap_setCell w ⟨T, 20, none⟩ _ b hb
  have sl : ∀ v l, SlB w F T M v l → SlB (w.setCell ⟨T, 20, none⟩ (.bool true)) F T M v l := by
    rintro v l ⟨A, c, h1, h2, h3⟩
    refine ⟨A, c, h1, ?_, h3⟩
    rcases h2 with h2 | ⟨b, off, rfl, hl, hc⟩
    · exact .inl h2
    · exact .inr ⟨b, off, rfl, by simpa using hl, fun k u hu => (World.cell?_of_block (w := w) (a := ⟨b, off + k, none⟩) (hk b (h3 _ rfl).2.1)).trans (hc k u hu)⟩
  exact ⟨⟨ok.rg, ok.was, ok.now, ok.recs, ok.len⟩, ⟨M, wv, nv, bT.set_ 20 (.bool true), hT, hM, hMT, ⟨E, hE, map_block hO (hk M hMT)⟩, sl _ _ hw, sl _ _ hn⟩, fun b hb => ⟨(lt b hb).1, by simpa using (lt b hb).2⟩⟩
theorem TxAt.broken {w : World} {T : Nat} {F : List Nat} {D : Nat} {y : TxS} (h : TxAt w T F D y) : TxAt (w.setCell ⟨T, 19, none⟩ (.bool true)) T F D { y with broken := true } := by
  obtain ⟨ok, ⟨M, wv, nv, bT, hT, hM, hMT, ⟨E, hE, hO⟩, hw, hn⟩, lt⟩ := h
  have hk : ∀ b, b ≠ T → (w.setCell ⟨T, 19, none⟩ (.bool true)).heap[b]? = w.heap[b]? := fun b hb => Below.heap_setCell w ⟨T, 19, none⟩ _ b hb
  have sl : ∀ v l, SlB w F T M v l → SlB (w.setCell ⟨T, 19, none⟩ (.bool true)) F T M v l := by
    rintro v l ⟨A, c, h1, h2, h3⟩
    refine ⟨A, c, h1, ?_, h3⟩
    rcases h2 with h2 | ⟨b, off, rfl, hl, hc⟩
    · exact .inl h2
    · exact .inr ⟨b, off, rfl, by simpa using hl, fun k u hu => (World.cell?_of_block (w := w) (a := ⟨b, off + k, none⟩) (hk b (h3 _ rfl).2.1)).trans (hc k u hu)⟩
  exact ⟨⟨ok.rg, ok.was, ok.now, ok.recs, ok.len⟩, ⟨M, wv, nv, bT.set_ 19 (.bool true), hT, hM, hMT, ⟨E, hE, map_block hO (hk M hMT)⟩, sl _ _ hw, sl _ _ hn⟩, fun b hb => ⟨(lt b hb).1, by simpa using (lt b hb).2⟩⟩

end Go.Proofs.YtjocnooekgnedaaGreatDoor
/- Layer 10: fails. -/
namespace Go.Proofs.YtjocnooekgnedaaGreatDoor
open Go.RowKit Go.Maps

theorem bodyPost_none {P : Program} {fn : Func} {R : Ending → World → Prop} {a : Act} {w : World} (hr : fn.results = #[]) (hd : a.defers = []) (hR : R (.returned (.tuple #[])) w) : bodyPost P fn R .normal a w :=
  bodyPost_end (v := .tuple #[]) (by simp [results, hr, go_sem]) hd hR
def badE (e : Int) : Bool := decide (e ≠ 0 ∧ e ≠ 1 ∧ e ≠ 9)

set_option maxRecDepth 100000 in
set_option maxHeartbeats 1000000 in
theorem fails_good (T R : Nat) (e0 : Int) (w : World) (hR : w.cell? ⟨R, 0, none⟩ = some (.int .i64 e0)) (lR : R < w.heap.size) (hb : e0 = 0 ∨ e0 = 1 ∨ e0 = 9) :
    Calls Tryz.prog 78 #[.pointer (some ⟨T, 0, none⟩), .pointer (some ⟨R, 0, none⟩)] w fun e w' => e = .returned (.tuple #[]) ∧ w' = w := by
  rcases hb with rfl | rfl | rfl
  all_goals
    go_enter Tryz.func78, Tryz.ntmps78
    go_wp2_with fail
    refine bodyPost_none (by rfl) rfl ?_
    exact ⟨rfl, rfl⟩

set_option maxRecDepth 100000 in
set_option maxHeartbeats 1000000 in
theorem fails_bad (T R : Nat) (F : List Nat) (D : Nat) (y : TxS) (e0 : Int) (w : World) (h : TxAt w T F D y) (hR : w.cell? ⟨R, 0, none⟩ = some (.int .i64 e0)) (lR : R < w.heap.size) (h0 : e0 ≠ 0) (h1 : e0 ≠ 1) (h9 : e0 ≠ 9) :
    Calls Tryz.prog 78 #[.pointer (some ⟨T, 0, none⟩), .pointer (some ⟨R, 0, none⟩)] w fun e w' => e = .returned (.tuple #[]) ∧ w' = w.setCell ⟨T, 19, none⟩ (.bool true) := by
  obtain ⟨ok, ⟨M, wv, nv, bT, -⟩, lt⟩ := h
  have c19 : w.cell? ⟨T, 19, none⟩ = some (.bool y.broken) := (bT.cells 19).trans rfl
  have lT := bT.lt
  have fT := bT.free
  have b0 : (e0 != 0) = true := by simpa using h0
  have b1 : (e0 != 1) = true := by simpa using h1
  have b9 : (e0 != 9) = true := by simpa using h9
  clear bT ok lt h0 h1 h9
  go_enter Tryz.func78, Tryz.ntmps78
  go_wp2_with fail
  refine bodyPost_none (by rfl) rfl ?_
  exact ⟨rfl, rfl⟩

end Go.Proofs.YtjocnooekgnedaaGreatDoor
/- Layer 10: fails, as a deferred call. -/
namespace Go.Proofs.YtjocnooekgnedaaGreatDoor
open Go.RowKit Go.Maps

set_option maxRecDepth 100000 in
set_option maxHeartbeats 1000000 in
theorem fails_goodD (T R : Nat) (e0 : Int) (u : FrameMode) (w : World) (hR : w.cell? ⟨R, 0, none⟩ = some (.int .i64 e0)) (lR : R < w.heap.size) (hb : e0 = 0 ∨ e0 = 1 ∨ e0 = 9) :
    CallsD Tryz.prog 78 #[.pointer (some ⟨T, 0, none⟩), .pointer (some ⟨R, 0, none⟩)] u w fun e u' w' => u' = u ∧ (e = .returned (.tuple #[]) ∧ w' = w) := by
  rcases hb with rfl | rfl | rfl
  all_goals
    go_enter_d Tryz.func78, Tryz.ntmps78
    go_wp2_with fail
    refine bodyPost_none (by rfl) rfl ?_
    exact ⟨rfl, rfl⟩

set_option maxRecDepth 100000 in
set_option maxHeartbeats 1000000 in
theorem fails_badD (T R : Nat) (F : List Nat) (D : Nat) (y : TxS) (e0 : Int) (u : FrameMode) (w : World) (h : TxAt w T F D y) (hR : w.cell? ⟨R, 0, none⟩ = some (.int .i64 e0)) (lR : R < w.heap.size) (h0 : e0 ≠ 0) (h1 : e0 ≠ 1) (h9 : e0 ≠ 9) :
    CallsD Tryz.prog 78 #[.pointer (some ⟨T, 0, none⟩), .pointer (some ⟨R, 0, none⟩)] u w fun e u' w' => u' = u ∧ (e = .returned (.tuple #[]) ∧ w' = w.setCell ⟨T, 19, none⟩ (.bool true)) := by
  obtain ⟨ok, ⟨M, wv, nv, bT, -⟩, lt⟩ := h
  have c19 : w.cell? ⟨T, 19, none⟩ = some (.bool y.broken) := (bT.cells 19).trans rfl
  have lT := bT.lt
  have fT := bT.free
  have b0 : (e0 != 0) = true := by simpa using h0
  have b1 : (e0 != 1) = true := by simpa using h1
  have b9 : (e0 != 9) = true := by simpa using h9
  clear bT ok lt h0 h1 h9
  go_enter_d Tryz.func78, Tryz.ntmps78
  go_wp2_with fail
  refine bodyPost_none (by rfl) rfl ?_
  exact ⟨rfl, rfl⟩

end Go.Proofs.YtjocnooekgnedaaGreatDoor
/- The iterator over the free blocks: blocks.free and its closure. -/
namespace Go.Proofs.YtjocnooekgnedaaGreatDoor
open Go.RowKit Go.Shelf

attribute [local go_sem] Oper.semAt_some

/-- The blocks that k steps from near on have met and found free. -/
def goRound (us : List Bool) (near k : Nat) : List Int :=
  ((List.range k).filter fun (i : Nat) => us[(near + i) % us.length]? == some false).map fun (i : Nat) => ((near : Int) + (i : Int)) % (us.length : Int)
theorem goRound_0 (us : List Bool) (near : Nat) : goRound us near 0 = [] := by simp [goRound]
theorem goRound_hit {us : List Bool} {near k : Nat} (h : us[(near + k) % us.length]? = some false) : goRound us near (k + 1) = goRound us near k ++ [((near : Int) + (k : Int)) % (us.length : Int)] := by
  simp [goRound, List.range_succ, List.filter_append, h]
theorem goRound_miss {us : List Bool} {near k : Nat} (h : us[(near + k) % us.length]? = some true) : goRound us near (k + 1) = goRound us near k := by
  simp [goRound, List.range_succ, List.filter_append, h]
theorem goRound_le (us : List Bool) (near k : Nat) : (goRound us near k).length ≤ k := by
  unfold goRound; rw [List.length_map]; exact Nat.le_trans (List.length_filter_le _ _) (by simp)
/-- All free blocks, from near on. -/
def frees (us : List Bool) (near : Nat) : List Int := goRound us near us.length


end Go.Proofs.YtjocnooekgnedaaGreatDoor
/- set, with: the states in which some blocks are used, or free. -/
namespace Go.Proofs.YtjocnooekgnedaaGreatDoor
open Go.RowKit

/-- The blocks of a list become used, or free. -/
def setAll (us : List Bool) (bl : List Int) (v : Bool) : List Bool := bl.foldl (fun us b => us.set b.toNat v) us
theorem setAll_length (us : List Bool) (bl : List Int) (v : Bool) : (setAll us bl v).length = us.length := by
  unfold setAll
  induction bl generalizing us with
  | nil => rfl
  | cons b bl ih => rw [List.foldl_cons, ih]; simp
theorem setAll_snoc (us : List Bool) (bl : List Int) (v : Bool) (k : Nat) (h : k < bl.length) : setAll us (bl.take (k + 1)) v = (setAll us (bl.take k) v).set (bl[k]).toNat v := by
  unfold setAll
  rw [List.take_succ_eq_append_getElem h, List.foldl_append]; rfl

def SetPost (s j i : Int) (us : List Bool) (bl : List Int) (v : Bool) (w : World) (e : Ending) (w' : World) : Prop :=
  ∃ g cap, e = .returned (.agg #[.int .i64 s, .int .i64 j, .int .i64 i, .slice (some ⟨g, 0, none⟩) us.length cap]) ∧
    w'.ownsRow w.heap.size 4 1 (.slice (some ⟨g, 0, none⟩) us.length cap) us.length ((setAll us bl v).map .bool) ∧ Below w.heap.size w w'


end Go.Proofs.YtjocnooekgnedaaGreatDoor
/- with. -/
namespace Go.Proofs.YtjocnooekgnedaaGreatDoor
open Go.RowKit

end Go.Proofs.YtjocnooekgnedaaGreatDoor
