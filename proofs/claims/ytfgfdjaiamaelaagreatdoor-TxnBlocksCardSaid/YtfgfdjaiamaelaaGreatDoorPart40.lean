/- Parts of the proof, put together by program: IK, B0, B1, B3. -/
import Derived.Test.YtfgfdjaiamaelaaGreatDoorPart34
import Derived.Test.YtfgfdjaiamaelaaGreatDoorPart07
import Derived.Test.YtfgfdjaiamaelaaGreatDoorPart26
import Derived.Test.YtfgfdjaiamaelaaGreatDoorPart39
/- limewashref06.Same, of two states that are one, with empty caches. -/
namespace Go.Proofs.YtfgfdjaiamaelaaGreatDoor
open Go.RowKit Go.Maps

theorem neqSec (xs : List Int) (hx : xs.length = 128) (w : World) :
    (binOp .neq 137 (.agg (bytesV xs)) (.agg (bytesV xs))).run Tryz.prog w = .ok (.bool false) w := by
  have h := eqSec xs xs hx hx w
  rw [run_eql_struct] at h
  rw [run_neq_struct]
  cases e : (Op.equalIn 10000 137 (.agg (bytesV xs)) (.agg (bytesV xs))).run Tryz.prog w with
  | ok b w' =>
    rw [e] at h
    simp only [Result.andThen_ok, Result.ok.injEq, Value.bool.injEq, decide_true] at h
    obtain ⟨rfl, rfl⟩ := h
    rfl
  | _ => rw [e] at h; cases h

/-- The k-th sector of a row. -/
theorem own_sec {w : World} {base : Nat} {g n cap : Nat} {l : List (List Int)} (hl : ∀ s ∈ l, s.length = 128) (h : w.ownsRow base 137 128 (.slice (some ⟨g, 0, none⟩) n cap) n (l.flatMap secV)) (k : Nat) (hk : k < l.length) : SecAt w ⟨g, k * 128, none⟩ l[k] := by
  have h1 := hl _ (List.getElem_mem hk)
  refine ⟨h1, rfl, fun j hj => own_cell h ?_⟩
  rw [flat_get (f := secV) (m := 128) (fun s hs => by rw [secV_length]; exact hl s hs) hj hk, secV_get (by rw [h1]; exact hj)]

theorem exec_loadSec {o : Oper} {a : Act} {p : Addr} {l : List Int} {w : World} (x : Operand) (ho : o.op = .load 137 x) (hx : a.eval x = .pointer (some p)) (hs : SecAt w p l) : (execOp a.eval o).run Tryz.prog w = .ok (.value (.agg (bytesV l))) w := by
  unfold execOp
  simp only [ho, hx, Instr.loadAt, Instr.sureAddr, Sem.run_bind, Sem.run_pure, Result.andThen_ok, hs.load]

set_option maxRecDepth 100000 in
set_option maxHeartbeats 4000000 in
theorem same_eq (sta : List (List Int)) (hs : ∀ s ∈ sta, s.length = 128) (h0 : 0 < sta.length ∧ sta.length ≤ 256) (sv1 cv1 sv2 cv2 : Value) (tk pw : Int) (off : Bool) (b1 b2 : Nat) (w : World)
    (o1 : w.ownsRow b1 137 128 sv1 sta.length (sta.flatMap secV)) (o2 : w.ownsRow b2 137 128 sv2 sta.length (sta.flatMap secV)) (k1 : w.ownsRow b1 140 129 cv1 0 []) (k2 : w.ownsRow b2 140 129 cv2 0 []) :
    Calls Tryz.prog 25 #[.agg (stateC sv1 cv1 tk pw off), .agg (stateC sv2 cv2 tk pw off)] w fun e w' => e = .returned (.bool true) ∧ Below w.heap.size w w' := by
  obtain ⟨g1, c1, rfl, -, l1⟩ := own_form o1 h0.1
  obtain ⟨g2, c2, rfl, -, l2⟩ := own_form o2 h0.1
  obtain ⟨a3, c3, rfl⟩ := own_slice k1
  obtain ⟨a4, c4, rfl⟩ := own_slice k2
  clear k1 k2
  obtain ⟨wA, hA⟩ : ∃ wA, wA = (w.alloc (.cells (stateC (.slice (some ⟨g1, 0, none⟩) sta.length c1) (.slice a3 0 c3) tk pw off) 61)).alloc (.cells (stateC (.slice (some ⟨g2, 0, none⟩) sta.length c2) (.slice a4 0 c4) tk pw off) 61) := ⟨_, rfl⟩
  have bA : Blk wA w.heap.size 61 #[.slice (some ⟨g1, 0, none⟩) sta.length c1, .slice a3 0 c3, .int .i64 tk, .int .i64 pw, .bool off] := by rw [hA]; exact (Blk.new _ _ _).alloc _
  have bB : Blk wA (w.heap.size + 1) 61 #[.slice (some ⟨g2, 0, none⟩) sta.length c2, .slice a4 0 c4, .int .i64 tk, .int .i64 pw, .bool off] := by rw [hA]; exact Blk.new' (by simp)
  have BA : Below w.heap.size w wA := by rw [hA]; (repeat' (first | (with_reducible exact Below.refl _ _) | (with_reducible assumption) | (with_reducible refine Below.alloc ?_ ?_ _) | (with_reducible refine Below.drew ?_) | (with_reducible refine below_drewN' ?_ _) | (with_reducible refine Below.setCell ?_ ?_ _) | (with_reducible exact Nat.le_refl _) | omega | (simp; done) | (simp; omega)))
  have cA := bA.cells
  have lA := bA.lt
  have cB := bB.cells
  have lB := bB.lt
  unfold stateC at hA
  go_enter Tryz.func25, Tryz.ntmps25
  unfold stateC
  go_wp2_with fail
  rw [← hA]
  clear hA
  go_wp2_with fail
  go_loopw [5] (fun q wr => ∃ k : Nat, k ≤ sta.length ∧ q = .int .i64 k ∧ Below wA.heap.size wA wr) (fun q _ => sta.length - (intOf q).toNat)
  case atStart => exact ⟨0, Nat.zero_le _, rfl, Below.refl _ _⟩
  case round =>
    obtain ⟨k, hk, rfl, hb⟩ := hrel
    have B1 := BA.trans (hb.mono BA.size)
    have bAr := bA.belowAll hb
    have bBr := bB.belowAll hb
    have cA := bAr.cells
    have lA := bAr.lt
    have cB := bBr.cells
    have lB := bBr.lt
    by_cases hlt : k < sta.length
    · have hS : ∀ W, Below w.heap.size w W → Blk W w.heap.size 61 #[.slice (some ⟨g1, 0, none⟩) sta.length c1, .slice a3 0 c3, .int .i64 tk, .int .i64 pw, .bool off] → Blk W (w.heap.size + 1) 61 #[.slice (some ⟨g2, 0, none⟩) sta.length c2, .slice a4 0 c4, .int .i64 tk, .int .i64 pw, .bool off] →
          W.cell? ⟨w.heap.size, 0, none⟩ = some (.slice (some ⟨g1, 0, none⟩) sta.length c1) ∧ W.cell? ⟨w.heap.size + 1, 0, none⟩ = some (.slice (some ⟨g2, 0, none⟩) sta.length c2) ∧ SecAt W ⟨g1, k * 128, none⟩ sta[k] ∧ SecAt W ⟨g2, k * 128, none⟩ sta[k] := fun W hB hX hY =>
        ⟨(hX.cells 0).trans rfl, (hY.cells 0).trans rfl, own_sec hs (own_below o1 hB) k hlt, own_sec hs (own_below o2 hB) k hlt⟩
      have HS := Lib.hid (hS _ B1.drew bAr.drew bBr.drew)
      have hNE := neqSec sta[k] (hs _ (List.getElem_mem hlt))
      have HH := Lib.hid (And.intro bA (And.intro bB (And.intro o1 o2)))
      clear hS o1 o2 bA bB
      generalize sta[k] = xs at *
      go_wp2_with fail
      clear cA lA cB lB
      refine wp_region_mix [.take 0, .take 1, .take 2, .take 3, .take 4, .take 5, .take 6, .take 7, .take 8, .take 9, .take 10] 11 (fun W => W.cell? ⟨w.heap.size, 0, none⟩ = some (.slice (some ⟨g1, 0, none⟩) sta.length c1) ∧ W.cell? ⟨w.heap.size + 1, 0, none⟩ = some (.slice (some ⟨g2, 0, none⟩) sta.length c2) ∧ SecAt W ⟨g1, k * 128, none⟩ xs ∧ SecAt W ⟨g2, k * 128, none⟩ xs) (by kernel_rfl) (by kernel_rfl) (fun _ _ _ _ _ h => h) HS.out ?_
      simp only [List.map_cons, List.map_nil, Ms.fill, List.getD_cons_zero, List.getD_cons_succ]
      iterate 4 (refine mixT_take (by rfl) ?_ (fun w' hw' => ?_) ?_; rotate_left; (focus (go_simp; (try with_reducible rfl))); (try simp only [Act.put, List.setIfInBounds_toArray, List.set_cons_zero, List.set_cons_succ]))
      refine mixT_take (by rfl) _ (fun w' hw' => exec_loadSec _ rfl rfl hw'.2.2.1) ?_
      simp only [Act.put, List.setIfInBounds_toArray, List.set_cons_zero, List.set_cons_succ]
      iterate 4 (refine mixT_take (by rfl) ?_ (fun w' hw' => ?_) ?_; rotate_left; (focus (go_simp; (try with_reducible rfl))); (try simp only [Act.put, List.setIfInBounds_toArray, List.set_cons_zero, List.set_cons_succ]))
      refine mixT_take (by rfl) _ (fun w' hw' => exec_loadSec _ rfl rfl hw'.2.2.2) ?_
      simp only [Act.put, List.setIfInBounds_toArray, List.set_cons_zero, List.set_cons_succ]
      (refine mixT_take (by rfl) ?_ (fun w' hw' => ?_) ?_; rotate_left; (focus (go_simp; (try with_reducible rfl))); (try simp only [Act.put, List.setIfInBounds_toArray, List.set_cons_zero, List.set_cons_succ]))
      refine mixT_nil ?_
      go_wp2_with fail
      go_roundw
      case rel => exact ⟨k + 1, by omega, by go_num, hb.drew⟩
      case measure => simp [intOf]; omega
    · have hd : ¬ ((k : Int) < (sta.length : Int)) := by omega
      go_wp2_with fail
      go_loopw [6] (fun q wr => q = .int .i64 0 ∧ Below wA.heap.size wA wr) (fun _ _ => 0)
      case atStart => exact ⟨rfl, hb⟩
      case round =>
        obtain ⟨rfl, hb2⟩ := hrel
        have c2' := (bA.belowAll hb2).cells
        have l2' := (bA.belowAll hb2).lt
        go_wp2_with fail
        go_ret
        exact ⟨rfl, BA.trans (hb2.mono BA.size)⟩

end Go.Proofs.YtfgfdjaiamaelaaGreatDoor
/- The laws of layer 10: general words (as for the laws of layer 12). -/
namespace Go.Proofs.YtfgfdjaiamaelaaGreatDoor
open Go.RowKit Go.Maps

set_option maxRecDepth 100000 in
set_option maxHeartbeats 2000000 in
theorem sameInts_any (A Bl : Option Addr) (c d : Nat) (la lb : List Int) (hla : la.length ≤ 100000) (hlb : lb.length ≤ 100000) (w : World) (hA : Reads w A (la.map (.int .i64))) (hB : Reads w Bl (lb.map (.int .i64))) :
    Calls Tryz.prog 57 #[.slice A la.length c, .slice Bl lb.length d] w fun e w' => e = .returned (.bool (decide (la = lb))) ∧ Below w.heap.size w w' := by
  by_cases hl : la.length = lb.length
  rotate_left
  · have hd : decide (la = lb) = false := decide_eq_false fun e => hl (by rw [e])
    have HD := Lib.hid hd
    have hq : ((la.length : Int) != (lb.length : Int)) = true := by simp; omega
    clear hd hl
    go_enter Tryz.func57, Tryz.ntmps57
    go_wp2_with fail
    go_ret
    exact ⟨by rw [HD.out]; rfl, Below.refl _ _⟩
  · have hq : ((la.length : Int) != (lb.length : Int)) = false := by simp; omega
    have HL := Lib.hid hl
    clear hl
    go_enter Tryz.func57, Tryz.ntmps57
    go_wp2_with fail
    go_loopw [5] (fun q wr => ∃ k : Nat, k ≤ la.length ∧ q = .int .i64 k ∧ la.take k = lb.take k ∧ Below w.heap.size w wr) (fun q _ => la.length - (intOf q).toNat)
    case atStart => exact ⟨0, Nat.zero_le _, rfl, by simp, Below.refl _ _⟩
    case round =>
      obtain ⟨k, hk, rfl, ht, hb⟩ := hrel
      by_cases hlt : k < la.length
      · have hlt2 : k < lb.length := by have := HL.out; omega
        obtain ⟨b1, o1, rfl, hb1, hc1⟩ := (hA.below hb).at_ (k := k) (by simpa using hlt)
        obtain ⟨b2, o2, rfl, hb2, hc2⟩ := (hB.below hb).at_ (k := k) (by simpa using hlt2)
        rw [List.getElem_map] at hc1 hc2
        have hta : la.take (k + 1) = la.take k ++ [la[k]] := by rw [List.take_succ_eq_append_getElem hlt]
        have htb : lb.take (k + 1) = lb.take k ++ [lb[k]] := by rw [List.take_succ_eq_append_getElem hlt2]
        have HNE : Hid (la[k] ≠ lb[k] → decide (la = lb) = false) := Lib.hid fun hne => decide_eq_false fun e => hne (by subst e; rfl)
        have HT := Lib.hid ht
        have HA' := Lib.hid hA
        have HB' := Lib.hid hB
        have HTA := Lib.hid hta
        have HTB := Lib.hid htb
        generalize la[k] = x at *
        generalize lb[k] = z at *
        clear hta htb ht hA hB
        by_cases he : x = z
        · subst he
          go_wp2_with fail
          go_quiet (fail)
          go_wp2_with fail
          go_roundw
          case rel => exact ⟨k + 1, by omega, by go_num, by rw [HTA.out, HTB.out, HT.out], below_drewN' hb _⟩
          case measure => simp [intOf]; omega
        · have hn : (x != z) = true := by simpa using he
          have HF := Lib.hid (HNE.out he)
          clear he
          go_wp2_with fail
          go_quiet (fail)
          go_wp2_with fail
          go_ret
          exact ⟨by rw [HF.out]; rfl, below_drewN' hb _⟩
      · obtain rfl : k = la.length := by omega
        have HD : Hid (decide (la = lb) = true) := Lib.hid (decide_eq_true (by rw [List.take_length, HL.out, List.take_length] at ht; exact ht))
        clear ht
        go_wp2_with fail
        go_ret
        exact ⟨by rw [HD.out]; rfl, hb⟩

/-- What begun hands back. -/
def BegunPost (w : World) (s j i : Int) (e : Ending) (w' : World) : Prop :=
  ∃ D T F B y, e = .returned (.tuple #[.pointer (some ⟨D, 0, none⟩), .pointer (some ⟨T, 0, none⟩)]) ∧ Fresh y s j i 1000000 ∧ TD w' T F D (freeTx s j i) B y ∧ Below w.heap.size w w' ∧ (∀ b ∈ F, w.heap.size ≤ b) ∧ ∀ b ∈ B, w.heap.size ≤ b

/-- A list which the transaction does not touch. -/
structure Keeps (w : World) (F : List Nat) (A : Option Addr) (c : Nat) (l : List Int) : Prop where
  sl : SlI w A c l
  out : ∀ a, A = some a → a.block ∉ F ∧ a.block < w.heap.size
theorem Keeps.grow {w w' : World} {F F' : List Nat} {A : Option Addr} {c : Nat} {l : List Int} (h : Keeps w F A c l) (g : Grow w F w' F') : Keeps w' F' A c l :=
  ⟨⟨h.sl.reads.growF g fun a e => (h.out a e).1, h.sl.nil, h.sl.cap⟩, fun a e => ⟨g.notin (h.out a e).1 (h.out a e).2, Nat.lt_of_lt_of_le (h.out a e).2 g.keep.size⟩⟩
theorem Keeps.below {w w' : World} {F : List Nat} {A : Option Addr} {c : Nat} {l : List Int} (h : Keeps w F A c l) (hb : Below w.heap.size w w') : Keeps w' F A c l :=
  ⟨h.sl.below hb, fun a e => ⟨(h.out a e).1, Nat.lt_of_lt_of_le (h.out a e).2 hb.size⟩⟩
theorem Keeps.of_did {w' : World} {base : Nat} {F' : List Nat} {v : Value} {l : List Int} (ho : w'.ownsRow base 3 1 v l.length (l.map (.int .i64))) (hf : ∀ q, v.ownBlock = some q → q ∉ F') : ∃ A c, v = .slice A l.length c ∧ Keeps w' F' A c l := by
  obtain ⟨A, c, rfl, hs⟩ := SlI.of_own ho
  exact ⟨A, c, rfl, hs, fun a e => by subst e; exact ⟨hf a.block rfl, (own_lt ho a.block rfl).2⟩⟩
theorem Grow.lo {w w' : World} {F F' : List Nat} {n : Nat} (g : Grow w F w' F') (hn : n ≤ w.heap.size) (hF : ∀ b ∈ F, n ≤ b) : ∀ b ∈ F', n ≤ b := fun b hb => by
  rcases g.new b hb with h | h
  · exact hF b h
  · omega
theorem slI_nil (w : World) : SlI w none 0 [] := ⟨.inl rfl, by simp, by simp⟩
end Go.Proofs.YtfgfdjaiamaelaaGreatDoor
/- The laws of layer 10: their examples in plain words. No program in sight. -/
namespace Go.Proofs.YtfgfdjaiamaelaaGreatDoor
open Go.RowKit Go.Maps

def kT1 : TxS := (yA.take 12 3).2
def kT2 : TxS := (kT1.write 50 8 ⟨#[97, 98]⟩).2
def kU : TxS := begTx 64 8 40 kT2.now
def freeN (us : List Bool) : Nat := (us.filter (fun b => !b)).length
theorem awk_plain : (yA.take 12 3).1 = 0 ∧ yA.takeL 12 3 = [12, 13, 0] ∧ (kT1.write 50 8 ⟨#[97, 98]⟩).1 = 0 ∧ kT2.look 50 = some ⟨50, 8, ⟨#[97, 98]⟩⟩ ∧ kT2.writes = [⟨50, 8, ⟨#[97, 98]⟩⟩] ∧ kT2.changed = true ∧ kT2.stateE = 0 ∧ yA.left = 6 ∧ kT2.left = 4 ∧ freeN yA.may = 14 ∧ freeN kT2.may = 11 ∧
    (kU.write 3 8 ⟨#[]⟩).1 = 2 ∧ ((kU.write 3 8 ⟨#[]⟩).2.free []).1 = 9 := by decide +kernel

def kT3 : TxS := (kT2.free [13]).2
def kT4 : TxS := (kT3.take 13 1).2
def kT5 : TxS := (kT4.write 50 8 ⟨#[99]⟩).2
def kV : TxS := begTx 64 8 40 kT5.now
def kV1 : TxS := (kV.free [12]).2
theorem known_plain : (kT2.free [13]).1 = 0 ∧ (kT3.take 13 1).1 = 0 ∧ kT3.takeL 13 1 = [13] ∧ (kT4.write 50 8 ⟨#[99]⟩).1 = 0 ∧ kT5.left = 4 ∧ freeN kT5.may = 11 ∧ kT5.stateE = 0 ∧ kT5.changed = true ∧
    kT5.recs = [⟨9, 5, mapS kT5.now⟩, ⟨50, 8, ⟨#[99]⟩⟩] ∧ (mapS kT5.now).size = 96 ∧ (mapS kT5.now).extract 0 2 = ⟨#[1, 48]⟩ ∧ (kV.free [12]).1 = 0 ∧ (kV1.take 12 1).1 = 0 ∧ kV1.takeL 12 1 = [1] := by decide +kernel

end Go.Proofs.YtfgfdjaiamaelaaGreatDoor
/- TxnBlocks in plain words: what Take and Free make of the blocks. No program in sight. -/
namespace Go.Proofs.YtfgfdjaiamaelaaGreatDoor
open Go.RowKit Go.Maps

theorem changeE_zero {y : TxS} {us : List Bool} {n : Nat} (h : y.changeE n = 0) (hn : n ≠ 0) : (y.change us n).now = us := by
  unfold TxS.changeE at h
  unfold TxS.change
  rw [if_neg hn] at h ⊢
  split
  · rename_i h2; rw [if_pos h2] at h; exact absurd (show (12 : Int) = 0 from h) (by decide)
  · rfl
theorem orL_free {a b : List Bool} (h : a.length = b.length) {k : Nat} (hk : k < a.length) (hf : (orL a b).getD k false = false) : a.getD k true = false ∧ b.getD k true = false := by
  have e : (orL a b)[k]? = some (a[k] || b[k]'(h ▸ hk)) := by
    unfold orL
    rw [List.getElem?_zipWith, List.getElem?_eq_getElem hk, List.getElem?_eq_getElem (h ▸ hk)]
  rw [List.getD_eq_getElem?_getD, e] at hf
  simp only [Option.getD_some, Bool.or_eq_false_iff] at hf
  rw [List.getD_eq_getElem?_getD, List.getElem?_eq_getElem hk, List.getD_eq_getElem?_getD, List.getElem?_eq_getElem (h ▸ hk)]
  exact hf

theorem take_good {y : TxS} {near many : Int} (ok : y.Ok) (hs : y.stateE = 0) (h : (y.take near many).1 = 0) :
    ((y.takeL near many).length : Int) = many ∧ ∀ b ∈ y.takeL near many, 0 ≤ b ∧ b < y.now.length ∧ y.was.getD b.toNat true = false ∧ y.now.getD b.toNat true = false ∧ (y.take near many).2.now.getD b.toNat false = true := by
  have hwl : y.now.length = y.was.length := by rw [ok.now, ok.was]
  have hml : y.may.length = y.now.length := orL_length hwl
  have hC : CkE y.s y.j y.i y.may.length = 0 := by rw [hml]; exact ok_ckE ok
  have hs' : ¬ y.stateE ≠ 0 := by simpa using hs
  by_cases hA : AlE y.s y.j y.i y.may near many = 0
  rotate_left
  · obtain ⟨e, -⟩ := take_a hs hA
    rw [e] at h
    exact absurd h hA
  obtain ⟨e1, e2⟩ := take_b hs hA _ rfl
  rw [e1] at h
  have hch : y.changeE (allocd y.may near.toNat many.toNat).length = 0 := h
  rw [if_pos hch] at e2
  have hnr := AlE_near hC hA
  unfold AlE at hA
  rw [if_pos hC] at hA
  split at hA
  · exact absurd (show (7 : Int) = 0 from hA) (by decide)
  rename_i hr
  split at hA
  · exact absurd (show (11 : Int) = 0 from hA) (by decide)
  rename_i hf
  have hlen : (allocd y.may near.toNat many.toNat).length = many.toNat := by
    unfold allocd; rw [List.length_take]; omega
  refine ⟨by rw [e2, hlen]; omega, fun b hb => ?_⟩
  rw [e2] at hb
  obtain ⟨h1, h2⟩ := allocd_in (by omega) b hb
  rw [hml] at h2
  obtain ⟨h3, h4⟩ := orL_free hwl (k := b.toNat) (by omega) (allocd_free hb)
  refine ⟨h1, h2, h4, h3, ?_⟩
  have hne : (allocd y.may near.toNat many.toNat).length ≠ 0 := fun e => by
    have := List.eq_nil_of_length_eq_zero e
    rw [this] at hb; cases hb
  rw [e1, hch, TxS.after_0]
  show (y.change _ _).now.getD b.toNat false = true
  rw [changeE_zero hch hne]
  have hv := setAll_val y.now (allocd y.may near.toNat many.toNat) true b.toNat (by omega) (fun x hx => (allocd_in (by omega) x hx).1)
  rw [List.getD_eq_getElem?_getD, hv, Int.toNat_of_nonneg h1, if_pos hb]
  rfl

theorem free_good {y : TxS} {l : List Int} (hC : CkE y.s y.j y.i y.now.length = 0) (hs : y.stateE = 0) (h : (y.free l).1 = 0) :
    ∀ b ∈ l, 0 ≤ b ∧ b < y.now.length ∧ (y.free l).2.now.getD b.toNat true = false := by
  intro b hb
  by_cases hT : TnE y.s y.j y.i y.now l false 4 = 0
  rotate_left
  · rw [free_a hs hT] at h
    exact absurd h hT
  have e := free_b hs hT
  rw [e] at h
  have hch : y.changeE l.length = 0 := h
  have hne : l.length ≠ 0 := fun e => by
    have := List.eq_nil_of_length_eq_zero e
    rw [this] at hb; cases hb
  unfold TnE at hT
  rw [if_pos hC] at hT
  split at hT
  rotate_left
  · rename_i hl; exact absurd hT hl
  rename_i hl
  have hall := LsE_all hl
  obtain ⟨h1, h2⟩ := hall b hb
  refine ⟨h1, h2, ?_⟩
  rw [e, hch, TxS.after_0]
  show (y.change _ _).now.getD b.toNat true = false
  rw [changeE_zero hch hne]
  have hv := setAll_val y.now l false b.toNat (by omega) (fun x hx => (hall x hx).1)
  rw [List.getD_eq_getElem?_getD, hv, Int.toNat_of_nonneg h1, if_pos hb]
  rfl

end Go.Proofs.YtfgfdjaiamaelaaGreatDoor
