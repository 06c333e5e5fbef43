/- Parts of the proof, put together by program: V2, V3, C5, X0. -/
import Derived.Test.YtljmdcegcckblaaGreatDoorQuart03
import Derived.Test.YtljmdcegcckblaaGreatDoorQuart04
import Derived.Maps.OwnSet
import Derived.ChangeKeysEq
import Derived.StillTailTactics
import Derived.OrdersHeld
/- Layer 6: where a sector is read. -/
namespace Go.Proofs.YtljmdcegcckblaaGreatDoor
open Go.RowKit Go.Maps

/-- The map from sectors to their newest writes, when k writes have been looked at; and what it says. -/
def newestD (ats : List Int) : Nat → DataW Unit
  | 0 => .map []
  | k + 1 => (newestD ats k).put (.int .i64 (ats.getD k 0)) (.lit (.int .i64 k))
def newIdx (ats : List Int) (a : Int) : Nat → Option Nat
  | 0 => none
  | k + 1 => if ats.getD k 0 = a then some k else newIdx ats a k
theorem newestD_isMap (ats : List Int) (k : Nat) : IsMap (newestD ats k) := by
  cases k with
  | zero => exact isMap_empty
  | succ k =>
    induction k with
    | zero => exact isMap_empty.put _ _
    | succ k ih => exact ih.put _ _
theorem newestD_has (ats : List Int) (a : Int) (k : Nat) : has (newestD ats k) (.int .i64 a) = (newIdx ats a k).isSome := by
  induction k with
  | zero => rfl
  | succ k ih =>
    unfold newestD newIdx
    by_cases h : ats.getD k 0 = a
    · rw [h, if_pos rfl]
      exact has_put_same (newestD_isMap ats k) (show WideAt.IsKeyLit (.int .i64 a) from trivial) _
    · rw [if_neg h, has_put_other (by intro e; cases e; exact h rfl), ih]
theorem newestD_at (ats : List Int) (a : Int) (k : Nat) (z : DataW Unit) : (newestD ats k).atKey (.int .i64 a) z = match newIdx ats a k with | some i => .lit (.int .i64 i) | none => z := by
  induction k with
  | zero => rfl
  | succ k ih =>
    unfold newestD newIdx
    by_cases h : ats.getD k 0 = a
    · rw [h, if_pos rfl]
      exact atKey_put_same (newestD_isMap ats k) (show WideAt.IsKeyLit (.int .i64 a) from trivial) _ _
    · rw [if_neg h, atKey_put_other (by intro e; cases e; exact h rfl), ih]
theorem newIdx_lt {ats : List Int} {a : Int} {k i : Nat} (h : newIdx ats a k = some i) : i < k ∧ ats.getD i 0 = a := by
  induction k with
  | zero => cases h
  | succ k ih =>
    unfold newIdx at h
    split at h
    · cases h; exact ⟨by omega, by assumption⟩
    · have := ih h; exact ⟨by omega, this.2⟩

/-- Where a sector's bytes lie. -/
def readsP (S : Nat) (ats : List Int) (g : Nat) (a : Nat) : Addr := match newIdx ats (a : Int) ats.length with | some i => ⟨g, i * 129 + 1, none⟩ | none => ⟨S, a * 128, none⟩

set_option maxRecDepth 100000 in
set_option maxHeartbeats 1000000 in
theorem reads_any (D S n c g L cc : Nat) (A : Option Addr) (tk pw : Int) (off : Bool) (M q : Nat) (ats : List Int) (a : Nat) (hL : ats.length = L) (hA : 0 < L → A = some ⟨g, 0, none⟩) (ha : a < n) (hn : n ≤ 1000) (hL2 : L ≤ 1000) (w : World)
    (bD : Blk w D 138 (devC S n c (.slice A L cc) tk pw off M)) (hM : w.ownsMap Tryz.prog 3 (plainElem Tryz.prog 3) M q (newestD ats L)) :
    Calls Tryz.prog 129 #[.pointer (some ⟨D, 0, none⟩), .int .i64 a] w fun e w' => e = .returned (.pointer (some (readsP S ats g a))) ∧ w' = w := by
  have wa : (Lit.int .i64 (a : Int)).wf = true := by simp [Lit.wf, IntKind.min, IntKind.max, IntKind.signed, IntKind.bits]; omega
  have hz : (zeroValue 3).run Tryz.prog w = .ok (.int .i64 0) w := by kernel_rfl
  obtain ⟨v, ps, hrun, hv⟩ := hM.look_ok (int_keyed Tryz.underlying3) Tryz.underlying136 hz (plainElem_int Tryz.underlying3 (by decide)) (keyOf_int_mk Tryz.underlying3 wa)
  obtain ⟨i, rfl, hi, _⟩ := plainElem_int_inv Tryz.underlying3 hv
  have hi := congrArg Prod.fst hi
  simp only at hi
  rw [newestD_at] at hi
  rw [newestD_has] at hrun
  unfold devC at bD
  have cD := bD.cells
  unfold readsP
  rw [hL]
  cases hx : newIdx ats (a : Int) L with
  | none =>
    rw [hx] at hi hrun
    have HI := Lib.hid hi
    clear hi hv hM hx
    simp only [Option.isSome_none] at hrun
    go_enter Tryz.func129, Tryz.ntmps129
    go_wp2_with fail
    go_ret
    exact ⟨rfl, rfl⟩
  | some p =>
    obtain ⟨hp, _⟩ := newIdx_lt hx
    have hA' := hA (by omega)
    subst hA'
    rw [hx] at hi hrun
    have hpi : (p : Int) = i := by simpa using hi
    subst hpi
    clear hi hv hM hx
    simp only [Option.isSome_some] at hrun
    go_enter Tryz.func129, Tryz.ntmps129
    go_wp2_with fail
    go_ret
    exact ⟨rfl, rfl⟩

end Go.Proofs.YtljmdcegcckblaaGreatDoor
/- Layer 6: Read. -/
namespace Go.Proofs.YtljmdcegcckblaaGreatDoor
open Go.RowKit Go.Maps

/-- A sector's bytes lie at a place. -/
def SecAt (w : World) (p : Addr) (xs : List Int) : Prop := xs.length = 128 ∧ p.spot = none ∧ ∀ j, j < 128 → w.cell? ⟨p.block, p.off + j, none⟩ = some (.int .u8 (xs.getD j 0))
theorem SecAt.load {w : World} {p : Addr} {xs : List Int} (h : SecAt w p xs) : (loadVar 141 p).run Tryz.prog w = .ok (.agg (bytesV xs)) w := by
  obtain ⟨hl, hsp, hc⟩ := h
  obtain ⟨b, off, spot⟩ := p
  simp only at hsp
  subst hsp
  have hload : (loadCells ⟨b, off, none⟩ 128).run Tryz.prog w = .ok (bytesV xs) w := by
    have := run_loadCells_list (P := Tryz.prog) w ⟨b, off, none⟩ (xs.map (Value.int .u8)) (fun j v hv => by
      have hadd : (⟨b, off, none⟩ : Addr).add j = ⟨b, off + j, none⟩ := by unfold Addr.add; split <;> simp_all
      rw [List.getElem?_map] at hv
      by_cases hj : j < xs.length
      · rw [List.getElem?_eq_getElem hj, Option.map_some, Option.some.injEq] at hv
        rw [hadd, hc j (by omega), ← hv]
        simp [List.getD_eq_getElem?_getD, hj]
      · rw [List.getElem?_eq_none (by omega)] at hv; cases hv)
    rw [List.length_map, hl] at this
    exact this
  have hag : (isAgg 141).run Tryz.prog w = .ok true w := by kernel_rfl
  have hsz : (sizeOf 141).run Tryz.prog w = .ok 128 w := by kernel_rfl
  unfold loadVar
  simp [hag, hload]
theorem wpList_loadSecAny {ops : Array Oper} {rest : List Oper} {o : Oper} {a : Act} {w : World} {Q : Exit → Act → World → Prop} (hgd : o.guard = none) (x : Operand) (ho : o.op = .load 141 x)
    (p : Addr) (hx : a.eval x = .pointer (some p)) {l : List Int} (hs : SecAt w p l)
    (h : wpList Tryz.prog ops Q rest (a.put o.dst (.agg (bytesV l))) w) : wpList Tryz.prog ops Q (o :: rest) a w := by
  refine wpList_plain hgd fun _ hK => ?_
  unfold Oper.wp execOp
  simp only [ho, hx, Instr.loadAt, Instr.sureAddr, Sem.run_bind, Sem.run_pure, Result.andThen_ok, hs.load]
  exact hK _ _ h

theorem results_sec {fn : Func} {m n R : Nat} {tmps : Array Value} {w : World} {t : TypeId} {l : List Int} {e : Int} (hr : fn.results = #[.cell m 141, .tmp n]) (hm : tmps.getD m undef = .pointer (some ⟨R, 0, none⟩)) (hn : tmps.getD n undef = .int .i64 e) (b : Blk w R t (bytesV l)) (hl : l.length = 128) :
    (results fn tmps).run Tryz.prog w = .ok (.tuple #[.agg (bytesV l), .int .i64 e]) w := by
  have h := b.loadSec hl
  have h1 : (asAddr (.pointer (some ⟨R, 0, none⟩))).run Tryz.prog w = .ok ⟨R, 0, none⟩ w := rfl
  have hm' : tmps[m]?.getD undef = .pointer (some ⟨R, 0, none⟩) := by simpa using hm
  have hn' : tmps[n]?.getD undef = .int .i64 e := by simpa using hn
  simp [results, hr, hm', hn', h1, h]
set_option maxRecDepth 100000 in
set_option maxHeartbeats 1000000 in
theorem read_any (D S n c g L cc : Nat) (A : Option Addr) (tk pw : Int) (off : Bool) (M q : Nat) (ats : List Int) (a : Int) (xs : List Int) (hL : ats.length = L) (hA : 0 < L → A = some ⟨g, 0, none⟩) (hn : n ≤ 1000) (hL2 : L ≤ 1000) (w : World)
    (bD : Blk w D 138 (devC S n c (.slice A L cc) tk pw off M)) (hM : w.ownsMap Tryz.prog 3 (plainElem Tryz.prog 3) M q (newestD ats L)) (hS : atE off n a = 0 → SecAt w (readsP S ats g a.toNat) xs ∧ (readsP S ats g a.toNat).block < w.heap.size) :
    Calls Tryz.prog 85 #[.pointer (some ⟨D, 0, none⟩), .int .i64 a] w fun e w' => Below w.heap.size w w' ∧ e = .returned (.tuple #[.agg (bytesV (if atE off n a = 0 then xs else zsec)), .int .i64 (atE off n a)]) := by
  have hz := zeroSector
  have bD1 : Blk (w.alloc (.cells (bytesV zsec) 141)) D 138 (devC S n c (.slice A L cc) tk pw off M) := bD.alloc _
  have bR1 : Blk (w.alloc (.cells (bytesV zsec) 141)) w.heap.size 141 (bytesV zsec) := Blk.new _ _ _
  have lD := bD.lt
  by_cases hE : atE off n a = 0
  · rw [if_pos hE]
    obtain ⟨hS, hSb⟩ := hS hE
    have hxl := hS.1
    have ha : 0 ≤ a ∧ a < (n : Int) := by
      unfold atE at hE
      cases off
      · simp only [Bool.false_eq_true, if_false] at hE
        split at hE
        · omega
        · omega
      · simp at hE
    obtain ⟨an, rfl⟩ := Int.eq_ofNat_of_zero_le ha.1
    rw [Int.toNat_natCast] at hS hSb
    have hat := at_any D S n c (.slice A L cc) tk pw off M an _ bD1
    rw [hE] at hat ⊢
    have hrd := reads_any D S n c g L cc A tk pw off M q ats an hL hA (by omega) hn hL2 _ bD1 (hM.alloc _)
    have hS1 : SecAt (w.alloc (.cells (bytesV zsec) 141)) (readsP S ats g an) xs := ⟨hS.1, hS.2.1, fun j hj => by
      rw [← hS.2.2 j hj]
      exact World.cell?_of_block (Below.heap_alloc w _ _ hSb)⟩
    generalize readsP S ats g an = p at *
    clear hE bD hM hS
    go_enter Tryz.func85, Tryz.ntmps85
    go_wp2_with fail
    refine hat.mono ?_
    rintro e w1 ⟨rfl, rfl⟩
    go_wp2_with fail
    refine hrd.mono ?_
    rintro e w1 ⟨rfl, rfl⟩
    go_wp2_with (first
      | (refine wpList_loadSecAny rfl _ rfl p rfl hS1 ?_)
      | (refine wpList_storeSec rfl _ _ rfl w.heap.size xs rfl rfl bR1 zsec_length hxl ?_))
    refine bodyPost_ret (results_sec rfl rfl rfl (bR1.setRow (cs' := bytesV xs)) hxl) rfl ?_
    exact ⟨Below.setRow (by (repeat' (first | (with_reducible exact Below.refl _ _) | (with_reducible assumption) | (with_reducible refine Below.alloc ?_ ?_ _) | (with_reducible refine Below.drew ?_) | (with_reducible refine below_drewN' ?_ _) | (with_reducible refine Below.setCell ?_ ?_ _) | (with_reducible exact Nat.le_refl _) | omega | (simp; done) | (simp; omega)))) (Nat.le_refl _) _, rfl⟩
  · rw [if_neg hE]
    have hat := at_any D S n c (.slice A L cc) tk pw off M a _ bD1
    generalize atE off n a = E at *
    have hE' : (E != 0) = true := by simpa using hE
    clear hE hS hM bD
    go_enter Tryz.func85, Tryz.ntmps85
    go_wp2_with fail
    refine hat.mono ?_
    rintro e w1 ⟨rfl, rfl⟩
    go_wp2_with (refine wpList_storeSec rfl _ _ rfl w.heap.size zsec rfl rfl bR1 zsec_length zsec_length ?_)
    refine bodyPost_ret (results_sec rfl rfl rfl (bR1.setRow (cs' := bytesV zsec)) zsec_length) rfl ?_
    exact ⟨Below.setRow (by (repeat' (first | (with_reducible exact Below.refl _ _) | (with_reducible assumption) | (with_reducible refine Below.alloc ?_ ?_ _) | (with_reducible refine Below.drew ?_) | (with_reducible refine below_drewN' ?_ _) | (with_reducible refine Below.setCell ?_ ?_ _) | (with_reducible exact Nat.le_refl _) | omega | (simp; done) | (simp; omega)))) (Nat.le_refl _) _, rfl⟩

end Go.Proofs.YtljmdcegcckblaaGreatDoor
/- Layer 7: sectors that are equal. -/
namespace Go.Proofs.YtljmdcegcckblaaGreatDoor
open Go.RowKit

theorem part_u8 (l : List Int) (i : Nat) (h : i < l.length) (w : World) : (part 5 (bytesV l) i).run Tryz.prog w = .ok (.int .u8 (l.getD i 0)) w := by
  have hi := bytesV_get h
  unfold part
  simp [hi]
theorem eqU8 (d : Nat) (a b : Int) (w : World) : (Op.equalIn (d + 1) 5 (.int .u8 a) (.int .u8 b)).run Tryz.prog w = .ok (a == b) w := by
  simp [Op.equalIn, run_underlying Tryz.underlying5]
theorem eqItems_u8 (d : Nat) (xs ys : List Int) (w : World) : ∀ is : List Nat, (∀ i ∈ is, i < xs.length ∧ i < ys.length) →
    (Op.eqItems (d + 1) 5 1 (bytesV xs) (bytesV ys) is).run Tryz.prog w = .ok (is.all fun i => xs.getD i 0 == ys.getD i 0) w
  | [], _ => by simp [Op.eqItems]
  | i :: is, h => by
    have h1 := h i (by simp)
    have ih := eqItems_u8 d xs ys w is (fun j hj => h j (by simp [hj]))
    simp only [Op.eqItems, Nat.mul_one, Sem.run_bind, part_u8 xs i h1.1, part_u8 ys i h1.2, Result.andThen_ok, eqU8, List.all_cons]
    cases hq : (xs.getD i 0 == ys.getD i 0)
    · simp
    · simpa using ih
theorem all_range_eq {xs ys : List Int} (hl : xs.length = ys.length) : ((List.range xs.length).all fun i => xs.getD i 0 == ys.getD i 0) = decide (xs = ys) := by
  by_cases h : xs = ys
  · subst h; simp
  · rw [decide_eq_false h]
    rw [List.all_eq_false]
    refine Classical.byContradiction fun hn => h ?_
    apply List.ext_getElem hl
    intro i h1 h2
    have := fun hh => hn ⟨i, by simpa using h1, hh⟩
    simp [List.getD_eq_getElem?_getD, h1, h2] at this
    exact this
theorem eqSec (xs ys : List Int) (hx : xs.length = 128) (hy : ys.length = 128) (w : World) :
    (binOp .eql 141 (.agg (bytesV xs)) (.agg (bytesV ys))).run Tryz.prog w = .ok (.bool (decide (xs = ys))) w := by
  have hi : ∃ i, Tryz.prog.info? 5 = some i := by
    obtain ⟨i, h, _⟩ := info_parts (show (Tryz.prog.info? 5).map (fun i => (i.zero, i.size, i.bytes)) = some (some (.int .u8 0), 1, 1) by kernel_rfl)
    exact ⟨i, h⟩
  obtain ⟨i, hi⟩ := hi
  have hc : Tryz.prog.cellsOf 5 = 1 := by kernel_rfl
  rw [run_eql_struct, run_equalIn_array w 9999 (bytesV xs) (bytesV ys) Tryz.underlying141 hi, hc, eqItems_u8 9998 xs ys w (List.range 128) (fun j hj => by have := List.mem_range.1 hj; omega)]
  rw [← hx, all_range_eq (by omega)]
  rfl

end Go.Proofs.YtljmdcegcckblaaGreatDoor
/- A region that draws its order, whose last operation may write what the others read: the reads in any order, then what makes memory. No program in sight. -/
namespace Go.Proofs.YtljmdcegcckblaaGreatDoor
open Go

section
variable {P : Program} {ops : Array Oper} {Q : Exit → Act → World → Prop} {S : World → Prop} {T : Nat}

/-- Every order from here on; behind each operation but number T the world meets S. -/
def anyT (P : Program) (ops : Array Oper) (Q : Exit → Act → World → Prop) (S : World → Prop) (T : Nat) : Nat → Array Bool → Act → World → Prop
  | 0, L, a, w => Region.ready .any ops L = [] ∧ Q .normal a w
  | f + 1, L, a, w => (Region.ready .any ops L = [] → Q .normal a w) ∧
      ∀ i ∈ Region.ready .any ops L, wpOp P ops Q i (fun a' w' => (i ≠ T → S w') ∧ anyT P ops Q S T f (L.setIfInBounds i true) a' w') a w

theorem any_of_anyT (f : Nat) : ∀ (L : Array Bool) (a : Act) (w : World), anyT P ops Q S T f L a w → wpAny P .any ops Q f L a w := by
  induction f with
  | zero => exact fun _ _ _ h => h
  | succ f ih => exact fun L a w h => ⟨h.1, fun i hi => wpOp_mono (fun a' w' h' => ih _ a' w' h'.2) (h.2 i hi)⟩

theorem anyT_take {i : Nat} {o : Oper} {v : Value} (ho : ops[i]? = some o) (hns : Region.noSelect ops = true) (hT : Region.waitsFor .any ops T i = true)
    (hQ : ∀ c a d v w, Q (.panic c) (Act.put a d v) w → Q (.panic c) a w) (f : Nat) :
    ∀ (L : Array Bool) (a : Act) (w : World), (∀ j p, ops[j]? = some p → j ≠ i → L.getD j true = false → (∀ e ∈ p.after, Region.binds .any e = true → e.on ≠ i) → o.apart ops p = true) →
      i ∈ Region.ready .any ops L → YieldsIf P ops S o v a → S w → anyT P ops Q S T f (L.setIfInBounds i true) (a.put o.dst v) w → anyT P ops Q S T (f + 1) L a w := by
  have hsel := Region.noSelect_spec hns
  induction f with
  | zero =>
    intro L a w _ hr hy hS H
    refine ⟨fun h0 => (by rw [h0] at hr; cases hr), fun j hj => ?_⟩
    by_cases e : j = i
    · subst e; exact hy.wpOp ho hS ⟨fun _ => hS, H⟩
    · have := ready_mono hj e; rw [H.1] at this; cases this
  | succ f ih =>
    intro L a w hfr hr hy hS H
    refine ⟨fun h0 => (by rw [h0] at hr; cases hr), fun j hj => ?_⟩
    by_cases e : j = i
    · subst e; exact hy.wpOp ho hS ⟨fun _ => hS, H⟩
    · have hi0 := getD_both (mem_ready.1 hr).1
      obtain ⟨hj0, p, hp, hall⟩ := mem_ready.1 hj
      have hnw : ∀ x ∈ p.after, Region.binds .any x = true → x.on ≠ i := fun x hx hb hxi => by
        have := hall x hx hb
        rw [hxi, hi0] at this; cases this
      have hjT : j ≠ T := fun hjT => by
        obtain ⟨q, hq, x, hx, hb, hon⟩ := Region.waitsFor_spec hT
        rw [hjT] at hp
        rw [hp] at hq; cases hq
        exact hnw x hx hb hon
      have hstep := wpOp_putIf hp (hfr j p hp e hj0 hnw) (fun cs b => hsel i o cs b ho) (fun cs b => hsel j p cs b hp) (fun c a w => hQ c a o.dst v w) hy (H.2 j (ready_mono hj e))
      refine wpOp_mono (fun a' w' h' => ⟨h'.2.1, ?_⟩) hstep
      refine ih (L.setIfInBounds j true) a' w' (fun k q hk hki hk0 hkn => hfr k q hk hki ?_ hkn) (ready_mono hr (Ne.symm e)) h'.1 (h'.2.1 hjT) ?_
      · by_cases ejk : j = k
        · subst ejk; exact hj0
        · rwa [getD_set_ne true ejk] at hk0
      · rw [Array.setIfInBounds_comm _ _ e]; exact h'.2.2

/-- The reads, each of which yields its value in every world that meets S. -/
def headS (P : Program) (ops : Array Oper) (S : World → Prop) (K : Act → Prop) : List Oper → Act → Prop
  | [], a => K a
  | o :: r, a => ∃ v, YieldsIf P ops S o v a ∧ headS P ops S K r (a.put o.dst v)
/-- The rest, in a row; behind each but the last one S is shown. -/
def tailS (P : Program) (ops : Array Oper) (Q : Exit → Act → World → Prop) (S : World → Prop) : List Oper → Act → World → Prop
  | [], a, w => Q .normal a w
  | o :: r, a, w => if Region.wanted o (yielded ops a.tmps) then o.wp P a w (fun a' w' => (r ≠ [] → S w') ∧ tailS P ops Q S r a' w') Q else (r ≠ [] → S w) ∧ tailS P ops Q S r (a.put o.dst undef) w
def lexT (ops : Array Oper) (T g : Nat) : Nat → Nat → Array Bool → Bool
  | 0, k, L => Region.seqB .any ops g k L
  | f + 1, k, L => (Region.ready .any ops L).contains k && Region.free .any ops L k && Region.waitsFor .any ops T k && lexT ops T g f (k + 1) (L.setIfInBounds k true)

theorem anyT_seq : ∀ (l : List Oper) (k : Nat) (L : Array Bool) (a : Act) (w : World), (∀ j, l[j]? = ops[k + j]?) → Region.seqB .any ops l.length k L = true → k + l.length = T + 1 → tailS P ops Q S l a w → anyT P ops Q S T l.length L a w
  | [], k, L, a, w, _, hB, _, h => ⟨by simpa [Region.seqB] using hB, h⟩
  | o :: r, k, L, a, w, hl, hB, hk, h => by
    have h0 : ops[k]? = some o := by simpa using (hl 0).symm
    simp only [List.length_cons, Region.seqB, Bool.and_eq_true, decide_eq_true_eq] at hB
    refine ⟨fun h1 => (by rw [hB.1] at h1; cases h1), fun i hi => ?_⟩
    rw [hB.1] at hi
    have hik : i = k := by simpa using hi
    subst hik
    have hrest : ∀ a' w', ((r ≠ [] → S w') ∧ tailS P ops Q S r a' w') → (i ≠ T → S w') ∧ anyT P ops Q S T r.length (L.setIfInBounds i true) a' w' := fun a' w' h' =>
      ⟨fun hne => h'.1 (fun e => by subst e; simp at hk; exact hne hk), anyT_seq r (i + 1) _ a' w' (fun j => by have := hl (j + 1); simpa [Nat.add_assoc, Nat.add_comm 1 j] using this) hB.2 (by simp at hk; omega) h'.2⟩
    unfold wpOp
    simp only [h0]
    unfold tailS at h
    by_cases hw : Region.wanted o (yielded ops a.tmps) = true
    · rw [if_pos hw] at h ⊢
      exact .inl (Oper.wp_mono hrest h)
    · rw [if_neg hw] at h ⊢
      exact hrest _ _ h

theorem anyT_lex {g : Nat} {w : World} {K : Act → Prop} (hns : Region.noSelect ops = true) (hQ : ∀ c a d v w, Q (.panic c) (Act.put a d v) w → Q (.panic c) a w) (hS : S w) :
    ∀ (l : List Oper) (k : Nat) (L : Array Bool) (a : Act), (∀ j, j < l.length → l[j]? = ops[k + j]?) → lexT ops T g l.length k L = true →
      (∀ L' a', Region.seqB .any ops g (k + l.length) L' = true → K a' → anyT P ops Q S T g L' a' w) → headS P ops S K l a → anyT P ops Q S T (l.length + g) L a w
  | [], k, L, a, _, hB, hK, h => by
    rw [List.length_nil, Nat.zero_add]
    exact hK L a hB h
  | o :: r, k, L, a, hl, hB, hK, h => by
    have h0 : ops[k]? = some o := by simpa using (hl 0 (by simp)).symm
    simp only [List.length_cons, lexT, Bool.and_eq_true] at hB
    obtain ⟨⟨⟨h1, h2⟩, h3⟩, h4⟩ := hB
    obtain ⟨v, hy, h⟩ := h
    rw [List.length_cons, show r.length + 1 + g = (r.length + g) + 1 by omega]
    refine anyT_take h0 hns h3 hQ _ L a w (Region.free_spec h0 h2) (by simpa using h1) hy hS ?_
    exact anyT_lex hns hQ hS r (k + 1) _ _ (fun j hj => by have := hl (j + 1) (by simp; omega); simpa [Nat.add_assoc, Nat.add_comm 1 j] using this) h4
      (fun L' a' hs hk => hK L' a' (by rw [List.length_cons, show k + (r.length + 1) = k + 1 + r.length by omega]; exact hs) hk) h

/-- THE LAW: n reads, then the rest in a row; the last one waits for all reads. -/
theorem wp_region_lastT {id : Nat} {a : Act} {w : World} {l : List Oper} (n : Nat) (S : World → Prop) (hm : P.follows .mixedOrders = true)
    (hB : (Region.noSelect l.toArray && decide (n < l.length) && lexT l.toArray (l.length - 1) (l.length - n) n 0 (Array.replicate l.length false)) = true)
    (hQ1 : ∀ c a t v w, Q (.panic c) (Act.put a (some t) v) w → Q (.panic c) a w) (hS : S w.drew)
    (h : headS P l.toArray S (fun a' => tailS P l.toArray Q S (l.drop n) a' w.drew) (l.take n) a) : (Code.region id l.toArray true).wp P Q a w := by
  have hQ : ∀ c a d v w, Q (.panic c) (Act.put a d v) w → Q (.panic c) a w := fun c a d v w h => by
    cases d with
    | none => exact h
    | some t => exact hQ1 c a t v w h
  simp only [Bool.and_eq_true, decide_eq_true_eq] at hB
  obtain ⟨⟨hns, hn⟩, hB⟩ := hB
  have htl : (l.take n).length = n := by simp; omega
  have hdl : (l.drop n).length = l.length - n := by simp
  refine wp_region_any hm ?_
  have H := anyT_lex (P := P) (Q := Q) (S := S) (T := l.length - 1) (g := l.length - n) (w := w.drew) hns hQ hS (l.take n) 0 (Array.replicate l.length false) a
    (fun j hj => by rw [htl] at hj; simp [hj]) (by rw [htl]; exact hB)
    (fun L' a' hs hk => by
      have := anyT_seq (P := P) (Q := Q) (S := S) (T := l.length - 1) (l.drop n) n L' a' w.drew (fun j => by simp [List.getElem?_drop]) (by rw [hdl]; rwa [htl, Nat.zero_add] at hs) (by rw [hdl]; omega) hk
      rwa [hdl] at this) h
  rw [htl, show n + (l.length - n) = l.length by omega] at H
  have := any_of_anyT _ _ _ _ H
  simpa using this

theorem headS_nil {K : Act → Prop} {a : Act} (h : K a) : headS P ops S K [] a := h
theorem headS_step {K : Act → Prop} {o : Oper} {r : List Oper} {a : Act} (hgd : o.guard = none) (v : Value) (hy : ∀ w, S w → (execOp a.eval o).run P w = .ok (.value v) w) (h : headS P ops S K r (a.put o.dst v)) : headS P ops S K (o :: r) a :=
  ⟨v, .inl ⟨by simp only [Region.wanted, hgd], hy⟩, h⟩
theorem headS_load {K : Act → Prop} {o : Oper} {r : List Oper} {a : Act} (hgd : o.guard = none) (ty : TypeId) (x : Operand) (ho : o.op = .load ty x) (v p : Value) (hx : a.eval x = p)
    (hy : ∀ w, S w → (Instr.loadAt ty p).run P w = .ok v w) (h : headS P ops S K r (a.put o.dst v)) : headS P ops S K (o :: r) a :=
  headS_step hgd v (fun w hw => by unfold execOp; simp only [ho, hx, Sem.run_bind, Sem.run_pure, Result.andThen_ok, hy w hw]) h
theorem headS_build {K : Act → Prop} {o : Oper} {r : List Oper} {a : Act} (hgd : o.guard = none) (t : TypeId) (parts : Array (Nat × Operand)) (ho : o.op = .build t parts) (vs : List (Nat × Value)) (hvs : parts.toList.map (fun p => (p.1, a.eval p.2)) = vs) (v : Value)
    (hy : ∀ w, (Instr.build t vs.toArray).run P w = .ok v w) (h : headS P ops S K r (a.put o.dst v)) : headS P ops S K (o :: r) a :=
  headS_step hgd v (fun w _ => by
    have e : (parts.map fun (i, x) => (i, a.eval x)) = vs.toArray := by rw [← hvs]; apply Array.toList_inj.1; simp
    unfold execOp
    simp only [ho, e, Sem.run_bind, hy w, Result.andThen_ok, Sem.run_pure]) h
theorem tailS_step {o : Oper} {r : List Oper} {a : Act} {w : World} (h : ∀ K : Act → World → Prop, (∀ a' w', (r ≠ [] → S w') → tailS P ops Q S r a' w' → K a' w') → if Region.wanted o (yielded ops a.tmps) then o.wp P a w K Q else K (a.put o.dst undef) w) : tailS P ops Q S (o :: r) a w :=
  h _ fun _ _ h1 h2 => ⟨h1, h2⟩
theorem tailS_val {o : Oper} {r : List Oper} {a : Act} {w w' : World} (hgd : o.guard = none) (v : Value) (hrun : (execOp a.eval o).run P w = .ok (.value v) w') (hS : r ≠ [] → S w') (h : tailS P ops Q S r (a.put o.dst v) w') : tailS P ops Q S (o :: r) a w := by
  refine tailS_step fun K hK => ?_
  simp only [Region.wanted, hgd, if_true]
  unfold Oper.wp
  rw [hrun]
  exact hK _ _ hS h
theorem tailS_slice {o : Oper} {r : List Oper} {a : Act} {w w' : World} (hgd : o.guard = none) (t : TypeId) (n : Nat) (parts : Array (Nat × Operand)) (ho : o.op = .buildSlice t n parts) (vs : List (Nat × Value)) (hvs : parts.toList.map (fun p => (p.1, a.eval p.2)) = vs) (v : Value)
    (hrun : (Instr.buildSlice t n vs.toArray).run P w = .ok v w') (hS : r ≠ [] → S w') (h : tailS P ops Q S r (a.put o.dst v) w') : tailS P ops Q S (o :: r) a w := by
  have e : (parts.map fun (i, x) => (i, a.eval x)) = vs.toArray := by rw [← hvs]; apply Array.toList_inj.1; simp
  exact tailS_val hgd v (by unfold execOp; simp only [ho, e, Sem.run_bind, hrun, Result.andThen_ok, Sem.run_pure]) hS h
theorem tailS_append {o : Oper} {r : List Oper} {a : Act} {w w' : World} (hgd : o.guard = none) (s x : Operand) (t : TypeId) (ho : o.op = .call { callee := .builtin .append, args := #[s, x], argTypes := #[t, t] }) (p q v : Value) (hs : a.eval s = p) (hx : a.eval x = q)
    (hrun : (Builtin.append_ #[t, t] o.type #[p, q]).run P w = .ok v w') (hS : r ≠ [] → S w') (h : tailS P ops Q S r (a.put o.dst v) w') : tailS P ops Q S (o :: r) a w :=
  tailS_val hgd v (by unfold execOp; simp only [ho, resolve, invoke, builtin, Sem.run_bind, Sem.run_pure, Result.andThen_ok, List.map_toArray, List.map_cons, List.map_nil, hs, hx, hrun]) hS h
end
end Go.Proofs.YtljmdcegcckblaaGreatDoor
