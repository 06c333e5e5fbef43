/- Parts of the proof, put together by program: V2, V3, C5. -/
import Derived.Test.YtjocnooekgnedaaGreatDoorPart05
import Derived.Test.YtjocnooekgnedaaGreatDoorPart06
import Derived.Maps.OwnSet
import Derived.ChangeKeysEq
set_option linter.unusedVariables false
set_option linter.unusedSimpArgs false
/- Layer 6: where a sector is read. -/
namespace Go.Proofs.YtjocnooekgnedaaGreatDoor
open Go.RowKit Go.Maps

/-- The map from sectors to their newest writes, when k writes have been looked at; and what it says. -/
def newestD (ats : List Int) : Nat → DataW Unit
  | 0 => .map []
  | k + 1 => (newestD ats k).put (.int .i64 (ats.getD k 0)) (.lit (.int .i64 k))
def newIdx (ats : List Int) (a : Int) : Nat → Option Nat
  | 0 => none
  | k + 1 => if ats.getD k 0 = a then some k else newIdx ats a k
theorem newestD_isMap (ats : List Int) (k : Nat) : IsMap (newestD ats k) := by
  cases k with
  | zero => exact isMap_empty
  | succ k =>
    induction k with
    | zero => exact isMap_empty.put _ _
    | succ k ih => exact ih.put _ _
theorem newestD_has (ats : List Int) (a : Int) (k : Nat) : has (newestD ats k) (.int .i64 a) = (newIdx ats a k).isSome := by
  induction k with
  | zero => rfl
  | succ k ih =>
    unfold newestD newIdx
    by_cases h : ats.getD k 0 = a
    · rw [h, if_pos rfl]
      exact has_put_same (newestD_isMap ats k) (show WideAt.IsKeyLit (.int .i64 a) from trivial) _
    · rw [if_neg h, has_put_other (by intro e; cases e; exact h rfl), ih]
theorem newestD_at (ats : List Int) (a : Int) (k : Nat) (z : DataW Unit) : (newestD ats k).atKey (.int .i64 a) z = match newIdx ats a k with | some i => .lit (.int .i64 i) | none => z := by
  induction k with
  | zero => rfl
  | succ k ih =>
    unfold newestD newIdx
    by_cases h : ats.getD k 0 = a
    · rw [h, if_pos rfl]
      exact atKey_put_same (newestD_isMap ats k) (show WideAt.IsKeyLit (.int .i64 a) from trivial) _ _
    · rw [if_neg h, atKey_put_other (by intro e; cases e; exact h rfl), ih]
theorem newIdx_lt {ats : List Int} {a : Int} {k i : Nat} (h : newIdx ats a k = some i) : i < k ∧ ats.getD i 0 = a := by
  induction k with
  | zero => cases h
  | succ k ih =>
    unfold newIdx at h
    split at h
    · cases h; exact ⟨by omega, by assumption⟩
    · have := ih h; exact ⟨by omega, this.2⟩

/-- Where a sector's bytes lie. -/
def readsP (S : Nat) (ats : List Int) (g : Nat) (a : Nat) : Addr := match newIdx ats (a : Int) ats.length with | some i => ⟨g, i * 129 + 1, none⟩ | none => ⟨S, a * 128, none⟩

set_option maxRecDepth 100000 in
set_option maxHeartbeats 1000000 in
theorem reads_any (D S n c g L cc : Nat) (A : Option Addr) (tk pw : Int) (off : Bool) (M q : Nat) (ats : List Int) (a : Nat) (hL : ats.length = L) (hA : 0 < L → A = some ⟨g, 0, none⟩) (ha : a < n) (hn : n ≤ 1000) (hL2 : L ≤ 1000) (w : World)
    (bD : Blk w D 210 (devC S n c (.slice A L cc) tk pw off M)) (hM : w.ownsMap Tryz.prog 3 (plainElem Tryz.prog 3) M q (newestD ats L)) :
    Calls Tryz.prog 166 #[.pointer (some ⟨D, 0, none⟩), .int .i64 a] w fun e w' => e = .returned (.pointer (some (readsP S ats g a))) ∧ w' = w := by
  have wa : (Lit.int .i64 (a : Int)).wf = true := by simp [Lit.wf, IntKind.min, IntKind.max, IntKind.signed, IntKind.bits]; omega
  have hz : (zeroValue 3).run Tryz.prog w = .ok (.int .i64 0) w := by kernel_rfl
  obtain ⟨v, ps, hrun, hv⟩ := hM.look_ok (int_keyed Tryz.underlying3) Tryz.underlying208 hz (plainElem_int Tryz.underlying3 (by decide)) (keyOf_int_mk Tryz.underlying3 wa)
  obtain ⟨i, rfl, hi, _⟩ := plainElem_int_inv Tryz.underlying3 hv
  have hi := congrArg Prod.fst hi
  simp only at hi
  rw [newestD_at] at hi
  rw [newestD_has] at hrun
  unfold devC at bD
  have cD := bD.cells
  unfold readsP
  rw [hL]
  cases hx : newIdx ats (a : Int) L with
  | none =>
    rw [hx] at hi hrun
    have HI := Lib.hid hi
    clear hi hv hM hx
    simp only [Option.isSome_none] at hrun
    go_enter Tryz.func166, Tryz.ntmps166
    go_wp2_with fail
    go_ret
    exact ⟨rfl, rfl⟩
  | some p =>
    obtain ⟨hp, _⟩ := newIdx_lt hx
    have hA' := hA (by omega)
    subst hA'
    rw [hx] at hi hrun
    have hpi : (p : Int) = i := by simpa using hi
    subst hpi
    clear hi hv hM hx
    simp only [Option.isSome_some] at hrun
    go_enter Tryz.func166, Tryz.ntmps166
    go_wp2_with fail
    go_ret
    exact ⟨rfl, rfl⟩

end Go.Proofs.YtjocnooekgnedaaGreatDoor
/- Layer 6: Read. -/
namespace Go.Proofs.YtjocnooekgnedaaGreatDoor
open Go.RowKit Go.Maps

/-- A sector's bytes lie at a place. -/
def SecAt (w : World) (p : Addr) (xs : List Int) : Prop := xs.length = 128 ∧ p.spot = none ∧ ∀ j, j < 128 → w.cell? ⟨p.block, p.off + j, none⟩ = some (.int .u8 (xs.getD j 0))
theorem SecAt.load {w : World} {p : Addr} {xs : List Int} (h : SecAt w p xs) : (loadVar 204 p).run Tryz.prog w = .ok (.agg (bytesV xs)) w := by
  obtain ⟨hl, hsp, hc⟩ := h
  obtain ⟨b, off, spot⟩ := p
  simp only at hsp
  subst hsp
  have hload : (loadCells ⟨b, off, none⟩ 128).run Tryz.prog w = .ok (bytesV xs) w := by
    have := run_loadCells_list (P := Tryz.prog) w ⟨b, off, none⟩ (xs.map (Value.int .u8)) (fun j v hv => by
      have hadd : (⟨b, off, none⟩ : Addr).add j = ⟨b, off + j, none⟩ := by unfold Addr.add; split <;> simp_all
      rw [List.getElem?_map] at hv
      by_cases hj : j < xs.length
      · rw [List.getElem?_eq_getElem hj, Option.map_some, Option.some.injEq] at hv
        rw [hadd, hc j (by omega), ← hv]
        simp [List.getD_eq_getElem?_getD, hj]
      · rw [List.getElem?_eq_none (by omega)] at hv; cases hv)
    rw [List.length_map, hl] at this
    exact this
  have hag : (isAgg 204).run Tryz.prog w = .ok true w := by kernel_rfl
  have hsz : (sizeOf 204).run Tryz.prog w = .ok 128 w := by kernel_rfl
  unfold loadVar
  simp [hag, hsz, hload]
theorem wpList_loadSecAny {ops : Array Oper} {rest : List Oper} {o : Oper} {a : Act} {w : World} {Q : Exit → Act → World → Prop} (hgd : o.guard = none) (x : Operand) (ho : o.op = .load 204 x)
    (p : Addr) (hx : a.eval x = .pointer (some p)) {l : List Int} (hs : SecAt w p l)
    (h : wpList Tryz.prog ops Q rest (a.put o.dst (.agg (bytesV l))) w) : wpList Tryz.prog ops Q (o :: rest) a w := by
  refine wpList_plain hgd fun _ hK => ?_
  unfold Oper.wp execOp
  simp only [ho, hx, Instr.loadAt, Instr.sureAddr, Sem.run_bind, Sem.run_pure, Result.andThen_ok, hs.load]
  exact hK _ _ h

theorem results_sec {fn : Func} {m n R : Nat} {tmps : Array Value} {w : World} {t : TypeId} {l : List Int} {e : Int} (hr : fn.results = #[.cell m 204, .tmp n]) (hm : tmps.getD m undef = .pointer (some ⟨R, 0, none⟩)) (hn : tmps.getD n undef = .int .i64 e) (b : Blk w R t (bytesV l)) (hl : l.length = 128) :
    (results fn tmps).run Tryz.prog w = .ok (.tuple #[.agg (bytesV l), .int .i64 e]) w := by
  have h := b.loadSec hl
  have h1 : (asAddr (.pointer (some ⟨R, 0, none⟩))).run Tryz.prog w = .ok ⟨R, 0, none⟩ w := rfl
  have hm' : tmps[m]?.getD undef = .pointer (some ⟨R, 0, none⟩) := by simpa using hm
  have hn' : tmps[n]?.getD undef = .int .i64 e := by simpa using hn
  simp [results, hr, hm', hn', h1, h]
set_option maxRecDepth 100000 in
set_option maxHeartbeats 1000000 in
theorem read_any (D S n c g L cc : Nat) (A : Option Addr) (tk pw : Int) (off : Bool) (M q : Nat) (ats : List Int) (a : Int) (xs : List Int) (hL : ats.length = L) (hA : 0 < L → A = some ⟨g, 0, none⟩) (hn : n ≤ 1000) (hL2 : L ≤ 1000) (w : World)
    (bD : Blk w D 210 (devC S n c (.slice A L cc) tk pw off M)) (hM : w.ownsMap Tryz.prog 3 (plainElem Tryz.prog 3) M q (newestD ats L)) (hS : atE off n a = 0 → SecAt w (readsP S ats g a.toNat) xs ∧ (readsP S ats g a.toNat).block < w.heap.size) :
    Calls Tryz.prog 122 #[.pointer (some ⟨D, 0, none⟩), .int .i64 a] w fun e w' => Below w.heap.size w w' ∧ e = .returned (.tuple #[.agg (bytesV (if atE off n a = 0 then xs else zsec)), .int .i64 (atE off n a)]) := by
  have hz := zeroSector
  have bD1 : Blk (w.alloc (.cells (bytesV zsec) 204)) D 210 (devC S n c (.slice A L cc) tk pw off M) := bD.alloc _
  have bR1 : Blk (w.alloc (.cells (bytesV zsec) 204)) w.heap.size 204 (bytesV zsec) := Blk.new _ _ _
  have lD := bD.lt
  by_cases hE : atE off n a = 0
  · rw [if_pos hE]
    obtain ⟨hS, hSb⟩ := hS hE
    have hxl := hS.1
    have ha : 0 ≤ a ∧ a < (n : Int) := by
      unfold atE at hE
      cases off
      · simp only [Bool.false_eq_true, if_false] at hE
        split at hE
        · omega
        · omega
      · simp at hE
    obtain ⟨an, rfl⟩ := Int.eq_ofNat_of_zero_le ha.1
    rw [Int.toNat_natCast] at hS hSb
    have hat := at_any D S n c (.slice A L cc) tk pw off M an _ bD1
    rw [hE] at hat ⊢
    have hrd := reads_any D S n c g L cc A tk pw off M q ats an hL hA (by omega) hn hL2 _ bD1 (hM.alloc _)
    have hS1 : SecAt (w.alloc (.cells (bytesV zsec) 204)) (readsP S ats g an) xs := ⟨hS.1, hS.2.1, fun j hj => by
      rw [← hS.2.2 j hj]
      exact World.cell?_of_block (Below.heap_alloc w _ _ hSb)⟩
    generalize readsP S ats g an = p at *
    clear hE bD hM hS
    go_enter Tryz.func122, Tryz.ntmps122
    go_wp2_with fail
    refine hat.mono ?_
    rintro e w1 ⟨rfl, rfl⟩
    go_wp2_with fail
    refine hrd.mono ?_
    rintro e w1 ⟨rfl, rfl⟩
    go_wp2_with (first
      | (refine wpList_loadSecAny rfl _ rfl p rfl hS1 ?_)
      | (refine wpList_storeSec rfl _ _ rfl w.heap.size xs rfl rfl bR1 zsec_length hxl ?_))
    refine bodyPost_ret (results_sec rfl rfl rfl (bR1.setRow (cs' := bytesV xs)) hxl) rfl ?_
    exact ⟨Below.setRow (by (repeat' (first | (with_reducible exact Below.refl _ _) | (with_reducible assumption) | (with_reducible refine Below.alloc ?_ ?_ _) | (with_reducible refine Below.drew ?_) | (with_reducible refine below_drewN' ?_ _) | (with_reducible refine Below.setCell ?_ ?_ _) | (with_reducible exact Nat.le_refl _) | omega | (simp; done) | (simp; omega)))) (Nat.le_refl _) _, rfl⟩
  · rw [if_neg hE]
    have hat := at_any D S n c (.slice A L cc) tk pw off M a _ bD1
    generalize atE off n a = E at *
    have hE' : (E != 0) = true := by simpa using hE
    clear hE hS hM bD
    go_enter Tryz.func122, Tryz.ntmps122
    go_wp2_with fail
    refine hat.mono ?_
    rintro e w1 ⟨rfl, rfl⟩
    go_wp2_with (refine wpList_storeSec rfl _ _ rfl w.heap.size zsec rfl rfl bR1 zsec_length zsec_length ?_)
    refine bodyPost_ret (results_sec rfl rfl rfl (bR1.setRow (cs' := bytesV zsec)) zsec_length) rfl ?_
    exact ⟨Below.setRow (by (repeat' (first | (with_reducible exact Below.refl _ _) | (with_reducible assumption) | (with_reducible refine Below.alloc ?_ ?_ _) | (with_reducible refine Below.drew ?_) | (with_reducible refine below_drewN' ?_ _) | (with_reducible refine Below.setCell ?_ ?_ _) | (with_reducible exact Nat.le_refl _) | omega | (simp; done) | (simp; omega)))) (Nat.le_refl _) _, rfl⟩

end Go.Proofs.YtjocnooekgnedaaGreatDoor
/- Layer 7: sectors that are equal. -/
namespace Go.Proofs.YtjocnooekgnedaaGreatDoor
open Go.RowKit

theorem isAggU8 (w : World) : (isAgg 5).run Tryz.prog w = .ok false w := by kernel_rfl
theorem part_u8 (l : List Int) (i : Nat) (h : i < l.length) (w : World) : (part 5 (bytesV l) i).run Tryz.prog w = .ok (.int .u8 (l.getD i 0)) w := by
  have hi := bytesV_get h
  unfold part
  simp [hi]
theorem eqU8 (d : Nat) (a b : Int) (w : World) : (Op.equalIn (d + 1) 5 (.int .u8 a) (.int .u8 b)).run Tryz.prog w = .ok (a == b) w := by
  simp [Op.equalIn, run_underlying Tryz.underlying5]
theorem eqItems_u8 (d : Nat) (xs ys : List Int) (w : World) : ∀ is : List Nat, (∀ i ∈ is, i < xs.length ∧ i < ys.length) →
    (Op.eqItems (d + 1) 5 1 (bytesV xs) (bytesV ys) is).run Tryz.prog w = .ok (is.all fun i => xs.getD i 0 == ys.getD i 0) w
  | [], _ => by simp [Op.eqItems]
  | i :: is, h => by
    have h1 := h i (by simp)
    have ih := eqItems_u8 d xs ys w is (fun j hj => h j (by simp [hj]))
    simp only [Op.eqItems, Nat.mul_one, Sem.run_bind, part_u8 xs i h1.1, part_u8 ys i h1.2, Result.andThen_ok, eqU8, List.all_cons]
    cases hq : (xs.getD i 0 == ys.getD i 0)
    · simp
    · simpa using ih
theorem all_range_eq {xs ys : List Int} (hl : xs.length = ys.length) : ((List.range xs.length).all fun i => xs.getD i 0 == ys.getD i 0) = decide (xs = ys) := by
  by_cases h : xs = ys
  · subst h; simp
  · rw [decide_eq_false h]
    rw [List.all_eq_false]
    refine Classical.byContradiction fun hn => h ?_
    apply List.ext_getElem hl
    intro i h1 h2
    have := fun hh => hn ⟨i, by simpa using h1, hh⟩
    simp [List.getD_eq_getElem?_getD, h1, h2] at this
    exact this
theorem eqSec (xs ys : List Int) (hx : xs.length = 128) (hy : ys.length = 128) (w : World) :
    (binOp .eql 204 (.agg (bytesV xs)) (.agg (bytesV ys))).run Tryz.prog w = .ok (.bool (decide (xs = ys))) w := by
  have hi : ∃ i, Tryz.prog.info? 5 = some i := by
    obtain ⟨i, h, _⟩ := info_parts (show (Tryz.prog.info? 5).map (fun i => (i.zero, i.size, i.bytes)) = some (some (.int .u8 0), 1, 1) by kernel_rfl)
    exact ⟨i, h⟩
  obtain ⟨i, hi⟩ := hi
  have hc : Tryz.prog.cellsOf 5 = 1 := by kernel_rfl
  rw [run_eql_struct, run_equalIn_array w 9999 (bytesV xs) (bytesV ys) Tryz.underlying204 hi, hc, eqItems_u8 9998 xs ys w (List.range 128) (fun j hj => by have := List.mem_range.1 hj; omega)]
  rw [← hx, all_range_eq (by omega)]
  rfl

end Go.Proofs.YtjocnooekgnedaaGreatDoor
