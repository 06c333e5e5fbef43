/- Parts of the proof, put together by program: C7, V8, V9, A5. -/
import Derived.Test.YtloddiipepiocaaGreatDoorPart04
import Derived.StillTailTactics
import Derived.Test.YtloddiipepiocaaGreatDoorPart09
import Derived.Great.BuildSlice
import Derived.Test.YtloddiipepiocaaGreatDoorPart02
set_option linter.unusedVariables false
set_option linter.unusedSimpArgs false
/- Rows of many-celled elements: loads and stores of whole elements in the midst of a block, in order or in a region that draws its order. -/
namespace Go.Proofs.YtloddiipepiocaaGreatDoor
open Go.RowKit

/-- The cells at a place. -/
def CellsAt (w : World) (p : Addr) (vs : List Value) : Prop := p.spot = none ∧ ∀ j u, vs[j]? = some u → w.cell? ⟨p.block, p.off + j, none⟩ = some u
theorem addr_add (b o j : Nat) : (⟨b, o, none⟩ : Addr).add j = ⟨b, o + j, none⟩ := by unfold Addr.add; split <;> simp_all
theorem CellsAt.kept {w w' : World} {p : Addr} {vs : List Value} (h : CellsAt w p vs) (hb : w'.heap[p.block]? = w.heap[p.block]?) : CellsAt w' p vs :=
  ⟨h.1, fun j u hu => (World.cell?_of_block (w := w) (a := ⟨p.block, p.off + j, none⟩) hb).trans (h.2 j u hu)⟩
theorem CellsAt.drew {w : World} {p : Addr} {vs : List Value} (h : CellsAt w p vs) : CellsAt w.drew p vs := h.kept rfl
theorem Blk.at_ {w : World} {g : Nat} {t : TypeId} {cs : Array Value} (h : Blk w g t cs) (o : Nat) (vs : List Value) (hv : ∀ j u, vs[j]? = some u → cs[o + j]? = some u) : CellsAt w ⟨g, o, none⟩ vs :=
  ⟨rfl, fun j u hu => (h.cells (o + j)).trans (hv j u hu)⟩

theorem run_loadAt_row {P : Program} {w : World} {ty : TypeId} {p : Addr} {vs : List Value} (h : CellsAt w p vs) (hag : (isAgg ty).run P w = .ok true w) (hsz : (sizeOf ty).run P w = .ok vs.length w) :
    (Instr.loadAt ty (.pointer (some p))).run P w = .ok (.agg vs.toArray) w := by
  obtain ⟨b, o, sp⟩ := p
  obtain ⟨hs, hc⟩ := h
  simp only at hs
  subst hs
  have hl := run_loadCells_list (P := P) w ⟨b, o, none⟩ vs (fun j v hv => by rw [addr_add]; exact hc j v hv)
  simp only [Instr.loadAt, Instr.sureAddr, Sem.run_bind, Sem.run_pure, Result.andThen_ok, loadVar, hag, hsz, if_true, hl]
theorem run_storeAt_row {P : Program} {w : World} {ty t : TypeId} {g o : Nat} {cur : Array Value} {vs : List Value} (h : Blk w g t cur) (ho : o + vs.length ≤ cur.size) (h1 : ∀ v ∈ vs, v.oneCell' = true) (hsz : (sizeOf ty).run P w = .ok vs.length w) :
    (Instr.storeAt ty (.pointer (some ⟨g, o, none⟩)) (.agg vs.toArray)).run P w = .ok () (w.setRow g (cur.toList.take o ++ vs ++ cur.toList.drop (o + vs.length)).toArray) := by
  have hst := run_storeCells_at P g o t vs 0 cur w h (by simpa using ho) h1
  simp only [Nat.add_zero] at hst
  simp only [Instr.storeAt, Instr.sureAddr, Sem.run_bind, Sem.run_pure, Result.andThen_ok, storeVar, hsz, Value.cells, List.size_toArray, ne_eq, not_true_eq_false, if_false, hst]

theorem wpStill_load {P : Program} {ops : Array Oper} {rest : List Oper} {o : Oper} {a : Act} {w : World} {Q : Act → Prop} (hgd : o.guard = none) (ty : TypeId) (x : Operand) (ho : o.op = .load ty x) (v p : Value)
    (hx : a.eval x = p) (hrun : (Instr.loadAt ty p).run P w = .ok v w) (h : wpStill P ops w Q rest (a.put o.dst v)) : wpStill P ops w Q (o :: rest) a := by
  refine wpStill_step fun K hK => ?_
  simp only [Region.wanted, hgd, if_true]
  unfold Oper.still execOp
  simp only [ho, hx, Sem.run_bind, Sem.run_pure, Result.andThen_ok, hrun, Oper.stillUpon_value]
  exact hK _ h
theorem wpList_loadBy {P : Program} {ops : Array Oper} {rest : List Oper} {o : Oper} {a : Act} {w : World} {Q : Exit → Act → World → Prop} (hgd : o.guard = none) (ty : TypeId) (x : Operand) (ho : o.op = .load ty x) (v p : Value)
    (hx : a.eval x = p) (hrun : (Instr.loadAt ty p).run P w = .ok v w) (h : wpList P ops Q rest (a.put o.dst v) w) : wpList P ops Q (o :: rest) a w := by
  refine wpList_plain hgd fun _ hK => ?_
  unfold Oper.wp execOp
  simp only [ho, hx, Sem.run_bind, Sem.run_pure, Result.andThen_ok, hrun]
  exact hK _ _ h
theorem wpList_storeBy {P : Program} {ops : Array Oper} {rest : List Oper} {o : Oper} {a : Act} {w w' : World} {Q : Exit → Act → World → Prop} (hgd : o.guard = none) (ty : TypeId) (x y : Operand) (ho : o.op = .store ty x y) (p v : Value)
    (hx : a.eval x = p) (hy : a.eval y = v) (hrun : (Instr.storeAt ty p v).run P w = .ok () w') (h : wpList P ops Q rest (a.put o.dst undef) w') : wpList P ops Q (o :: rest) a w := by
  refine wpList_plain hgd fun _ hK => ?_
  unfold Oper.wp execOp
  simp only [ho, hx, hy, Sem.run_bind, Sem.run_pure, Result.andThen_ok, hrun]
  exact hK _ _ h

/-- An element of an owned row is written anew. -/
theorem own_setRow {w : World} {base : Nat} {e : TypeId} {size g n cap : Nat} {xs : List Value} (h : w.ownsRow base e size (.slice (some ⟨g, 0, none⟩) n cap) n xs) (o : Nat) (vs : List Value) (ho : o + vs.length ≤ n * size) :
    ∃ cur, Blk w g e cur ∧ o + vs.length ≤ cur.size ∧ (w.setRow g (cur.toList.take o ++ vs ++ cur.toList.drop (o + vs.length)).toArray).ownsRow base e size (.slice (some ⟨g, 0, none⟩) n cap) n (xs.take o ++ vs ++ xs.drop (o + vs.length)) := by
  rcases h.2 with ⟨h', _⟩ | ⟨g', cap', cur, h', hb, hg, hnc, hcm, hcs, htake⟩
  · simp at h'
  · simp only [Value.slice.injEq, Option.some.injEq, Addr.mk.injEq, and_true, true_and] at h'
    obtain ⟨rfl, rfl⟩ := h'
    have hl : n * size ≤ cur.size := by rw [hcs]; exact Nat.mul_le_mul_right _ hnc
    have hxl := h.1
    refine ⟨cur, hg, by omega, ⟨?_, .inr ⟨g, cap, _, rfl, hb, setRow_heap w g cur _ e _ hg, hnc, hcm, ?_, ?_⟩⟩⟩
    · rw [List.length_append, List.length_append, List.length_take, List.length_drop]; omega
    · simp only [List.size_toArray, List.length_append, List.length_take, List.length_drop, Array.length_toList]; omega
    · subst htake
      have e1 : min o cur.size = o := Nat.min_eq_left (by omega)
      have e2 : min o (n * size) = o := Nat.min_eq_left (by omega)
      simp only [List.take_append, List.take_take, List.length_append, List.length_take, Array.length_toList, e1, e2]
      rw [Nat.min_eq_right (by omega : o ≤ n * size), List.take_of_length_le (by omega : vs.length ≤ n * size - o), List.drop_take]

theorem flat_set {α : Type} {f : α → List Value} {m : Nat} : ∀ {l : List α}, (∀ s ∈ l, (f s).length = m) → ∀ {i : Nat} {s : α} (_ : (f s).length = m) (_ : i < l.length), (l.set i s).flatMap f = (l.flatMap f).take (i * m) ++ f s ++ (l.flatMap f).drop (i * m + (f s).length)
  | [], _, i, s, _, hi => by simp at hi
  | t :: r, h, i, s, hs, hi => by
    have ht := h t (by simp)
    cases i with
    | zero =>
      simp only [List.set_cons_zero, List.flatMap_cons, Nat.zero_mul, List.take_zero, List.nil_append, Nat.zero_add]
      rw [hs, ← ht, List.drop_left]
    | succ i =>
      have ih := flat_set (fun s hs => h s (by simp [hs])) hs (by simpa using hi) (l := r) (i := i)
      simp only [List.set_cons_succ, List.flatMap_cons, ih]
      rw [show (i + 1) * m = (f t).length + i * m by rw [ht, Nat.add_mul]; omega, List.take_length_add_append, Nat.add_assoc, List.drop_length_add_append]
      simp [List.append_assoc]

end Go.Proofs.YtloddiipepiocaaGreatDoor
/- Layer 6: stable. -/
namespace Go.Proofs.YtloddiipepiocaaGreatDoor
open Go.RowKit

/-- The writes of a cache, put upon the sectors. -/
def stApply (st : List (List Int)) (c : List (Int × List Int)) : List (List Int) := c.foldl (fun st p => st.set p.1.toNat p.2) st
theorem stApply_length (st : List (List Int)) (c : List (Int × List Int)) : (stApply st c).length = st.length := by
  unfold stApply
  induction c generalizing st with
  | nil => rfl
  | cons p r ih => rw [List.foldl_cons, ih, List.length_set]
theorem stApply_step {st : List (List Int)} {c : List (Int × List Int)} {k : Nat} (hk : k < c.length) : stApply st (c.take (k + 1)) = (stApply st (c.take k)).set c[k].1.toNat c[k].2 := by
  unfold stApply
  rw [List.take_succ_eq_append_getElem hk, List.foldl_append]
  rfl
theorem stApply_sec {st : List (List Int)} {c : List (Int × List Int)} (h : ∀ s ∈ st, s.length = 128 ∧ Bytes s) (hc : ∀ p ∈ c, p.2.length = 128 ∧ Bytes p.2) : ∀ s ∈ stApply st c, s.length = 128 ∧ Bytes s := by
  unfold stApply
  induction c generalizing st with
  | nil => exact h
  | cons p r ih =>
    rw [List.foldl_cons]
    refine ih ?_ (fun q hq => hc q (by simp [hq]))
    intro s hs
    rcases List.mem_or_eq_of_mem_set hs with hs | hs
    · exact h s hs
    · subst hs; exact hc p (by simp)
def DevS.flushed (x : DevS) : DevS := { x with stable := stApply x.stable x.cache, cache := [] }
theorem DevS.Ok.flushed {x : DevS} (h : x.Ok) : x.flushed.Ok :=
  ⟨by show 64 ≤ (stApply _ _).length; rw [stApply_length]; exact h.lo, by show (stApply _ _).length ≤ 256; rw [stApply_length]; exact h.hi, stApply_sec h.sec (fun p hp => (h.cac p hp).2.2), fun p hp => (by cases hp), by show 0 ≤ 400; omega, h.tk, h.pw⟩

theorem Tryz.infoDvW : (Tryz.prog.info? 111).map (fun i => (i.zero, i.size)) = some (some (.agg (#[.int .i64 0] ++ fill (.int .u8 0) 128)), 129) := by kernel_rfl
theorem zeroDvW (w : World) : (zeroValue 111).run Tryz.prog w = .ok (.agg (dwV (0, zsec)).toArray) w := by
  have h := (zero_of_info Tryz.infoDvW).1 w
  have e : (dwV (0, zsec)).toArray = #[.int .i64 0] ++ fill (.int .u8 0) 128 := by
    unfold dwV secV
    have := bytesV_rep 128
    unfold bytesV at this
    rw [← this]
    show _ = #[Value.int .i64 0] ++ (zsec.map (Value.int .u8)).toArray
    generalize zsec.map (Value.int .u8) = l
    simp
  rw [e]; exact h
theorem sizeDvW (w : World) : (sizeOf 111).run Tryz.prog w = .ok 129 w := by kernel_rfl
theorem aggDvW (w : World) : (isAgg 111).run Tryz.prog w = .ok true w := by kernel_rfl
theorem sizeSec (w : World) : (sizeOf 42).run Tryz.prog w = .ok 128 w := by kernel_rfl
theorem aggSec (w : World) : (isAgg 42).run Tryz.prog w = .ok true w := by kernel_rfl
theorem secV_one (s : List Int) : ∀ v ∈ secV s, v.oneCell' = true := by
  intro v hv; unfold secV at hv; simp at hv; obtain ⟨_, _, rfl⟩ := hv; rfl
theorem dwV_one (p : Int × List Int) : ∀ v ∈ dwV p, v.oneCell' = true := by
  intro v hv
  rcases List.mem_cons.1 hv with rfl | hv
  · rfl
  · exact secV_one _ v hv

set_option maxRecDepth 100000 in
set_option maxHeartbeats 1000000 in
theorem stable_any (D S c M : Nat) (cv : Value) (x : DevS) (ok : x.Ok) (w : World) (m : DevMem w D S c M cv x) :
    Calls Tryz.prog 160 #[.pointer (some ⟨D, 0, none⟩)] w fun e w' => (∃ v, e = .returned v) ∧ DevMem w' D S c M (.slice none 0 0) x.flushed ∧ KeepEx w.heap.size [D, S, M] w w' := by
  obtain ⟨n1, n2, n3, n4, n5, n6⟩ := m.ne
  have hz := zeroDvW
  obtain ⟨A, cc, g, hcv, hA⟩ := cv_form m
  subst hcv
  have hL := ok.len
  have hN := ok.hi
  have bD := m.dev
  unfold devC at bD
  have cD := bD.cells
  have lD := bD.lt
  go_enter Tryz.func160, Tryz.ntmps160
  go_wp2_with fail
  go_loopw [3, 10] (fun _ q wr => ∃ k : Nat, k ≤ x.cache.length ∧ q = .int .i64 k ∧ DevMem wr D S c M (.slice A x.cache.length cc) { x with stable := stApply x.stable (x.cache.take k) } ∧ KeepEx w.heap.size [D, S, M] w wr) (fun _ q _ => x.cache.length - (intOf q).toNat)
  case atStart => exact ⟨0, by omega, rfl, m, KeepEx.refl _ _ _⟩
  case round =>
    obtain ⟨k, hk, rfl, mk, hx⟩ := hrel
    clear cD
    by_cases hlt : k < x.cache.length
    · have hA' := hA (by omega)
      subst hA'
      obtain ⟨h0, h1, h2, h3⟩ := ok.cac _ (List.getElem_mem hlt)
      have bDk := mk.dev
      unfold devC at bDk
      have cDk := bDk.cells
      obtain ⟨p, hp⟩ : ∃ p, x.cache[k] = p := ⟨_, rfl⟩
      have hstep := stApply_step (st := x.stable) hlt
      rw [hp] at h0 h1 h2 h3 hstep
      have hEl : CellsAt wr ⟨g, k * 129, none⟩ (dwV p) := ⟨rfl, fun j u hu => own_cell mk.cac (by
        have hj : j < 129 := by have := (List.getElem?_eq_some_iff.1 hu).1; rw [dwV_length, h2] at this; exact this
        show (x.cache.flatMap dwV)[k * 129 + j]? = some u
        rw [flat_get (fun q hq => by rw [dwV_length, (ok.cac q hq).2.2.1]) hj hlt, hp]; exact hu)⟩
      have hpl : (dwV p).length = 129 := by rw [dwV_length, h2]
      have hld := run_loadAt_row (P := Tryz.prog) hEl (aggDvW wr) (by rw [hpl]; exact sizeDvW wr)
      have bX0 : Blk (wr.alloc (.cells (dwV (0, zsec)).toArray 111)) wr.heap.size 111 (dwV (0, zsec)).toArray := Blk.new _ _ _
      have hpz : (dwV (0, zsec)).toArray.size = 129 := by simp [dwV_length, zsec_length]
      have hst := run_storeAt_row (P := Tryz.prog) (ty := 111) bX0 (o := 0) (vs := dwV p) (by rw [hpz, hpl]; omega) (dwV_one p) (by rw [hpl]; exact sizeDvW _)
      generalize dwV (0, zsec) = z0 at *
      go_wp2_with (first
        | (refine wpList_loadBy rfl _ _ rfl (.agg (dwV p).toArray) (.pointer (some ⟨g, k * 129, none⟩)) rfl hld ?_)
        | (refine wpList_storeBy rfl _ _ _ rfl _ _ rfl rfl hst ?_))
      have hz0 : z0.drop 129 = [] := List.drop_eq_nil_of_le (by simpa using Nat.le_of_eq hpz)
      rw [hz0, List.append_nil]
      obtain ⟨W2, hW2⟩ : ∃ W2, W2 = (wr.alloc (.cells z0.toArray 111)).setRow wr.heap.size (dwV p).toArray := ⟨_, rfl⟩
      rw [← hW2]
      have bX : Blk W2 wr.heap.size 111 (dwV p).toArray := by rw [hW2]; exact bX0.setRow
      have B2 : Below wr.heap.size wr W2 := by rw [hW2]; exact Below.setRow ((Below.refl _ _).alloc (Nat.le_refl _) _) (Nat.le_refl _) _
      clear hW2 hst hld hEl hz0 bX0 hpz hz
      have m2 : DevMem W2 D S c M (.slice (some ⟨g, 0, none⟩) x.cache.length cc) { x with stable := stApply x.stable (x.cache.take k) } :=
        ⟨bDk.belowAll B2, own_below mk.sta B2, own_below mk.cac B2, map_block mk.map (B2.block M mk.map.lt)⟩
      have bD2 := m2.dev
      simp only [devC, stApply_length] at bD2
      have cD2 := bD2.cells
      have cX := bX.cells
      have lX := bX.lt
      have lD2 := bD2.lt
      have cX0 : W2.cell? ⟨wr.heap.size, 0, none⟩ = some (.int .i64 p.1) := by rw [cX]; rfl
      have hpl2 : (secV p.2).length = 128 := by rw [secV_length, h2]
      have hld2 := run_loadAt_row (P := Tryz.prog) (w := W2.drew) (ty := 42) (p := ⟨wr.heap.size, 1, none⟩) (vs := secV p.2) (bX.drew.at_ 1 _ (fun j u hu => by rw [Nat.add_comm]; simpa [dwV] using hu)) (aggSec _) (by rw [hpl2]; exact sizeSec _)
      obtain ⟨pn, hpn⟩ := Int.eq_ofNat_of_zero_le h0
      rw [hpn] at h1 cX0
      clear cX cDk bDk
      refine wp_region_still_tail 10 (by kernel_rfl) (by kernel_rfl) ?_
      simp only [List.take_succ_cons, List.take_zero, List.drop_succ_cons, List.drop_zero]
      change wpStill _ _ W2.drew _ _ _
      repeat (first | (refine wpStill_load rfl _ _ rfl (.agg (secV p.2).toArray) (.pointer (some ⟨wr.heap.size, 1, none⟩)) rfl hld2 ?_) | still_step)
      refine wpStill_nil ?_
      change wpList _ _ _ _ _ W2.drew
      obtain ⟨cur, bS, hfit, own'⟩ := own_setRow m2.sta (pn * 128) (secV p.2) (by simp only [stApply_length]; rw [hpl2]; omega)
      have hst2 := run_storeAt_row (P := Tryz.prog) (w := W2.drew) (ty := 42) bS hfit (secV_one p.2) (by rw [hpl2]; exact sizeSec _)
      obtain ⟨W3, hW3⟩ : ∃ W3, W3 = W2.drew.setRow S (cur.toList.take (pn * 128) ++ secV p.2 ++ cur.toList.drop (pn * 128 + (secV p.2).length)).toArray := ⟨_, rfl⟩
      rw [← hW3] at hst2
      have hx3 : KeepEx w.heap.size [D, S, M] w W3 := (hx.trans (KeepEx.of_below (B2.mono hx.size))).trans (by rw [hW3]; exact (KeepEx.of_below (Below.refl _ _).drew).trans (KeepEx.setRow _ (.inl (by simp)) _))
      have m3 : DevMem W3 D S c M (.slice (some ⟨g, 0, none⟩) x.cache.length cc) { x with stable := stApply x.stable (x.cache.take (k + 1)) } := by
        rw [hW3]
        refine ⟨?_, ?_, ?_, ?_⟩
        · have := bD2.drew.rowFar (cs' := (cur.toList.take (pn * 128) ++ secV p.2 ++ cur.toList.drop (pn * 128 + (secV p.2).length)).toArray) n1
          simp only [devC, stApply_length]
          exact this
        · rw [hstep, flat_set (f := secV) (m := 128) (fun s hs => by rw [secV_length]; exact (stApply_sec ok.sec (fun q hq => (ok.cac q (List.mem_of_mem_take hq)).2.2) s hs).1) hpl2 (by rw [stApply_length]; omega), hpn]
          simp only [List.length_set, stApply_length] at own' ⊢
          exact own'
        · exact own_block m2.cac fun j e => setRow_other _ _ _ _ (fun e' => by subst e'; exact n6 e)
        · exact map_block m2.map (setRow_other _ _ _ _ (fun e' => n3 e'.symm))
      clear hW3 own' bS hfit hstep hpn
      go_wp2_with (refine wpList_storeBy rfl _ _ _ rfl _ _ rfl rfl hst2 ?_)
      go_roundw
      case rel => exact ⟨k + 1, by omega, by go_num, m3, hx3⟩
      case measure => simp [intOf]; omega
    · obtain rfl : k = x.cache.length := by omega
      rw [List.take_length] at mk
      go_wp2_with fail
      refine (empty_any D S c M _ _ wr mk).mono ?_
      rintro e w1 ⟨⟨v, rfl⟩, m1, hx1⟩
      go_wp2_with fail
      go_end0
      refine ⟨⟨_, rfl⟩, m1, hx.trans ⟨hx1.os, hx1.tape, hx1.output, hx1.size, fun b hb hn => hx1.block b (by have := hx.size; omega) (by simp at hn ⊢; omega)⟩⟩

end Go.Proofs.YtloddiipepiocaaGreatDoor
/- Layer 6: Flush, and what Write builds. -/
namespace Go.Proofs.YtloddiipepiocaaGreatDoor
open Go.RowKit Go.Maps

theorem fillDv (Z : Array Value) (hZ : Z.size = 129) (a : Int) (s : List Int) (hl : s.length = 128) :
    Instr.fill (fun i => #[(0, 1), (1, 128)][i]?) Z [(0, .int .i64 a), (1, .agg (secV s).toArray)] = some (dwV (a, s)).toArray := by
  have hsl : (secV s).length = 128 := by rw [secV_length, hl]
  unfold dwV
  generalize secV s = l at hsl
  simp [Instr.fill, Value.cells, hZ, hsl]
  obtain ⟨h1, h2⟩ := Great.foldl_set 1 l 0 (Z.setIfInBounds 0 (.int .i64 a))
  apply Array.ext_getElem?
  intro k
  rw [h2 k]
  simp only [Array.size_setIfInBounds, hZ, hsl]
  cases k with
  | zero => simp [hZ]
  | succ k =>
    simp only [List.getElem?_toArray, List.getElem?_cons_succ]
    by_cases hk : k < 128
    · rw [if_pos (by omega), show k + 1 - (1 + 0) = k by omega]
    · rw [if_neg (by omega), List.getElem?_eq_none (by omega), Array.getElem?_eq_none (by simp [hZ]; omega)]

theorem built_dvW (a : Int) (s : List Int) (hl : s.length = 128) : Tryz.prog.built 111 [(0, .int .i64 a), (1, .agg (secV s).toArray)] = some (dwV (a, s)).toArray := by
  have e : Tryz.prog.built 111 [(0, .int .i64 a), (1, .agg (secV s).toArray)] = Instr.fill (fun i => #[(0, 1), (1, 128)][i]?) (#[.int .i64 0] ++ fill (.int .u8 0) 128) [(0, .int .i64 a), (1, .agg (secV s).toArray)] := by kernel_rfl
  rw [e]
  exact fillDv _ (by rw [Array.size_append, fill_size]; rfl) a s hl
theorem run_buildDvW (a : Int) (s : List Int) (hl : s.length = 128) (w : World) : (Instr.build 111 #[(0, .int .i64 a), (1, .agg (secV s).toArray)]).run Tryz.prog w = .ok (.agg (dwV (a, s)).toArray) w :=
  run_build w _ _ _ (built_dvW a s hl)
theorem run_sliceDvW (p : Int × List Int) (hl : p.2.length = 128) (w : World) : (Instr.buildSlice 31 1 #[(0, .agg (dwV p).toArray)]).run Tryz.prog w = .ok (.slice (some ⟨w.heap.size, 0, none⟩) 1 1) (w.alloc (.cells (dwV p).toArray 111)) := by
  obtain ⟨ie, hie⟩ : ∃ ie, Tryz.prog.info? 111 = some ie := by
    have := Tryz.infoDvW
    cases h : Tryz.prog.info? 111 with
    | none => rw [h] at this; cases this
    | some ie => exact ⟨ie, rfl⟩
  have h2 := Tryz.infoDvW
  rw [hie] at h2
  simp only [Option.map_some, Option.some.injEq, Prod.mk.injEq] at h2
  have hpl : (dwV p).length = 129 := by rw [dwV_length, hl]
  have hzs : (#[Value.int .i64 0] ++ fill (.int .u8 0) 128).size = 129 := by rw [Array.size_append, fill_size]; rfl
  refine run_buildSlice w _ 111 1 _ _ ie _ Tryz.underlying31 hie h2.1 (by rw [h2.2]; decide) (by rw [h2.2]; decide) ?_
  have := Great.fill_whole (s := 129) (by omega) [.agg (dwV p).toArray] ((Array.range (1 * 129)).map fun i => (#[Value.int .i64 0] ++ fill (.int .u8 0) 128)[i % (#[Value.int .i64 0] ++ fill (.int .u8 0) 128).size]!) (by intro v hv; simp at hv; subst hv; simpa [Value.cells] using hpl) (by simp)
  rw [h2.2]
  simpa [Value.cells] using this

set_option maxRecDepth 100000 in
set_option maxHeartbeats 1000000 in
theorem flush_dev (D : Nat) (F : List Nat) (x : DevS) (w : World) (h : DevAt w D F x) :
    Calls Tryz.prog 103 #[.pointer (some ⟨D, 0, none⟩)] w fun e w' => e = .returned (.int .i64 (readyE x.off)) ∧ DevAt w' D F (if x.off then x else x.flushed) ∧ Grow w F w' F := by
  obtain ⟨ok, hH, ⟨S, c, M, cv, m, hD, hS, hM, hC⟩, lt⟩ := h
  have hr := ready_any D S x.stable.length c cv x.taken x.power x.off M w m.dev
  by_cases ho : x.off = true
  · rw [ho] at hr
    rw [ho, if_pos rfl]
    have h : DevAt w D F x := ⟨ok, hH, ⟨S, c, M, cv, m, hD, hS, hM, hC⟩, lt⟩
    clear m ho
    go_enter Tryz.func103, Tryz.ntmps103
    go_wp2_with fail
    refine hr.mono ?_
    rintro e w1 ⟨rfl, rfl⟩
    go_wp2_with fail
    go_ret
    exact ⟨rfl, h, Grow.refl _ _⟩
  · have ho : x.off = false := by simpa using ho
    rw [ho] at hr
    rw [ho, if_neg (by simp)]
    have hst := stable_any D S c M cv x ok w m
    go_enter Tryz.func103, Tryz.ntmps103
    go_wp2_with fail
    refine hr.mono ?_
    rintro e w1 ⟨rfl, rfl⟩
    go_wp2_with fail
    refine hst.mono ?_
    rintro e w2 ⟨⟨v, rfl⟩, m2, hx⟩
    go_wp2_with fail
    go_ret
    have h0 : 0 ∉ F := fun hm => by have := (lt 0 hm).1; omega
    have hg : Grow w1 F w2 F := ⟨⟨hx.os, hx.tape, hx.output, hx.size, fun k hk hn => hx.block k hk (by simp; exact ⟨fun e => hn (e ▸ hD), fun e => hn (e ▸ hS), fun e => hn (e ▸ hM)⟩)⟩, fun b hb => .inl hb⟩
    exact ⟨rfl, ⟨ok.flushed, hg.half hH h0, ⟨S, c, M, _, m2, hD, hS, hM, fun g e => by simp [Value.ownBlock] at e⟩, fun b hb => ⟨(lt b hb).1, Nat.lt_of_lt_of_le (lt b hb).2 hx.size⟩⟩, hg⟩

end Go.Proofs.YtloddiipepiocaaGreatDoor
/- slices.Clone over a slice of bools; set, with. -/
namespace Go.Proofs.YtloddiipepiocaaGreatDoor
open Go.RowKit

theorem oneCell_bools (us : List Bool) : ∀ u ∈ us.map Value.bool, u.oneCell' = true := by
  intro u hu; simp at hu; rcases hu with ⟨_, rfl⟩ | ⟨_, rfl⟩ <;> rfl

set_option maxHeartbeats 400000 in
theorem clone_any (A : Option Addr) (c : Nat) (us : List Bool) (w : World) (hR : Reads w A (us.map .bool)) (hA : A ≠ none) (hn : us.length ≤ 1000) :
    Calls Tryz.prog 143 #[.slice A us.length c] w fun e w' => ∃ v, e = .returned v ∧ w'.ownsRow w.heap.size 4 1 v us.length (us.map .bool) ∧ Below w.heap.size w w' := by
  obtain ⟨i0, hi, hz0, hz1, hz2⟩ := info_parts Tryz.info4
  have hm := oneCell_bools us
  obtain ⟨ad, rfl⟩ := Option.ne_none_iff_exists'.1 hA
  have hnil := fun (w : World) => Lib.run_eql_slice_nil (P := Tryz.prog) w 51 4 (some ad) us.length c 0 0 Tryz.underlying51
  go_enter Tryz.func143, Tryz.ntmps143
  go_wp2_with (at_builtin; refine wpList_append_any _ rfl (.tmp 5) (.tmp 6) _ rfl w.heap.size 4 i0 (.bool false) 1 Tryz.underlying51 hi hz0 hz1 hz2 rfl (.slice (some ⟨w.heap.size, 0, none⟩) 0 0) 0 [] rfl (World.ownsRow_made w #[] 0 (Nat.le_refl _) (by simp) rfl) (some ad) us.length c (us.map .bool) rfl (by simp) (by simp) (hR.alloc _) hm (by simp only [maxLen]; omega) (by omega) (by simp) ?_; intro v1 w1 hown1 hg1 hat1)
  go_ret
  refine ⟨v1, rfl, by simpa using hown1, ((Below.refl _ _).alloc (Nat.le_refl _) _).grown hg1 (by simp) (fun k hk => ?_)⟩
  simp [Value.ownBlock] at hk; omega

end Go.Proofs.YtloddiipepiocaaGreatDoor
