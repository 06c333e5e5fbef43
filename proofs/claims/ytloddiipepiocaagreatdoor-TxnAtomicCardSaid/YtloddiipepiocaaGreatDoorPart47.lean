/- Parts of the proof, put together by program: UQ, UR, UK. -/
import Derived.Test.YtloddiipepiocaaGreatDoorPart46
import Derived.Deep.CutRange
import Derived.Deep.CutBlock
set_option linter.unusedVariables false
set_option linter.unusedSimpArgs false
/- P10.9: seen, walked. -/
namespace Go.Proofs.YtloddiipepiocaaGreatDoor
open Go.RowKit Go.Maps

/-- The kinds and the data that are read below sector k. -/
def seenK (y : TxS) (x : DevS) (k : Nat) : List Int := (List.range 64).map fun i => if i < k ∧ (i = 0 ∨ 8 < i) then (y.read x i).1 else 0
def seenD (y : TxS) (x : DevS) (k : Nat) : List ByteArray := (List.range 64).map fun i => if i < k ∧ (i = 0 ∨ 8 < i) then (y.read x i).2.1 else ⟨#[]⟩
theorem seenK_length (y : TxS) (x : DevS) (k : Nat) : (seenK y x k).length = 64 := by unfold seenK; simp
theorem seenD_length (y : TxS) (x : DevS) (k : Nat) : (seenD y x k).length = 64 := by unfold seenD; simp
theorem seenK_get (y : TxS) (x : DevS) (k i : Nat) : (seenK y x k)[i]? = if i < 64 then some (if i < k ∧ (i = 0 ∨ 8 < i) then (y.read x i).1 else 0) else none := by
  unfold seenK
  rw [List.getElem?_map]
  by_cases h : i < 64
  · rw [if_pos h, List.getElem?_range h]; rfl
  · rw [if_neg h, List.getElem?_eq_none (by simp; omega)]; rfl
theorem seenD_get (y : TxS) (x : DevS) (k i : Nat) : (seenD y x k)[i]? = if i < 64 then some (if i < k ∧ (i = 0 ∨ 8 < i) then (y.read x i).2.1 else ⟨#[]⟩) else none := by
  unfold seenD
  rw [List.getElem?_map]
  by_cases h : i < 64
  · rw [if_pos h, List.getElem?_range h]; rfl
  · rw [if_neg h, List.getElem?_eq_none (by simp; omega)]; rfl
theorem seenK_zero (y : TxS) (x : DevS) : seenK y x 0 = ks0 := by
  apply List.ext_getElem?
  intro i
  rw [seenK_get]
  unfold ks0
  rw [List.getElem?_replicate]
  split
  · rw [if_neg (by omega)]
  · rfl
theorem seenD_zero (y : TxS) (x : DevS) : seenD y x 0 = ds0 := by
  apply List.ext_getElem?
  intro i
  rw [seenD_get]
  unfold ds0
  rw [List.getElem?_replicate]
  split
  · rw [if_neg (by omega)]
  · rfl
theorem seenK_step (y : TxS) (x : DevS) {k : Nat} (h : k = 0 ∨ 8 < k) : (seenK y x k).set k (y.read x k).1 = seenK y x (k + 1) := by
  apply List.ext_getElem?
  intro i
  rw [List.getElem?_set, seenK_get, seenK_get, seenK_length]
  by_cases e : k = i
  · subst e
    rw [if_pos rfl]
    by_cases g : k < 64
    · rw [if_pos g, if_pos g, if_pos ⟨by omega, h⟩]
    · rw [if_neg g, if_neg g]
  · rw [if_neg e]
    by_cases g : i < 64
    · rw [if_pos g, if_pos g]
      by_cases g : i < k ∧ (i = 0 ∨ 8 < i)
      · rw [if_pos g, if_pos ⟨by omega, g.2⟩]
      · rw [if_neg g, if_neg (fun g2 => g ⟨by omega, g2.2⟩)]
    · rw [if_neg g, if_neg g]
theorem seenD_step (y : TxS) (x : DevS) {k : Nat} (h : k = 0 ∨ 8 < k) : (seenD y x k).set k (y.read x k).2.1 = seenD y x (k + 1) := by
  apply List.ext_getElem?
  intro i
  rw [List.getElem?_set, seenD_get, seenD_get, seenD_length]
  by_cases e : k = i
  · subst e
    rw [if_pos rfl]
    by_cases g : k < 64
    · rw [if_pos g, if_pos g, if_pos ⟨by omega, h⟩]
    · rw [if_neg g, if_neg g]
  · rw [if_neg e]
    by_cases g : i < 64
    · rw [if_pos g, if_pos g]
      by_cases g : i < k ∧ (i = 0 ∨ 8 < i)
      · rw [if_pos g, if_pos ⟨by omega, g.2⟩]
      · rw [if_neg g, if_neg (fun g2 => g ⟨by omega, g2.2⟩)]
    · rw [if_neg g, if_neg g]
theorem seenK_skip (y : TxS) (x : DevS) {k : Nat} (h : ¬ (k = 0 ∨ 8 < k)) : seenK y x (k + 1) = seenK y x k := by
  unfold seenK
  apply List.map_congr_left
  intro i _
  by_cases g : i < k ∧ (i = 0 ∨ 8 < i)
  · rw [if_pos g, if_pos ⟨by omega, g.2⟩]
  · rw [if_neg g, if_neg (fun g2 => by
      by_cases e : i = k
      · subst e; exact h g2.2
      · exact g ⟨by omega, g2.2⟩)]
theorem seenD_skip (y : TxS) (x : DevS) {k : Nat} (h : ¬ (k = 0 ∨ 8 < k)) : seenD y x (k + 1) = seenD y x k := by
  unfold seenD
  apply List.map_congr_left
  intro i _
  by_cases g : i < k ∧ (i = 0 ∨ 8 < i)
  · rw [if_pos g, if_pos ⟨by omega, g.2⟩]
  · rw [if_neg g, if_neg (fun g2 => by
      by_cases e : i = k
      · subst e; exact h g2.2
      · exact g ⟨by omega, g2.2⟩)]
theorem Alike.lists {y z : TxS} {x u : DevS} (h : Alike y x z u) : seenK y x 64 = seenK z u 64 ∧ seenD y x 64 = seenD z u 64 := by
  constructor
  · unfold seenK
    apply List.map_congr_left
    intro i hi
    have hi := List.mem_range.1 hi
    by_cases g : i < 64 ∧ (i = 0 ∨ 8 < i)
    · rw [if_pos g, if_pos g, (h.2 i hi g.2).1]
    · rw [if_neg g, if_neg g]
  · unfold seenD
    apply List.map_congr_left
    intro i hi
    have hi := List.mem_range.1 hi
    by_cases g : i < 64 ∧ (i = 0 ∨ 8 < i)
    · rw [if_pos g, if_pos g, (h.2 i hi g.2).2]
    · rw [if_neg g, if_neg g]

/-- A struct known whole and a Bool as results. -/
theorem results_rowV {fn : Func} {m n R : Nat} {ty t : TypeId} {tmps : Array Value} {w : World} {cs : Array Value} {fr : Nat × Nat} {v : Value} {fs : _} (hr : fn.results = #[.cell m ty, .tmp n]) (hm : tmps.getD m undef = .pointer (some ⟨R, 0, none⟩)) (hn : tmps.getD n undef = v)
    (hg : w.heap[R]? = some (.cells cs t fr)) (hu : Tryz.prog.underlying ty = some (.struct fs)) (hi : (Tryz.prog.info? ty).map (·.size) = some cs.size) :
    (results fn tmps).run Tryz.prog w = .ok (.tuple #[.agg cs, v]) w := by
  have h := run_loadVar_row (P := Tryz.prog) w R t ty cs fr _ hg hu rfl hi
  have h1 : (asAddr (.pointer (some ⟨R, 0, none⟩))).run Tryz.prog w = .ok ⟨R, 0, none⟩ w := rfl
  have hm' : tmps[m]?.getD undef = .pointer (some ⟨R, 0, none⟩) := by simpa using hm
  have hn' : tmps[n]?.getD undef = v := by simpa using hn
  simp [results, hr, hm', hn', h1, h]
theorem wpList_buildTo2 {P : Program} {ops : Array Oper} {rest : List Oper} {o : Oper} {a : Act} {w : World} {Q : Exit → Act → World → Prop} (hg : o.guard = none) (t : TypeId) (parts : Array (Nat × Operand)) (ho : o.op = .build t parts) (cells : Array Value)
    (hf : P.built t (parts.toList.map fun p => (p.1, a.eval p.2)) = some cells) (h : wpList P ops Q rest (a.put o.dst (.agg cells)) w) : wpList P ops Q (o :: rest) a w := by
  have hf' : P.built t (parts.map fun (i, x) => (i, a.eval x)).toList = some cells := by rw [Array.toList_map]; exact hf
  refine wpList_build hg t parts ho (by rw [hf']; rfl) ?_
  rw [hf']
  exact h

/-- What seen hands back of a transaction that is good. -/
def SeenPost (w : World) (y : TxS) (x : DevS) (e : Ending) (w' : World) : Prop :=
  Below w.heap.size w w' ∧ ∃ A c, e = .returned (.tuple #[.agg (viewA y.s y.j y.i A y.now.length c (seenK y x 64) (seenD y x 64)), .bool true]) ∧ Reads w' A (y.now.map .bool) ∧ ∀ ad, A = some ad → w.heap.size ≤ ad.block ∧ ad.block < w'.heap.size
set_option maxRecDepth 100000 in
set_option maxHeartbeats 2000000 in
theorem seen_good {w0 w : World} {T D : Nat} {F B : List Nat} {y : TxS} {x : DevS} (h : Play w0 w T F D y B x) (hE : y.stateE = 0) :
    Calls Tryz.prog 30 #[.pointer (some ⟨T, 0, none⟩)] w (SeenPost w y x) := by
  have hz := zeroView
  obtain ⟨wA, hwA⟩ : ∃ wA, wA = w.alloc (.cells view0 92) := ⟨_, rfl⟩
  have bR : Blk wA w.heap.size 92 view0 := by rw [hwA]; exact Blk.new _ _ _
  have BA : Below w.heap.size w wA := by rw [hwA]; (repeat' (first | (with_reducible exact Below.refl _ _) | (with_reducible assumption) | (with_reducible refine Below.alloc ?_ ?_ _) | (with_reducible refine Below.drew ?_) | (with_reducible refine below_drewN' ?_ _) | (with_reducible refine Below.setCell ?_ ?_ _) | (with_reducible exact Nat.le_refl _) | omega | (simp; done) | (simp; omega)))
  have hbl := blocks_tx T F D y wA (h.below BA).td.tx hE
  have H0 := Lib.hid h
  have HRD : Hid (∀ W, Below w.heap.size w W → ∀ k : Nat, Calls Tryz.prog 59 #[.pointer (some ⟨T, 0, none⟩), .int .i64 k] W fun e w' => e = .returned (.tuple #[.int .i64 (y.read x k).1, .string (y.read x k).2.1, .int .i64 (y.read x k).2.2]) ∧ Below W.heap.size W w') := Lib.hid fun W hW k => play_read (h.below hW) k
  clear h
  unfold SeenPost
  go_enter Tryz.func30, Tryz.ntmps30
  go_upto_region 1 with fail
  rw [← hwA]
  clear hwA
  go_wp2_with fail
  refine hbl.mono ?_
  rintro e w1 ⟨v, rfl, ho, hb1⟩
  obtain ⟨A, c, rfl⟩ := own_slice ho
  have hlA := bR.lt
  have B1 := BA.trans (hb1.mono BA.size)
  have bR1 := bR.belowAll hb1
  have HO := Lib.hid ho
  clear hbl hb1 bR BA ho
  obtain ⟨N, hN⟩ : ∃ N, y.now.length = N := ⟨_, rfl⟩
  have HN := Lib.hid hN
  rw [hN]
  clear hN
  obtain ⟨w2, hw2⟩ : ∃ w2, w2 = w1.alloc (.cells #[.int .i64 y.s, .int .i64 y.j, .int .i64 y.i, .slice A N c] 53) := ⟨_, rfl⟩
  obtain ⟨X, hX⟩ : ∃ X, X = w1.heap.size + 1 := ⟨_, rfl⟩
  have hX2 : w2.heap.size = X := by rw [hw2, hX]; simp
  have hb12 : Below w1.heap.size w1 w2 := by rw [hw2]; exact (Below.refl _ _).alloc (Nat.le_refl _) _
  have bV0 : Blk (w2.alloc (.cells view0 92)) X 92 view0 := Blk.new' hX2.symm
  have hst := storeRow' (ty := 92) (vs := viewA y.s y.j y.i A N c ks0 ds0) bV0 (by unfold view0; rw [viewA_size (by rfl) (by rfl), viewA_size (by rfl) (by rfl)]) viewA_one (by rw [viewA_size (by rfl) (by rfl)]; exact sizeView _)
  have hbt := Tryz.builtView y.s y.j y.i A N c
  obtain ⟨w3, hw3⟩ : ∃ w3, w3 = (w2.alloc (.cells view0 92)).setRow X (viewA y.s y.j y.i A N c ks0 ds0) := ⟨_, rfl⟩
  have bV3 : Blk w3 X 92 (viewA y.s y.j y.i A N c ks0 ds0) := by rw [hw3]; exact bV0.setRow
  have hb23 : Below w2.heap.size w2 w3 := by rw [hw3]; exact Below.setRow ((Below.refl _ _).alloc (Nat.le_refl _) _) (by omega) _
  have hb13 := hb12.trans (hb23.mono hb12.size)
  have B3 := B1.trans (hb13.mono B1.size)
  have bR3 := bR1.belowAll hb13
  have HU := Lib.hid (Reads.of_own (own_below HO.out hb13))
  have hXw : w.heap.size ≤ X := by have := B1.size; omega
  have hRX : w.heap.size ≠ X := by have := bR1.lt; omega
  have HAR : Hid (∀ ad, A = some ad → w.heap.size < ad.block) := Lib.hid fun ad e => by
    subst e
    have := (own_lt HO.out ad.block rfl).1
    have := hlA
    omega
  have HAS : Hid (∀ ad, A = some ad → ad.block < X) := Lib.hid fun ad e => by
    subst e
    have := (own_lt HO.out ad.block rfl).2
    omega
  have hAX : ∀ ad, A = some ad → ad.block ≠ X := fun ad e => by
    subst e
    have := (own_lt HO.out ad.block rfl).2
    omega
  rw [← hw3, hw2, hX] at hst
  have HVK := Lib.hid (seenK_zero y x)
  have HVD := Lib.hid (seenD_zero y x)
  obtain ⟨vv, hvv⟩ : ∃ vv, vv = viewA y.s y.j y.i A N c ks0 ds0 := ⟨_, rfl⟩
  rw [← hvv] at hst hbt bV3
  have HVV := Lib.hid hvv
  have HX := Lib.hid hX
  clear hw2 hw3 hb12 hb23 hb13 bV0 B1 bR1 hvv hX hX2
  go_wp2_with (first | (refine wpList_buildTo2 rfl 92 _ rfl vv (by refine (congrArg (Tryz.prog.built 92) ?_).trans hbt; rfl) ?_) | (refine wpList_storeBy rfl _ _ _ rfl _ _ rfl rfl hst ?_))
  rw [← HX.out]
  clear hst hbt HX
  have hz' := Lib.hid hz
  clear hz
  go_loopw [7] (fun q wr => ∃ k : Nat, k ≤ 64 ∧ q = .int .i64 k ∧ Blk wr X 92 (viewA y.s y.j y.i A N c (seenK y x k) (seenD y x k)) ∧ Blk wr w.heap.size 92 view0 ∧ Below w.heap.size w wr ∧ Hid (Reads wr A (y.now.map .bool))) (fun q _ => 64 - (RowKit.intOf q).toNat)
  case atStart => exact ⟨0, by omega, rfl, by rw [HVK.out, HVD.out, ← HVV.out]; exact bV3, bR3, B3, HU⟩
  case round =>
    obtain ⟨k, hk, rfl, bV, bRr, hB, hU⟩ := hrel
    clear bV3 bR3 B3 HU
    by_cases hlt : k < 64
    · have d1 : (k : Int) < 64 := by omega
      by_cases hc : k = 0 ∨ 8 < k
      rotate_left
      · have d2 : ((k : Int) == 0) = false := by simp; omega
        have d3 : ¬ (8 : Int) < k := by omega
        have HS1 := Lib.hid (seenK_skip y x hc)
        have HS2 := Lib.hid (seenD_skip y x hc)
        clear hc
        go_wp2_with fail
        go_roundw
        case rel => exact ⟨k + 1, by omega, by go_num, by rw [HS1.out, HS2.out]; exact bV, bRr, hB, hU⟩
        case measure => simp [RowKit.intOf]; omega
      · go_upto_region 6 with fail
        go_cut [28] from 23 to 27 (fun s28 wx => s28 = .bool true ∧ wx = wr)
        case first =>
          as_aux_lemma =>
            by_cases h0 : k = 0
            · have d2 : ((k : Int) == 0) = true := by simp; omega
              go_wp2_with fail
              go_meet
              case rel => exact ⟨rfl, rfl⟩
            · have d2 : ((k : Int) == 0) = false := by simp; omega
              have d3 : (8 : Int) < k := by omega
              go_wp2_with fail
              go_meet
              case rel => exact ⟨by simp [d3], rfl⟩
        case rest =>
          obtain ⟨rfl, hwx⟩ := hcut
          replace hwx := hwx.symm
          subst hwx
          have HS1 := Lib.hid (seenK_step y x hc)
          have HS2 := Lib.hid (seenD_step y x hc)
          have hrd := HRD.out wr hB k
          obtain ⟨rk, hrk⟩ : ∃ rk, (y.read x k).1 = rk := ⟨_, rfl⟩
          obtain ⟨rd, hrd2⟩ : ∃ rd, (y.read x k).2.1 = rd := ⟨_, rfl⟩
          obtain ⟨re, hre⟩ : ∃ re, (y.read x k).2.2 = re := ⟨_, rfl⟩
          rw [hrk] at HS1
          rw [hrd2] at HS2
          rw [hrk, hrd2, hre] at hrd
          clear hrk hrd2 hre hc
          go_wp2_with fail
          refine hrd.mono ?_
          rintro e w4 ⟨rfl, hb4⟩
          have bV4 := bV.belowAll hb4
          have bR4 := bRr.belowAll hb4
          have B4 := hB.trans (hb4.mono hB.size)
          have hU4 := Lib.hid (hU.out.below hb4)
          have cK : w4.cell? ⟨X, 4 + k, none⟩ = some (.int .i64 ((seenK y x k).getD k 0)) := by rw [bV4.cells]; exact viewA_k (seenK_length y x k) k hlt
          have cD : w4.cell? ⟨X, 68 + k, none⟩ = some (.string ((seenD y x k).getD k ⟨#[]⟩)) := by rw [bV4.cells]; exact viewA_d (seenK_length y x k) (seenD_length y x k) k hlt
          have fX := bV4.free
          have lX := bV4.lt
          clear hrd hb4
          go_wp2_with fail
          have kk : KeepEx w4.heap.size [X] w4 ((w4.setCell ⟨X, 4 + k, none⟩ (.int .i64 rk)).setCell ⟨X, 68 + k, none⟩ (.string rd)) := (KeepEx.setCell _ (.inl (by simp)) _).trans (KeepEx.setCell _ (.inl (by simp)) _)
          have HU5 := Lib.hid (reads_keepEx hU4.out kk (fun ad e => by simpa using hAX ad e))
          refine ⟨⟨k + 1, by omega, by go_num, ?_, ?_, ?_, HU5⟩, by simp [RowKit.intOf]; omega⟩
          · have h1 := (bV4.set_ (4 + k) (.int .i64 rk)).set_ (68 + k) (.string rd)
            rw [viewA_setK (seenK_length y x k) k hlt, HS1.out, viewA_setD (seenK_length y x (k + 1)), HS2.out] at h1
            exact h1
          · exact (bR4.far hRX _).far hRX _
          · exact (B4.setCell (p := ⟨X, 4 + k, none⟩) hXw _).setCell (p := ⟨X, 68 + k, none⟩) hXw _
    · obtain rfl : k = 64 := by omega
      have hsz : (viewA y.s y.j y.i A N c (seenK y x 64) (seenD y x 64)).size = 132 := viewA_size (seenK_length y x 64) (seenD_length y x 64)
      obtain ⟨vw, hvw⟩ : ∃ vw, vw = viewA y.s y.j y.i A N c (seenK y x 64) (seenD y x 64) := ⟨_, rfl⟩
      have hone : vw.all (·.oneCell') = true := by rw [hvw]; exact viewA_one
      rw [← hvw] at bV hsz
      have hst := storeRow' (ty := 92) (vs := vw) bRr (by rw [hsz]; exact viewA_size (by rfl) (by rfl)) hone (by rw [hsz]; exact sizeView _)
      have bF := bRr.setRow (cs' := vw)
      have BF := Below.setRow hB (Nat.le_refl w.heap.size) vw
      have HUF : Hid (Reads (wr.setRow w.heap.size vw) A (y.now.map .bool)) := Lib.hid (by
        refine reads_keepEx hU.out (KeepEx.setRow (B := wr.heap.size) (bs := [w.heap.size]) wr (.inl (by simp)) vw) (fun ad e => ?_)
        have := HAR.out ad e
        simp
        omega)
      obtain ⟨W5, hW5⟩ : ∃ W5, W5 = wr.setRow w.heap.size vw := ⟨_, rfl⟩
      rw [← hW5] at hst bF BF HUF
      have HVW := Lib.hid hvw
      have HXS : Hid (X < W5.heap.size) := Lib.hid (by rw [hW5]; simpa using bV.lt)
      have HSZ := Lib.hid hsz
      have hi : (Tryz.prog.info? 92).map (·.size) = some vw.size := by rw [hsz]; exact infoView
      clear hW5 hvw hsz hone hB hU
      go_wp2_with (first | (refine wpList_load_row rfl 92 _ rfl X rfl _ vw _ _ bV Tryz.underlying92 rfl hi ?_) | (refine wpList_storeBy rfl _ _ _ rfl _ _ rfl rfl hst ?_))
      refine bodyPost_ret (results_rowV (cs := vw) (v := .bool true) rfl rfl rfl bF Tryz.underlying92 hi) rfl ?_
      exact ⟨BF, A, c, by rw [HVW.out, HN.out], HUF.out, fun ad e => ⟨Nat.le_of_lt (HAR.out ad e), Nat.lt_trans (HAS.out ad e) HXS.out⟩⟩
end Go.Proofs.YtloddiipepiocaaGreatDoor
/- P10.9: seen of a transaction that is broken; same. -/
namespace Go.Proofs.YtloddiipepiocaaGreatDoor
open Go.RowKit Go.Maps

set_option maxRecDepth 100000 in
set_option maxHeartbeats 2000000 in
theorem seen_bad (tv : Value) (E : Int) (w : World) (h : StE w tv E) (hE : E ≠ 0) :
    Calls Tryz.prog 30 #[tv] w fun e w' => e = .returned (.tuple #[.agg view0, .bool false]) ∧ Below w.heap.size w w' := by
  have hz := zeroView
  obtain ⟨wA, hwA⟩ : ∃ wA, wA = w.alloc (.cells view0 92) := ⟨_, rfl⟩
  have bR : Blk wA w.heap.size 92 view0 := by rw [hwA]; exact Blk.new _ _ _
  have BA : Below w.heap.size w wA := by rw [hwA]; (repeat' (first | (with_reducible exact Below.refl _ _) | (with_reducible assumption) | (with_reducible refine Below.alloc ?_ ?_ _) | (with_reducible refine Below.drew ?_) | (with_reducible refine below_drewN' ?_ _) | (with_reducible refine Below.setCell ?_ ?_ _) | (with_reducible exact Nat.le_refl _) | omega | (simp; done) | (simp; omega)))
  have hbl := blocks_bad tv E wA (h.below BA) hE
  have hE' : (E == 0) = false := by simpa using hE
  clear h hE
  go_enter Tryz.func30, Tryz.ntmps30
  go_upto_region 1 with fail
  rw [← hwA]
  clear hwA
  go_wp2_with fail
  refine hbl.mono ?_
  rintro e w1 ⟨rfl, hb1⟩
  have B1 := BA.trans (hb1.mono BA.size)
  have bR1 := bR.belowAll hb1
  clear hbl hb1 bR BA
  obtain ⟨w2, hw2⟩ : ∃ w2, w2 = w1.alloc (.cells #[.int .i64 0, .int .i64 0, .int .i64 0, .slice none 0 0] 53) := ⟨_, rfl⟩
  obtain ⟨X, hX⟩ : ∃ X, X = w1.heap.size + 1 := ⟨_, rfl⟩
  have hX2 : w2.heap.size = X := by rw [hw2, hX]; simp
  have hb12 : Below w1.heap.size w1 w2 := by rw [hw2]; exact (Below.refl _ _).alloc (Nat.le_refl _) _
  have bV0 : Blk (w2.alloc (.cells view0 92)) X 92 view0 := Blk.new' hX2.symm
  have hsz : view0.size = 132 := viewA_size (by rfl) (by rfl)
  have hone : view0.all (·.oneCell') = true := viewA_one
  have hst := storeRow' (ty := 92) (vs := view0) bV0 rfl hone (by rw [hsz]; exact sizeView _)
  have hbt : Tryz.prog.built 92 [(0, .agg #[.int .i64 0, .int .i64 0, .int .i64 0, .slice none 0 0])] = some view0 := Tryz.builtView 0 0 0 none 0 0
  obtain ⟨w3, hw3⟩ : ∃ w3, w3 = (w2.alloc (.cells view0 92)).setRow X view0 := ⟨_, rfl⟩
  have bV3 : Blk w3 X 92 view0 := by rw [hw3]; exact bV0.setRow
  have hb23 : Below w2.heap.size w2 w3 := by rw [hw3]; exact Below.setRow ((Below.refl _ _).alloc (Nat.le_refl _) _) (by omega) _
  have hb13 := hb12.trans (hb23.mono hb12.size)
  have B3 := B1.trans (hb13.mono B1.size)
  have bR3 := bR1.belowAll hb13
  rw [← hw3, hw2, hX] at hst
  have HX := Lib.hid hX
  have hi : (Tryz.prog.info? 92).map (·.size) = some view0.size := by rw [hsz]; exact infoView
  obtain ⟨vv, hvv⟩ : ∃ vv, vv = view0 := ⟨_, rfl⟩
  have hz2 : ∀ w : World, (zeroValue 92).run Tryz.prog w = .ok (.agg vv) w := by rw [hvv]; exact hz
  have hst2 := storeRow' (ty := 92) (vs := view0) bR3 rfl hone (by rw [hsz]; exact sizeView _)
  have bF := bR3.setRow (cs' := view0)
  have BF := Below.setRow B3 (Nat.le_refl w.heap.size) view0
  obtain ⟨W5, hW5⟩ : ∃ W5, W5 = w3.setRow w.heap.size view0 := ⟨_, rfl⟩
  rw [← hW5] at hst2 bF BF
  rw [← hvv] at hst hbt bV3 hst2 hi bF
  have HVV := Lib.hid hvv
  clear hw2 hw3 hb12 hb23 hb13 bV0 B1 bR1 hX hX2 hW5 hone hsz hz B3 bR3 hvv
  go_wp2_with (first | (refine wpList_buildTo2 rfl 92 _ rfl vv (by refine (congrArg (Tryz.prog.built 92) ?_).trans hbt; rfl) ?_) | (refine wpList_storeBy rfl _ _ _ rfl _ _ rfl rfl hst ?_))
  rw [← HX.out]
  clear hst hbt HX
  go_loopw [7] (fun q wr => q = .int .i64 0 ∧ wr = w3) (fun q _ => 0)
  case atStart => exact ⟨rfl, rfl⟩
  case round =>
    obtain ⟨rfl, hw⟩ := hrel
    subst hw
    go_wp2_with (first | (refine wpList_load_row rfl 92 _ rfl X rfl _ vv _ _ bV3 Tryz.underlying92 rfl hi ?_) | (refine wpList_storeBy rfl _ _ _ rfl _ _ rfl rfl hst2 ?_))
    refine bodyPost_ret (results_rowV (cs := vv) (v := .bool false) rfl rfl rfl bF Tryz.underlying92 hi) rfl ?_
    exact ⟨by rw [HVV.out], BF⟩

theorem wpList_loadByG {P : Program} {ops : Array Oper} {rest : List Oper} {o : Oper} {a : Act} {w : World} {Q : Exit → Act → World → Prop} (hw : Region.wanted o (yielded ops a.tmps) = true) (ty : TypeId) (x : Operand) (ho : o.op = .load ty x) (v p : Value)
    (hx : a.eval x = p) (hrun : (Instr.loadAt ty p).run P w = .ok v w) (h : wpList P ops Q rest (a.put o.dst v) w) : wpList P ops Q (o :: rest) a w :=
  wpList_step fun K hK => by
    rw [if_pos hw]
    unfold Oper.wp execOp
    simp only [ho, hx, Sem.run_bind, Sem.run_pure, Result.andThen_ok, hrun]
    exact hK _ _ h
theorem viewK_at {w : World} {X : Nat} {s j i : Int} {A : Option Addr} {n c : Nat} {ks : List Int} {ds : List ByteArray} (b : Blk w X 92 (viewA s j i A n c ks ds)) (hk : ks.length = 64) : (Instr.loadAt 89 (.pointer (some ⟨X, 4, none⟩))).run Tryz.prog w = .ok (.agg (intsA ks)) w := by
  refine run_loadAt_row (P := Tryz.prog) (b.at_ 4 (ks.map (.int .i64)) (fun k u hu => ?_)) (agg64i w) (by rw [List.length_map, hk]; exact size64i w)
  have hl : k < 64 := by have := (List.getElem?_eq_some_iff.1 hu).1; rw [List.length_map, hk] at this; exact this
  rw [viewA_k hk k hl, ← hu, List.getElem?_map, List.getD_eq_getElem?_getD, List.getElem?_eq_getElem (by omega)]
  rfl
theorem viewD_at {w : World} {X : Nat} {s j i : Int} {A : Option Addr} {n c : Nat} {ks : List Int} {ds : List ByteArray} (b : Blk w X 92 (viewA s j i A n c ks ds)) (hk : ks.length = 64) (hd : ds.length = 64) : (Instr.loadAt 90 (.pointer (some ⟨X, 68, none⟩))).run Tryz.prog w = .ok (.agg (strsA ds)) w := by
  refine run_loadAt_row (P := Tryz.prog) (b.at_ 68 (ds.map .string) (fun k u hu => ?_)) (agg64s w) (by rw [List.length_map, hd]; exact size64s w)
  have hl : k < 64 := by have := (List.getElem?_eq_some_iff.1 hu).1; rw [List.length_map, hd] at this; exact this
  rw [viewA_d hk hd k hl, ← hu, List.getElem?_map, List.getD_eq_getElem?_getD, List.getElem?_eq_getElem (by omega)]
  rfl
theorem viewC {w : World} {X : Nat} {s j i : Int} {A : Option Addr} {n c : Nat} {ks : List Int} {ds : List ByteArray} (b : Blk w X 92 (viewA s j i A n c ks ds)) : w.cell? ⟨X, 0, none⟩ = some (.int .i64 s) ∧ w.cell? ⟨X, 1, none⟩ = some (.int .i64 j) ∧ w.cell? ⟨X, 2, none⟩ = some (.int .i64 i) ∧ w.cell? ⟨X, 3, none⟩ = some (.slice A n c) :=
  ⟨(b.cells 0).trans rfl, (b.cells 1).trans rfl, (b.cells 2).trans rfl, (b.cells 3).trans rfl⟩

set_option maxRecDepth 100000 in
set_option maxHeartbeats 2000000 in
theorem same10_any (s j i s' j' i' : Int) (A A' : Option Addr) (c c' : Nat) (us us' : List Bool) (ks ks' : List Int) (ds ds' : List ByteArray) (hk : ks.length = 64) (hk' : ks'.length = 64) (hd : ds.length = 64) (hd' : ds'.length = 64) (hu : us.length ≤ maxLen) (hu' : us'.length ≤ maxLen) (w : World) (hR : Reads w A (us.map .bool)) (hR' : Reads w A' (us'.map .bool)) :
    Calls Tryz.prog 36 #[.agg (viewA s j i A us.length c ks ds), .agg (viewA s' j' i' A' us'.length c' ks' ds')] w fun e w' => Below w.heap.size w w' ∧ ∃ b, e = .returned (.bool b) ∧ (s = s' ∧ j = j' ∧ i = i' ∧ us = us' ∧ ks = ks' ∧ ds = ds' → b = true) := by
  obtain ⟨v1, hv1⟩ : ∃ v1, v1 = viewA s j i A us.length c ks ds := ⟨_, rfl⟩
  obtain ⟨v2, hv2⟩ : ∃ v2, v2 = viewA s' j' i' A' us'.length c' ks' ds' := ⟨_, rfl⟩
  obtain ⟨wA, hwA⟩ : ∃ wA, wA = (w.alloc (.cells v1 92)).alloc (.cells v2 92) := ⟨_, rfl⟩
  have b1 : Blk wA w.heap.size 92 v1 := by rw [hwA]; exact (Blk.new _ _ _).alloc _
  have b2 : Blk wA (w.heap.size + 1) 92 v2 := by rw [hwA]; exact Blk.new' (by simp)
  have BA : Below w.heap.size w wA := by rw [hwA]; (repeat' (first | (with_reducible exact Below.refl _ _) | (with_reducible assumption) | (with_reducible refine Below.alloc ?_ ?_ _) | (with_reducible refine Below.drew ?_) | (with_reducible refine below_drewN' ?_ _) | (with_reducible refine Below.setCell ?_ ?_ _) | (with_reducible exact Nat.le_refl _) | omega | (simp; done) | (simp; omega)))
  have hs := same_any s j i s' j' i' A A' c c' us us' wA (hR.below BA) (hR'.below BA) hu hu'
  rw [← hv1, ← hv2]
  rw [hv1] at b1
  rw [hv2] at b2
  obtain ⟨q0, q1, q2, q3⟩ := viewC b1
  obtain ⟨r0, r1, r2, r3⟩ := viewC b2
  have l1 := b1.lt
  have l2 := b2.lt
  have hek := fun w => eqInts64 ks ks' hk hk' w
  have hes := fun w => eqStrs64 ds ds' hd hd' w
  have HEQ : Hid (s = s' ∧ j = j' ∧ i = i' ∧ us = us' → (LayEq s j i s' j' i' && decide (us = us')) = true) := Lib.hid fun h => by
    obtain ⟨rfl, rfl, rfl, rfl⟩ := h
    unfold LayEq
    simp
  obtain ⟨b0, hb0⟩ : ∃ b0, (LayEq s j i s' j' i' && decide (us = us')) = b0 := ⟨_, rfl⟩
  rw [hb0] at hs HEQ
  obtain ⟨bk, hbk⟩ : ∃ bk, decide (ks = ks') = bk := ⟨_, rfl⟩
  have HBK : Hid (ks = ks' → bk = true) := Lib.hid fun e => by rw [← hbk]; exact decide_eq_true e
  rw [hbk] at hek
  obtain ⟨bs, hbs⟩ : ∃ bs, strsB ds ds' = bs := ⟨_, rfl⟩
  have HBS : Hid (ds = ds' → bs = true) := Lib.hid fun e => by rw [← hbs, ← e]; exact strsB_self ds
  rw [hbs] at hes
  clear hR hR' hv1 hv2 hb0 hbk hbs hu hu'
  go_enter Tryz.func36, Tryz.ntmps36
  go_upto_region 1 with fail
  rw [← hwA]
  clear hwA
  go_wp2_with fail
  refine hs.mono ?_
  rintro e w2 ⟨rfl, hb2⟩
  have B2 := BA.trans (hb2.mono BA.size)
  have b12 := b1.belowAll hb2
  have b22 := b2.belowAll hb2
  have e1 := viewK_at b12 hk
  have e2 := viewK_at b22 hk'
  have e3 := viewD_at b12 hk hd
  have e4 := viewD_at b22 hk' hd'
  clear hs hb2 b1 b2 q0 q1 q2 q3 r0 r1 r2 r3 l1 l2 b12 b22 hk hk' hd hd'
  cases b0
  · go_wp2_with fail
    go_ret
    exact ⟨B2, false, rfl, fun h => absurd (HEQ.out ⟨h.1, h.2.1, h.2.2.1, h.2.2.2.1⟩) (by decide)⟩
  · cases bk
    · go_wp2_with (first | (refine wpList_loadByG (by rfl) _ _ rfl (.agg (intsA ks)) (.pointer (some ⟨w.heap.size, 4, none⟩)) rfl e1 ?_) | (refine wpList_loadByG (by rfl) _ _ rfl (.agg (intsA ks')) (.pointer (some ⟨w.heap.size + 1, 4, none⟩)) rfl e2 ?_))
      go_ret
      exact ⟨B2, false, rfl, fun h => absurd (HBK.out h.2.2.2.2.1) (by decide)⟩
    · go_wp2_with (first | (refine wpList_loadByG (by rfl) _ _ rfl (.agg (intsA ks)) (.pointer (some ⟨w.heap.size, 4, none⟩)) rfl e1 ?_) | (refine wpList_loadByG (by rfl) _ _ rfl (.agg (intsA ks')) (.pointer (some ⟨w.heap.size + 1, 4, none⟩)) rfl e2 ?_) | (refine wpList_loadByG (by rfl) _ _ rfl (.agg (strsA ds)) (.pointer (some ⟨w.heap.size, 68, none⟩)) rfl e3 ?_) | (refine wpList_loadByG (by rfl) _ _ rfl (.agg (strsA ds')) (.pointer (some ⟨w.heap.size + 1, 68, none⟩)) rfl e4 ?_))
      go_ret
      exact ⟨B2, bs, rfl, fun h => HBS.out h.2.2.2.2.2⟩
end Go.Proofs.YtloddiipepiocaaGreatDoor
/- P10.9 in plain words: a device that was formatted is at rest, and behind Commit it is again. No program in sight. -/
namespace Go.Proofs.YtloddiipepiocaaGreatDoor
open Go.RowKit Go.Maps

theorem flush_cache {x : DevS} (h : x.flush.1 = 0) : x.flush.2.cache = [] := by
  unfold DevS.flush at h ⊢
  cases ho : x.off
  · simp only [Bool.false_eq_true, if_false]
    rfl
  · rw [ho] at h
    exact absurd (show (13 : Int) = 0 from h) (by decide)
theorem jfmt_cache {x : DevS} {F Z : Int} (h : (x.jfmt F Z).1 = 0) : (x.jfmt F Z).2.cache = [] := by
  unfold DevS.jfmt at h ⊢
  split
  · rename_i h1; rw [if_pos h1] at h; exact absurd h h1
  · rename_i h1
    rw [if_neg h1] at h
    split
    · rename_i h2; rw [if_pos h2] at h; exact absurd h h2
    · rename_i h2
      rw [if_neg h2] at h
      split
      · rename_i h3; rw [if_pos h3] at h; exact absurd h h3
      · rename_i h3
        rw [if_neg h3] at h
        exact flush_cache h
/-- A device of the examples, formatted. -/
theorem fresh_rest : ∃ y, (newDev 64).tfmt 64 8 40 = (0, y) ∧ Fresh y 64 8 40 1000000 ∧ LiveR y (List.replicate 14 false) 1 1000000 := by
  have hrg : rgE 64 8 40 = 0 := by decide
  have hrb : (rgB 64 8 40).toNat = 14 := by decide
  obtain ⟨y, hy, hF⟩ := format_fresh hrg 1000000 (by omega)
  rw [show ((64 : Int).toNat) = 64 from rfl] at hy
  have hl := hF.live
  rw [hrb] at hl
  refine ⟨y, hy, hF, hl, ?_⟩
  have hsz : ((newDev 64).stable.length) = 64 := List.length_replicate
  obtain ⟨x1, e1, r1, s1, h1, b1, -⟩ := jfmt_runs (x := newDev 64) (F := 1) (Z := 8) (n := 1000) ck18 (by rw [hsz]; decide) (newDev_runs (by omega) _ (by omega))
  have hc1 : x1.cache = [] := by have := jfmt_cache (x := newDev 64) (F := 1) (Z := 8) (by rw [e1]); rw [e1] at this; exact this
  have hx1 : x1.stable.length = 64 := s1.trans hsz
  have hv0 : validE ((64 : Nat) : Int) 1 8 [freeRec 64 8 40] = 0 := freeRec_valid hrg
  have hr : Rest x1 1 8 0 := ⟨r1.ok, hc1, r1.on, h1, by omega, fun b g1 g2 => by
    rw [b1 b g1 g2]
    exact ⟨rfl, fun h => absurd h (by decide)⟩⟩
  have j : Jn 64 1 8 0 [freeRec 64 8 40] := ⟨ck18, by decide, by omega, validL hv0, by omega⟩
  obtain ⟨c1, c2, c3, c4, c5⟩ := step_commit j hx1 hv0 hr
  have h5 := c5 100 (r1.mono (by simp))
  have hy2 : x1.commit 1 8 [freeRec 64 8 40] = (0, y) := by
    have : (newDev 64).tfmt 64 8 40 = x1.commit 1 8 [freeRec 64 8 40] := by
      unfold DevS.tfmt
      have hf : findE (newDev 64).stable.length 64 8 40 = 0 := by rw [hsz]; decide
      rw [if_neg (by simpa using hf), e1]
      simp only
      rw [if_neg (by simp)]
    rw [← this, hy]
  rw [hy2] at c1 c4 h5
  simp only at c1 c4 h5
  rcases c4 with ⟨-, cc, h⟩ | ⟨h, -⟩
  · exact ⟨cc.ok, cc.cache, cc.on, h.head, by omega, h.body⟩
  · exact absurd h (by decide)
/-- Commit, with power, of a transaction that is good. -/
theorem commit_rest {x : DevS} {y : TxS} {us : List Bool} {q : Int} {N : Nat} (hx : LiveR x us q (N + 1000)) (hq : 0 ≤ q ∧ q < 4294966000) (ok : y.Ok) (hc : y.Clean) (hs : y.s = 64) (hj : y.j = 8) (hi : y.i = 40) (hn : y.changed = false → y.now = us) :
    ∃ x' q', y.commit x = (0, x') ∧ LiveR x' y.now q' N ∧ 0 ≤ q' ∧ q' ≤ q + 1 := by
  obtain ⟨j, hv0, hl6⟩ := jn_recs (q := q) ok hc hs hj (by omega)
  have hlv : Live x y.s y.j y.i us (N + 200) := by rw [hs, hj, hi]; exact hx.live.mono (by omega)
  obtain ⟨x', e, hl', -, -⟩ := commit_live ok hc hlv hn
  rw [hs, hj, hi] at hl'
  by_cases h0 : y.recs = []
  · have e2 : y.commit x = (0, x) := by unfold TxS.commit; rw [if_pos h0]
    rw [e2] at e
    obtain rfl : x = x' := congrArg Prod.snd e
    exact ⟨x, q, e2, ⟨hl', hx.rest⟩, hq.1, by omega⟩
  · have e2 : y.commit x = x.commit 1 8 y.recs := by unfold TxS.commit; rw [if_neg h0, hj]
    have hsz : x.stable.length = 64 := by have := hx.live.size; omega
    obtain ⟨c1, c2, c3, c4, c5⟩ := step_commit j hsz hv0 hx.rest
    rw [← e2, e] at c1 c4
    simp only at c1 c4
    rcases c4 with ⟨-, cc, h⟩ | ⟨h, -⟩
    · exact ⟨x', q + 1, e, ⟨hl', ⟨cc.ok, cc.cache, cc.on, h.head, by omega, h.body⟩⟩, by omega, by omega⟩
    · exact absurd h (by decide)
end Go.Proofs.YtloddiipepiocaaGreatDoor
