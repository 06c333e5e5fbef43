/- Parts of the proof, put together by program: CC, CD. -/
import Derived.Test.YtloddiipepiocaaGreatDoorPart27
import Derived.Test.YtloddiipepiocaaGreatDoorPart07
import Derived.Deep.CutRange
import Derived.Deep.CutBlock
import Derived.Test.YtloddiipepiocaaGreatDoorPart13
import Derived.Test.YtloddiipepiocaaGreatDoorPart22
set_option linter.unusedVariables false
set_option linter.unusedSimpArgs false
/- Layer 7, the reference: Open walked. -/
namespace Go.Proofs.YtloddiipepiocaaGreatDoor
open Go.RowKit

/-- A guarded read of a sector. -/
theorem wpList_loadSecG {ops : Array Oper} {rest : List Oper} {o : Oper} {a : Act} {w : World} {Q : Exit → Act → World → Prop} (hw : Region.wanted o (yielded ops a.tmps) = true) (x : Operand) (ho : o.op = .load 42 x)
    (g : Nat) (hx : a.eval x = .pointer (some ⟨g, 0, none⟩)) {t : TypeId} {l : List Int} (b : Blk w g t (bytesV l)) (hl : l.length = 128)
    (h : wpList Tryz.prog ops Q rest (a.put o.dst (.agg (bytesV l))) w) : wpList Tryz.prog ops Q (o :: rest) a w :=
  wpList_step fun K hK => by
    rw [if_pos hw]
    exact wp_load_row 42 x ho g hx t (bytesV l) (0, 0) _ b Tryz.underlying42 rfl (by rw [bytesV_size, hl]; exact sizeSector) (hK _ _ h)
theorem neSec (xs ys : List Int) (hx : xs.length = 128) (hy : ys.length = 128) (w : World) :
    (binOp .neq 42 (.agg (bytesV xs)) (.agg (bytesV ys))).run Tryz.prog w = .ok (.bool (!decide (xs = ys))) w := by
  have h := eqSec xs ys hx hy w
  rw [run_eql_struct] at h
  rw [run_neq_struct]
  cases e : (Op.equalIn 10000 42 (.agg (bytesV xs)) (.agg (bytesV ys))).run Tryz.prog w with
  | ok b w' =>
    rw [e] at h
    simp only [Result.andThen_ok, Result.ok.injEq, Value.bool.injEq] at h
    obtain ⟨rfl, rfl⟩ := h
    rfl
  | _ => rw [e] at h; cases h
theorem rnumbered_at (n : Nat) (x : Int) (hx : x = (n : Int)) (ha : n ≤ 124) (xs : List Int) (hl : xs.length = 128) (hbx : Bytes xs) (w : World) :
    Calls Tryz.prog 158 #[.agg (bytesV xs), .int .i64 x] w fun e w' => e = .returned (.int .u32 (readN xs n)) ∧ Below w.heap.size w w' := by
  subst hx
  exact rnumbered_any n ha xs hl hbx w

set_option maxRecDepth 100000 in
set_option maxHeartbeats 2000000 in
theorem ropen_any (a : Int) (xs : List Int) (hl : xs.length = 128) (hbx : Bytes xs) (w : World) :
    Calls Tryz.prog 95 #[.int .i64 a, .agg (bytesV xs)] w (OpenPost a xs w) := by
  have hbz : ∀ w : World, (binOp .eql 42 (.agg (bytesV xs)) (.agg (bytesV zsec))).run Tryz.prog w = .ok (.bool (decide (xs = zsec))) w := fun w => eqSec xs zsec hl zsec_length w
  have hz := zeroSector
  have hRE := Lib.hid (refOpenE_eq (a := a) hl hbx)
  have bS0 : Blk ((w.alloc (.cells (bytesV xs) 42)).alloc (.cells #[Value.int .i64 0, Value.int .u32 0, Value.string ⟨#[]⟩] 26)) w.heap.size 42 (bytesV xs) := (Blk.new _ _ _).alloc _
  have bR0 : Blk ((w.alloc (.cells (bytesV xs) 42)).alloc (.cells #[Value.int .i64 0, Value.int .u32 0, Value.string ⟨#[]⟩] 26)) (w.heap.size + 1) 26 #[Value.int .i64 0, Value.int .u32 0, Value.string ⟨#[]⟩] := Blk.new' (by simp)
  have B0 : Below w.heap.size w ((w.alloc (.cells (bytesV xs) 42)).alloc (.cells #[Value.int .i64 0, Value.int .u32 0, Value.string ⟨#[]⟩] 26)) := by (repeat' (first | (with_reducible exact Below.refl _ _) | (with_reducible assumption) | (with_reducible refine Below.alloc ?_ ?_ _) | (with_reducible refine Below.drew ?_) | (with_reducible refine below_drewN' ?_ _) | (with_reducible refine Below.setCell ?_ ?_ _) | (with_reducible exact Nat.le_refl _) | omega | (simp; done) | (simp; omega)))
  by_cases a1 : a < 0 ∨ 256 ≤ a
  · have hE : openE a xs = 7 := by unfold openE; rw [if_pos a1]
    have HE := Lib.hid hE
    clear hE
    have cR := bR0.cells
    have lR := bR0.lt
    by_cases a2 : a < 0
    all_goals
      go_enter Tryz.func95, Tryz.ntmps95
      go_wp2_with fail
      refine bodyPost_ret (v := .tuple #[.agg #[Value.int .i64 0, Value.int .u32 0, Value.string ⟨#[]⟩], .int .i64 7]) (by simp [results, Tryz.results95, go_sem, cR, lR]) rfl ?_
      exact OpenPost.bad HE.out (by decide) (by (repeat' (first | (with_reducible exact Below.refl _ _) | (with_reducible assumption) | (with_reducible refine Below.alloc ?_ ?_ _) | (with_reducible refine Below.drew ?_) | (with_reducible refine below_drewN' ?_ _) | (with_reducible refine Below.setCell ?_ ?_ _) | (with_reducible exact Nat.le_refl _) | omega | (simp; done) | (simp; omega))))
  · have a2 : ¬ a < 0 := by omega
    have a3 : ¬ 256 ≤ a := by omega
    by_cases hzs : xs = zsec
    · have hE : openE a xs = 70 := by unfold openE; rw [if_neg a1, if_pos hzs]
      have HE := Lib.hid hE
      have hd : decide (xs = zsec) = true := decide_eq_true hzs
      clear hE hzs
      have cR := bR0.cells
      have lR := bR0.lt
      go_enter Tryz.func95, Tryz.ntmps95
      go_wp2_with (refine wpList_loadSec rfl _ rfl w.heap.size rfl bS0 hl ?_)
      refine bodyPost_ret (v := .tuple #[.agg #[Value.int .i64 0, Value.int .u32 0, Value.string ⟨#[]⟩], .int .i64 70]) (by simp [results, Tryz.results95, go_sem, cR, lR]) rfl ?_
      exact OpenPost.bad HE.out (by decide) (by (repeat' (first | (with_reducible exact Below.refl _ _) | (with_reducible assumption) | (with_reducible refine Below.alloc ?_ ?_ _) | (with_reducible refine Below.drew ?_) | (with_reducible refine below_drewN' ?_ _) | (with_reducible refine Below.setCell ?_ ?_ _) | (with_reducible exact Nat.le_refl _) | omega | (simp; done) | (simp; omega))))
    have hd : decide (xs = zsec) = false := decide_eq_false hzs
    have HZ := Lib.hid hzs
    clear hzs
    go_enter Tryz.func95, Tryz.ntmps95
    go_wp2_with (refine wpList_loadSec rfl _ rfl w.heap.size rfl bS0 hl ?_)
    obtain ⟨W0, hW0⟩ : ∃ W0, W0 = (w.alloc (.cells (bytesV xs) 42)).alloc (.cells #[Value.int .i64 0, Value.int .u32 0, Value.string ⟨#[]⟩] 26) := ⟨_, rfl⟩
    rw [← hW0] at bS0 bR0 B0 ⊢
    clear hW0
    refine wp_region_mix [.take 0, .take 2, .one 1, .one 3, .one 4] 5 (fun W => Blk W w.heap.size 42 (bytesV xs)) (by kernel_rfl) (by kernel_rfl) (fun _ _ _ _ _ h => h) bS0.drew ?_
    simp only [List.map_cons, List.map_nil, Ms.fill, List.getD_cons_zero, List.getD_cons_succ]
    refine mixT_take (by rfl) (.agg (bytesV xs)) (fun w' hw' => by unfold execOp; simp only [Sem.run_bind, Sem.run_pure]; exact (congrArg (fun r => Result.andThen r _) (hw'.loadSecAt hl)).trans rfl) ?_
    try simp only [Act.put, List.setIfInBounds_toArray, List.set_cons_zero, List.set_cons_succ]
    refine mixT_take (by rfl) (.slice (some ⟨w.heap.size, 0, none⟩) 124 128) (fun w' hw' => by go_simp) ?_
    try simp only [Act.put, List.setIfInBounds_toArray, List.set_cons_zero, List.set_cons_succ]
    refine mixT_step (by rfl) fun K hK => ?_
    go_simp
    refine (rnumbered_at 124 124 rfl (by omega) xs hl hbx _).mono ?_
    rintro e w1 ⟨rfl, hb1⟩
    have bS1 := bS0.drew.belowAll hb1
    have bR1 := bR0.drew.belowAll hb1
    have B1 : Below w.heap.size w w1 := B0.drew.trans (hb1.mono B0.size)
    refine hK _ _ (fun _ => bS1) ?_
    clear hK K hb1 bS0 bR0 B0
    refine mixT_step (by rfl) fun K hK => ?_
    go_simp
    refine (rcrc_at (some ⟨w.heap.size, 0, none⟩) 124 128 (xs.take 124) (by rw [List.length_take]; omega) (by omega) (take_bytes hbx _) _ (by rw [List.map_take]; exact (reads_bytes bS1).take 124)).mono ?_
    rintro e w2 ⟨rfl, rfl⟩
    refine hK _ _ (fun _ => bS1) ?_
    clear hK K
    refine mixT_step (by rfl) fun K hK => ?_
    go_simp
    refine hK _ _ (fun _ => bS1) ?_
    clear hK K
    refine mixT_nil ?_
    have cR := bR1.cells
    have fR := bR1.free
    have lR := bR1.lt
    have lS := bS1.lt
    by_cases hsum : readN xs 124 ≠ crc (xs.take 124)
    · have hd2 : (readN xs 124 != crc (xs.take 124)) = true := by simpa using hsum
      have hE0 : Hid (openE a xs = 71) := Lib.hid (by unfold openE; rw [if_neg a1, if_neg HZ.out, if_pos hsum])
      clear hsum
      go_wp2_with fail
      refine bodyPost_ret (v := .tuple #[.agg #[Value.int .i64 0, Value.int .u32 0, Value.string ⟨#[]⟩], .int .i64 71]) (by simp [results, Tryz.results95, go_sem, cR, lR]) rfl ?_
      exact OpenPost.bad hE0.out (by decide) (by (repeat' (first | (with_reducible exact Below.refl _ _) | (with_reducible assumption) | (with_reducible refine Below.alloc ?_ ?_ _) | (with_reducible refine Below.drew ?_) | (with_reducible refine below_drewN' ?_ _) | (with_reducible refine Below.setCell ?_ ?_ _) | (with_reducible exact Nat.le_refl _) | omega | (simp; done) | (simp; omega))))
    have hd2 : (readN xs 124 != crc (xs.take 124)) = false := by simpa using hsum
    have hE0 : Hid (openE a xs = if 256 ≤ readN xs 120 ∨ 112 < xs.getD 2 0 then 6 else if sealE (readN xs 120) (xs.getD 1 0) (openStr xs).size ≠ 0 ∨ sealL (readN xs 120) (xs.getD 1 0) (readN xs 4) (openStr xs) ≠ xs then 6 else if readN xs 120 ≠ a then 72 else 0) :=
      Lib.hid (by rw [← hRE.out]; unfold refOpenE; rw [if_neg a1, if_neg HZ.out, if_neg hsum])
    clear hsum hRE
    go_wp2_with (refine wpList_loadSec rfl _ rfl w.heap.size rfl bS1 hl ?_)
    refine (rnumbered_at 120 120 rfl (by omega) xs hl hbx _).mono ?_
    rintro e w3 ⟨rfl, hb3⟩
    have bS3 := bS1.belowAll hb3
    have bR3 := bR1.belowAll hb3
    have B3 : Below w.heap.size w w3 := B1.trans (hb3.mono B1.size)
    clear hb3 bS1 bR1 B1 cR fR lR lS
    go_wp2_with fail
    have y1 := getD_bytes hbx 1
    obtain ⟨x1, hx1⟩ : ∃ x1, xs.getD 1 0 = x1 := ⟨_, rfl⟩
    rw [hx1] at y1 hE0
    have hc1 : ∀ W, Blk W w.heap.size 42 (bytesV xs) → W.cell? ⟨w.heap.size, 1, none⟩ = some (.int .u8 x1) := fun W b => by rw [b.cells, ← hx1]; exact bytesV_get (by omega)
    have HX1 := Lib.hid hx1
    have HC1 := Lib.hid hc1
    clear hx1 hc1
    have hwx : IntKind.i64.wrap x1 = x1 := by rw [IntKind.wrap_i64]; omega
    go_cut [7] from 29 to 77 (fun s7 wx => ∃ N, s7 = .pointer (some ⟨N, 0, none⟩) ∧ Below w.heap.size w wx ∧ w.heap.size + 1 < N ∧ Blk wx w.heap.size 42 (bytesV xs) ∧ Blk wx (w.heap.size + 1) 26 #[Value.int .i64 0, Value.int .u32 0, Value.string ⟨#[]⟩] ∧ Blk wx N 26 #[.int .i64 x1, .int .u32 (readN xs 4), .string ⟨#[]⟩])
    case first =>
      as_aux_lemma =>
        refine wp_region_mix [.take 0, .take 1, .take 2, .take 3, .par 6 [4, 5], .one 7] 7 (fun W => Blk W w.heap.size 42 (bytesV xs)) (by kernel_rfl) (by kernel_rfl) (fun _ _ _ _ _ h => h) bS3.drew ?_
        simp only [List.map_cons, List.map_nil, Ms.fill, List.getD_cons_zero, List.getD_cons_succ]
        refine mixT_take (by rfl) (.pointer (some ⟨w.heap.size, 1, none⟩)) (fun w' hw' => by go_simp) ?_
        try simp only [Act.put, List.setIfInBounds_toArray, List.set_cons_zero, List.set_cons_succ]
        refine mixT_take (by rfl) (.int .u8 x1) (fun w' hw' => by have h1 := HC1.out w' hw'; go_simp) ?_
        try simp only [Act.put, List.setIfInBounds_toArray, List.set_cons_zero, List.set_cons_succ]
        refine mixT_take (by rfl) (.int .i64 x1) (fun w' hw' => by go_simp) ?_
        try simp only [Act.put, List.setIfInBounds_toArray, List.set_cons_zero, List.set_cons_succ]
        refine mixT_take (by rfl) (.agg (bytesV xs)) (fun w' hw' => by unfold execOp; simp only [Sem.run_bind, Sem.run_pure]; exact (congrArg (fun r => Result.andThen r _) (hw'.loadSecAt hl)).trans rfl) ?_
        try simp only [Act.put, List.setIfInBounds_toArray, List.set_cons_zero, List.set_cons_succ]
        refine mixT_par fun K0 hK0 => ?_
        refine parT_cons (fun K hK => ?_) (fun K hK => ?_)
        · obtain ⟨X, hX⟩ : ∃ X, X = (w3.alloc (.cells #[Value.int .i64 0, Value.int .u32 0, Value.string ⟨#[]⟩] 26)).drew := ⟨_, rfl⟩
          have bX : Blk X w3.heap.size 26 #[Value.int .i64 0, Value.int .u32 0, Value.string ⟨#[]⟩] := by rw [hX]; exact (Blk.new _ _ _).drew
          have BX : Below w3.heap.size w3 X := by rw [hX]; exact ((Below.refl _ _).alloc (Nat.le_refl _) _).drew
          go_simp
          rw [← hX]
          refine hK _ _ (bS3.belowAll BX) ?_
          clear hK K hX
          refine chainT_cons (fun K hK => ?_)
          go_simp
          refine (rnumbered_at 4 4 rfl (by omega) xs hl hbx _).mono ?_
          rintro e w5 ⟨rfl, hb5⟩
          have bX5 := bX.belowAll hb5
          have B5 := BX.trans (hb5.mono BX.size)
          refine hK _ _ (bS3.belowAll B5) ?_
          clear hK K
          refine chainT_cons (fun K hK => ?_)
          go_simp
          refine hK _ _ (bS3.belowAll B5) ?_
          clear hK K
          refine chainT_nil ?_
          refine hK0 _ _ ?_
          clear hK0 K0
          refine mixT_step (by rfl) fun K hK => ?_
          have hst := storeRow (ty := 26) (vs := #[.int .i64 x1, .int .u32 (readN xs 4), .string ⟨#[]⟩]) bX5 rfl (by simp [Value.oneCell']) (by kernel_rfl)
          refine op_storeBy _ _ _ rfl _ _ rfl rfl hst ?_
          refine hK _ _ (fun h => absurd h (by decide)) ?_
          clear hK K
          refine mixT_nil ?_
          have l3 := bR3.lt
          go_wp2_with fail
          go_meet
          case rel => exact ⟨w3.heap.size, rfl, Below.setRow (B3.trans (B5.mono B3.size)) B3.size _, l3, (bS3.belowAll B5).rowFar (by have := bS3.lt; omega), (bR3.belowAll B5).rowFar (by omega), bX5.setRow⟩
        · go_simp
          refine (rnumbered_at 4 4 rfl (by omega) xs hl hbx _).mono ?_
          rintro e w5 ⟨rfl, hb5⟩
          have B5 : Below w3.heap.size w3 w5 := (Below.refl _ _).drew.trans hb5
          have z5 := B5.size
          refine hK _ _ (bS3.belowAll B5) ?_
          clear hK K
          refine parT_cons (fun K hK => ?_) (fun K hK => ?_)
          · obtain ⟨X, hX⟩ : ∃ X, X = w5.alloc (.cells #[Value.int .i64 0, Value.int .u32 0, Value.string ⟨#[]⟩] 26) := ⟨_, rfl⟩
            have bX : Blk X w5.heap.size 26 #[Value.int .i64 0, Value.int .u32 0, Value.string ⟨#[]⟩] := by rw [hX]; exact Blk.new _ _ _
            have BX : Below w3.heap.size w3 X := by rw [hX]; exact B5.alloc B5.size _
            go_simp
            rw [← hX]
            refine hK _ _ (bS3.belowAll BX) ?_
            clear hK K hX
            refine chainT_cons (fun K hK => ?_)
            go_simp
            refine hK _ _ (bS3.belowAll BX) ?_
            clear hK K
            refine chainT_nil ?_
            refine hK0 _ _ ?_
            clear hK0 K0
            refine mixT_step (by rfl) fun K hK => ?_
            have hst := storeRow (ty := 26) (vs := #[.int .i64 x1, .int .u32 (readN xs 4), .string ⟨#[]⟩]) bX rfl (by simp [Value.oneCell']) (by kernel_rfl)
            refine op_storeBy _ _ _ rfl _ _ rfl rfl hst ?_
            refine hK _ _ (fun h => absurd h (by decide)) ?_
            clear hK K
            refine mixT_nil ?_
            have l3 := bR3.lt
            go_wp2_with fail
            go_meet
            case rel => exact ⟨w5.heap.size, rfl, Below.setRow (B3.trans (BX.mono B3.size)) (by have := B3.size; omega) _, by omega, (bS3.belowAll BX).rowFar (by have := bS3.lt; omega), (bR3.belowAll BX).rowFar (by omega), bX.setRow⟩
          · go_simp
            refine hK _ _ (bS3.belowAll B5) ?_
            clear hK K
            refine parT_nil (fun K hK => ?_)
            obtain ⟨X, hX⟩ : ∃ X, X = w5.alloc (.cells #[Value.int .i64 0, Value.int .u32 0, Value.string ⟨#[]⟩] 26) := ⟨_, rfl⟩
            have bX : Blk X w5.heap.size 26 #[Value.int .i64 0, Value.int .u32 0, Value.string ⟨#[]⟩] := by rw [hX]; exact Blk.new _ _ _
            have BX : Below w3.heap.size w3 X := by rw [hX]; exact B5.alloc B5.size _
            go_simp
            rw [← hX]
            refine hK _ _ (bS3.belowAll BX) ?_
            clear hK K hX
            refine hK0 _ _ ?_
            clear hK0 K0
            refine mixT_step (by rfl) fun K hK => ?_
            have hst := storeRow (ty := 26) (vs := #[.int .i64 x1, .int .u32 (readN xs 4), .string ⟨#[]⟩]) bX rfl (by simp [Value.oneCell']) (by kernel_rfl)
            refine op_storeBy _ _ _ rfl _ _ rfl rfl hst ?_
            refine hK _ _ (fun h => absurd h (by decide)) ?_
            clear hK K
            refine mixT_nil ?_
            have l3 := bR3.lt
            go_wp2_with fail
            go_meet
            case rel => exact ⟨w5.heap.size, rfl, Below.setRow (B3.trans (BX.mono B3.size)) (by have := B3.size; omega) _, by omega, (bS3.belowAll BX).rowFar (by have := bS3.lt; omega), (bR3.belowAll BX).rowFar (by omega), bX.setRow⟩
    clear HC1 hwx bS3 bR3 B3
    obtain ⟨N, rfl, hB, hN, bS, bR, bN⟩ := hcut
    have lS := bS.lt
    have lN := bN.lt
    have cR := bR.cells
    have fR := bR.free
    have lR := bR.lt
    have hq := readN_bds xs 120
    have y2 := getD_bytes hbx 2
    obtain ⟨x2, hx2⟩ : ∃ x2, xs.getD 2 0 = x2 := ⟨_, rfl⟩
    have g2 : wc.cell? ⟨w.heap.size, 2, none⟩ = some (.int .u8 x2) := by rw [bS.cells, ← hx2]; exact bytesV_get (by omega)
    rw [hx2] at hE0 y2
    have HX2 := Lib.hid hx2
    clear hx2
    by_cases c4 : 256 ≤ readN xs 120
    · rw [if_pos (Or.inl c4)] at hE0
      have hd4 : decide (256 ≤ readN xs 120) = true := decide_eq_true c4
      go_wp2_with fail
      refine bodyPost_ret (v := .tuple #[.agg #[Value.int .i64 0, Value.int .u32 0, Value.string ⟨#[]⟩], .int .i64 6]) (by simp [results, Tryz.results95, go_sem, cR, lR]) rfl ?_
      exact OpenPost.bad hE0.out (by decide) (by (repeat' (first | (with_reducible exact Below.refl _ _) | (with_reducible assumption) | (with_reducible refine Below.alloc ?_ ?_ _) | (with_reducible refine Below.drew ?_) | (with_reducible refine below_drewN' ?_ _) | (with_reducible refine Below.setCell ?_ ?_ _) | (with_reducible exact Nat.le_refl _) | omega | (simp; done) | (simp; omega))))
    have hd4 : decide (256 ≤ readN xs 120) = false := decide_eq_false c4
    by_cases c5 : 112 < x2
    · rw [if_pos (Or.inr c5)] at hE0
      go_wp2_with fail
      refine bodyPost_ret (v := .tuple #[.agg #[Value.int .i64 0, Value.int .u32 0, Value.string ⟨#[]⟩], .int .i64 6]) (by simp [results, Tryz.results95, go_sem, cR, lR]) rfl ?_
      exact OpenPost.bad hE0.out (by decide) (by (repeat' (first | (with_reducible exact Below.refl _ _) | (with_reducible assumption) | (with_reducible refine Below.alloc ?_ ?_ _) | (with_reducible refine Below.drew ?_) | (with_reducible refine below_drewN' ?_ _) | (with_reducible refine Below.setCell ?_ ?_ _) | (with_reducible exact Nat.le_refl _) | omega | (simp; done) | (simp; omega))))
    rw [if_neg (by omega)] at hE0
    obtain ⟨m, rfl⟩ := Int.eq_ofNat_of_zero_le y2.1
    have hm : m ≤ 112 := by omega
    have hal : Tryz.prog.arrayLen 42 = 128 := by kernel_rfl
    have hsz : ∀ w : World, (sizeOf (Tryz.prog.elem 42)).run Tryz.prog w = .ok 1 w := fun w => by kernel_rfl
    have hsl2 : ∀ w0 : World, (Instr.sliceAt 42 (.pointer (some ⟨w.heap.size, 0, none⟩)) (some (.int .i64 8)) (some (.int .i64 (8 + (m : Int)))) none).run Tryz.prog w0 = .ok (.slice (some ⟨w.heap.size, 8, none⟩) m 120) w0 := fun w0 => by
      rw [run_sliceAt_array_lh w0 42 _ (by kernel_rfl) .i64 .i64 8 (8 + (m : Int)) (by omega) (by omega) (by rw [hal]; omega), hsz]
      have h1 : (8 + (m : Int)).toNat = 8 + m := by omega
      have h2 : (8 : Int).toNat = 8 := rfl
      simp only [Result.andThen_ok, slicedAt, h1, h2, Nat.mul_one, hal]
      rw [show 8 + m - 8 = m by omega]
      simp [Addr.add]
    clear hal hsz
    have hcv := conv_bytes (some ⟨w.heap.size, 8, none⟩) m 120 ((xs.take (8 + m)).drop 8) (by rw [List.length_drop, List.length_take]; omega) wc (reads_part bS 8 (8 + m))
    have hos : strOfNums ((xs.take (8 + m)).drop 8) = openStr xs := by unfold openStr; rw [HX2.out, Int.toNat_natCast]
    rw [hos] at hcv
    have hos2 : (openStr xs).size = m := by rw [← hos, strOfNums_size, List.length_drop, List.length_take]; omega
    have HOS := Lib.hid hos2
    clear hos hos2
    have cN := bN.cells
    have fN := bN.free
    go_wp2_with fail
    have hsz := HOS.out
    refine (rseal_any (readN xs 120) x1 (readN xs 4) (openStr xs) (by rw [hsz]; simp only [maxLen]; omega) (readN_bds xs 4) _).mono ?_
    rintro e w6 ⟨hb6, rfl⟩
    have bS6 : Blk w6 w.heap.size 42 (bytesV xs) := Blk.belowAll (by first | exact bS.far (by simp; omega) _ | exact bS.far _ (by simp; omega)) hb6
    have bR6 : Blk w6 (w.heap.size + 1) 26 #[Value.int .i64 0, Value.int .u32 0, Value.string ⟨#[]⟩] := Blk.belowAll (by first | exact bR.far (by simp; omega) _ | exact bR.far _ (by simp; omega)) hb6
    have bN6 : Blk w6 N 26 #[.int .i64 x1, .int .u32 (readN xs 4), .string (openStr xs)] := (bN.set_ 2 (.string (openStr xs))).belowAll hb6
    have B6 : Below w.heap.size w w6 := (hB.setCell (p := ⟨N, 2, none⟩) (by show w.heap.size ≤ N; omega) _).trans (hb6.mono (by have := hB.size; simpa using this))
    clear hb6 bS bR bN hB cR fR lR cN fN lS lN g2 hcv hsl2
    have lS := bS6.lt
    have lN := bN6.lt
    have cR := bR6.cells
    have fR := bR6.free
    have lR := bR6.lt
    have cN := bN6.cells
    have hLl : (if sealE (readN xs 120) x1 (openStr xs).size = 0 then sealL (readN xs 120) x1 (readN xs 4) (openStr xs) else zsec).length = 128 := by
      split
      · exact sealL_length _ _ _ _ (by omega)
      · exact zsec_length
    by_cases hE : sealE (readN xs 120) x1 (openStr xs).size = 0
    rotate_left
    · rw [if_pos (Or.inl hE)] at hE0
      have hd7 : (sealE (readN xs 120) x1 (openStr xs).size != 0) = true := by simpa using hE
      rw [if_neg hE] at hLl ⊢
      generalize sealE (readN xs 120) x1 (openStr xs).size = E at *
      have bT : Blk (w6.alloc (.cells (bytesV zsec) 42)) w6.heap.size 42 (bytesV zsec) := Blk.new _ _ _
      clear hE
      clear cR fR lR cN
      go_wp2_with (refine wpList_storeSec rfl _ _ rfl w6.heap.size (zsec) rfl rfl bT zsec_length zsec_length ?_; obtain ⟨W7, hW7⟩ : ∃ W7, W7 = World.setRow (w6.alloc (.cells (bytesV zsec) 42)) w6.heap.size (bytesV (zsec)) := ⟨_, rfl⟩; rw [← hW7]; have hB7 : Below w6.heap.size w6 W7 := (by rw [hW7]; exact Below.setRow ((Below.refl _ _).alloc (Nat.le_refl _) _) (Nat.le_refl _) _); have bT7 : Blk W7 w6.heap.size 42 (bytesV (zsec)) := (by rw [hW7]; exact Blk.setRow bT); have bS7 := bS6.belowAll hB7; have bR7 := bR6.belowAll hB7; have bN7 := bN6.belowAll hB7; have cR := bR7.cells; have fR := bR7.free; have lR := bR7.lt; have cN := bN7.cells; have B7 : Below w.heap.size w W7 := B6.trans (hB7.mono B6.size); have e8 := bT7.loadSecAt zsec_length; have e3 := bS7.loadSecAt hl; clear hW7 hB7)
      refine bodyPost_ret (v := .tuple #[.agg #[Value.int .i64 0, Value.int .u32 0, Value.string ⟨#[]⟩], .int .i64 6]) (by simp [results, Tryz.results95, go_sem, cR, lR]) rfl ?_
      exact OpenPost.bad hE0.out (by decide) (by (repeat' (first | (with_reducible exact Below.refl _ _) | (with_reducible assumption) | (with_reducible refine Below.alloc ?_ ?_ _) | (with_reducible refine Below.drew ?_) | (with_reducible refine below_drewN' ?_ _) | (with_reducible refine Below.setCell ?_ ?_ _) | (with_reducible exact Nat.le_refl _) | omega | (simp; done) | (simp; omega))))
    rw [if_pos hE] at hLl ⊢
    rw [hE] at hE0 ⊢
    clear hE
    have hne := fun w => neSec (sealL (readN xs 120) x1 (readN xs 4) (openStr xs)) xs hLl hl w
    generalize hLL : sealL (readN xs 120) x1 (readN xs 4) (openStr xs) = L at *
    have bT : Blk (w6.alloc (.cells (bytesV zsec) 42)) w6.heap.size 42 (bytesV zsec) := Blk.new _ _ _
    clear cR fR lR cN hLL
    by_cases hL : L = xs
    rotate_left
    · rw [if_pos (Or.inr hL)] at hE0
      have hd8 : decide (L = xs) = false := decide_eq_false hL
      rw [hd8] at hne
      clear hL hd8
      go_wp2_with (first | (refine wpList_storeSec rfl _ _ rfl w6.heap.size (L) rfl rfl bT zsec_length hLl ?_; obtain ⟨W7, hW7⟩ : ∃ W7, W7 = World.setRow (w6.alloc (.cells (bytesV zsec) 42)) w6.heap.size (bytesV (L)) := ⟨_, rfl⟩; rw [← hW7]; have hB7 : Below w6.heap.size w6 W7 := (by rw [hW7]; exact Below.setRow ((Below.refl _ _).alloc (Nat.le_refl _) _) (Nat.le_refl _) _); have bT7 : Blk W7 w6.heap.size 42 (bytesV (L)) := (by rw [hW7]; exact Blk.setRow bT); have bS7 := bS6.belowAll hB7; have bR7 := bR6.belowAll hB7; have bN7 := bN6.belowAll hB7; have cR := bR7.cells; have fR := bR7.free; have lR := bR7.lt; have cN := bN7.cells; have B7 : Below w.heap.size w W7 := B6.trans (hB7.mono B6.size); clear hW7 hB7) | (refine wpList_loadSecG (by rfl) _ rfl w6.heap.size rfl bT7 hLl ?_) | (refine wpList_loadSecG (by rfl) _ rfl w.heap.size rfl bS7 hl ?_))
      refine bodyPost_ret (v := .tuple #[.agg #[Value.int .i64 0, Value.int .u32 0, Value.string ⟨#[]⟩], .int .i64 6]) (by simp [results, Tryz.results95, go_sem, cR, lR]) rfl ?_
      exact OpenPost.bad hE0.out (by decide) (by (repeat' (first | (with_reducible exact Below.refl _ _) | (with_reducible assumption) | (with_reducible refine Below.alloc ?_ ?_ _) | (with_reducible refine Below.drew ?_) | (with_reducible refine below_drewN' ?_ _) | (with_reducible refine Below.setCell ?_ ?_ _) | (with_reducible exact Nat.le_refl _) | omega | (simp; done) | (simp; omega))))
    rw [if_neg (by simp [hL])] at hE0
    have hd8 : decide (L = xs) = true := decide_eq_true hL
    rw [hd8] at hne
    clear hL hd8
    by_cases hpl : readN xs 120 = a
    rotate_left
    · rw [if_pos hpl] at hE0
      have hd6 : (readN xs 120 != a) = true := by simpa using hpl
      clear hpl
      go_wp2_with (first | (refine wpList_storeSec rfl _ _ rfl w6.heap.size (L) rfl rfl bT zsec_length hLl ?_; obtain ⟨W7, hW7⟩ : ∃ W7, W7 = World.setRow (w6.alloc (.cells (bytesV zsec) 42)) w6.heap.size (bytesV (L)) := ⟨_, rfl⟩; rw [← hW7]; have hB7 : Below w6.heap.size w6 W7 := (by rw [hW7]; exact Below.setRow ((Below.refl _ _).alloc (Nat.le_refl _) _) (Nat.le_refl _) _); have bT7 : Blk W7 w6.heap.size 42 (bytesV (L)) := (by rw [hW7]; exact Blk.setRow bT); have bS7 := bS6.belowAll hB7; have bR7 := bR6.belowAll hB7; have bN7 := bN6.belowAll hB7; have cR := bR7.cells; have fR := bR7.free; have lR := bR7.lt; have cN := bN7.cells; have B7 : Below w.heap.size w W7 := B6.trans (hB7.mono B6.size); clear hW7 hB7) | (refine wpList_loadSecG (by rfl) _ rfl w6.heap.size rfl bT7 hLl ?_) | (refine wpList_loadSecG (by rfl) _ rfl w.heap.size rfl bS7 hl ?_))
      refine bodyPost_ret (v := .tuple #[.agg #[Value.int .i64 0, Value.int .u32 0, Value.string ⟨#[]⟩], .int .i64 72]) (by simp [results, Tryz.results95, go_sem, cR, lR]) rfl ?_
      exact OpenPost.bad hE0.out (by decide) (by (repeat' (first | (with_reducible exact Below.refl _ _) | (with_reducible assumption) | (with_reducible refine Below.alloc ?_ ?_ _) | (with_reducible refine Below.drew ?_) | (with_reducible refine below_drewN' ?_ _) | (with_reducible refine Below.setCell ?_ ?_ _) | (with_reducible exact Nat.le_refl _) | omega | (simp; done) | (simp; omega))))
    rw [if_neg (by simpa using hpl)] at hE0
    have hd6 : (readN xs 120 != a) = false := by simpa using hpl
    clear hpl
    go_wp2_with (first | (refine wpList_storeSec rfl _ _ rfl w6.heap.size (L) rfl rfl bT zsec_length hLl ?_; obtain ⟨W7, hW7⟩ : ∃ W7, W7 = World.setRow (w6.alloc (.cells (bytesV zsec) 42)) w6.heap.size (bytesV (L)) := ⟨_, rfl⟩; rw [← hW7]; have hB7 : Below w6.heap.size w6 W7 := (by rw [hW7]; exact Below.setRow ((Below.refl _ _).alloc (Nat.le_refl _) _) (Nat.le_refl _) _); have bT7 : Blk W7 w6.heap.size 42 (bytesV (L)) := (by rw [hW7]; exact Blk.setRow bT); have bS7 := bS6.belowAll hB7; have bR7 := bR6.belowAll hB7; have bN7 := bN6.belowAll hB7; have cR := bR7.cells; have fR := bR7.free; have lR := bR7.lt; have cN := bN7.cells; have B7 : Below w.heap.size w W7 := B6.trans (hB7.mono B6.size); clear hW7 hB7) | (refine wpList_loadSecG (by rfl) _ rfl w6.heap.size rfl bT7 hLl ?_) | (refine wpList_loadSecG (by rfl) _ rfl w.heap.size rfl bS7 hl ?_))
    refine bodyPost_ret (v := .tuple #[.agg #[.int .i64 x1, .int .u32 (readN xs 4), .string (openStr xs)], .int .i64 0]) (by simp [results, Tryz.results95, go_sem, cR, lR]) rfl ?_
    refine ⟨by (repeat' (first | (with_reducible exact Below.refl _ _) | (with_reducible assumption) | (with_reducible refine Below.alloc ?_ ?_ _) | (with_reducible refine Below.drew ?_) | (with_reducible refine below_drewN' ?_ _) | (with_reducible refine Below.setCell ?_ ?_ _) | (with_reducible exact Nat.le_refl _) | omega | (simp; done) | (simp; omega))), ?_⟩
    unfold openV
    rw [hE0.out, if_pos rfl, HX1.out]

end Go.Proofs.YtloddiipepiocaaGreatDoor
/- Layer 6, the reference: New walked (a size that it admits). -/
namespace Go.Proofs.YtloddiipepiocaaGreatDoor
open Go.RowKit Go.Maps

set_option maxRecDepth 100000 in
set_option maxHeartbeats 1000000 in
theorem rnew_any (n : Nat) (hn : 64 ≤ n ∧ n ≤ 256) (w : World) :
    Calls Tryz.prog 6 #[.int .i64 n] w fun e w' => ∃ S, w.heap.size ≤ S ∧ e = .returned (.tuple #[.agg (stateC (.slice (some ⟨S, 0, none⟩) n n) (.slice none 0 0) 0 (-1) false), .int .i64 0]) ∧ w'.ownsRow w.heap.size 42 128 (.slice (some ⟨S, 0, none⟩) n n) n ((List.replicate n zsec).flatMap secV) ∧ Below w.heap.size w w' := by
  obtain ⟨w0, hw0⟩ : ∃ w0, w0 = w.alloc (.cells (stateC (.slice none 0 0) (.slice none 0 0) 0 0 false) 33) := ⟨_, rfl⟩
  obtain ⟨i, hi, hz, hsz, hby⟩ := info_parts Tryz.infoSec3
  have hmk := run_make (P := Tryz.prog) w0 30 42 i _ Tryz.underlying30 hi hz .i64 .i64 n n (by omega) (Int.le_refl _) (by rw [hby]; omega) (by omega)
  rw [Int.toNat_natCast, hsz] at hmk
  obtain ⟨w1, hw1⟩ : ∃ w1, w1 = w0.alloc (.cells ((List.replicate n zsec).flatMap secV).toArray 42) := ⟨_, rfl⟩
  have hmk2 : (Instr.makeSlice 30 (.int .i64 n) (.int .i64 n)).run Tryz.prog w0 = .ok (.slice (some ⟨w0.heap.size, 0, none⟩) n n) w1 := by
    rw [hmk, hw1]
    show Result.ok _ (w0.alloc (.cells (madeCells (fill (.int .u8 0) 128) (n * 128)) 42)) = _
    rw [made_flat]
  clear hmk hi hz hsz hby
  have bR0 : Blk w0 w.heap.size 33 (stateC (.slice none 0 0) (.slice none 0 0) 0 0 false) := by rw [hw0]; exact Blk.new _ _ _
  have B0 : Below w.heap.size w w0 := by rw [hw0]; exact (Below.refl _ _).alloc (Nat.le_refl _) _
  have hlt := bR0.lt
  have B01 : Below w0.heap.size w0 w1 := by rw [hw1]; exact (Below.refl _ _).alloc (Nat.le_refl _) _
  have own : w1.ownsRow w0.heap.size 42 128 (.slice (some ⟨w0.heap.size, 0, none⟩) n n) n ((List.replicate n zsec).flatMap secV) := by
    refine ⟨flat_len n, .inr ⟨w0.heap.size, n, _, rfl, Nat.le_refl _, by rw [hw1]; exact heap_alloc_new w0 _, Nat.le_refl _, by simp only [maxLen]; omega, by simp only [List.size_toArray]; exact flat_len n, ?_⟩⟩
    rw [List.take_of_length_le (by rw [flat_len n]; exact Nat.le_refl _)]
  have bR1 := bR0.belowAll B01
  have B1 := B0.trans (B01.mono B0.size)
  have hst := storeRow' (ty := 33) (vs := stateC (.slice (some ⟨w0.heap.size, 0, none⟩) n n) (.slice none 0 0) 0 (-1) false) bR1 rfl (by simp [stateC, Value.oneCell']) (by kernel_rfl)
  have hS : w0.heap.size = w.heap.size + 1 := by rw [hw0]; simp
  have bR2 := bR1.setRow (cs' := stateC (.slice (some ⟨w0.heap.size, 0, none⟩) n n) (.slice none 0 0) 0 (-1) false)
  have own2 : (w1.setRow w.heap.size (stateC (.slice (some ⟨w0.heap.size, 0, none⟩) n n) (.slice none 0 0) 0 (-1) false)).ownsRow w0.heap.size 42 128 (.slice (some ⟨w0.heap.size, 0, none⟩) n n) n ((List.replicate n zsec).flatMap secV) :=
    own_block own fun q hq => by
      have hq2 : q = w0.heap.size := by first | (cases hq; rfl) | (simpa using hq.symm) | (simpa using hq)
      exact setRow_other _ _ _ _ (by omega)
  have B2 : Below w.heap.size w (w1.setRow w.heap.size (stateC (.slice (some ⟨w0.heap.size, 0, none⟩) n n) (.slice none 0 0) 0 (-1) false)) := Below.setRow B1 (Nat.le_refl _) _
  rw [hS] at hmk2 hst bR2 own2 B2
  unfold stateC at hst hw0 bR2 own2 B2
  rw [hw0] at hmk2
  clear own bR1 B1 bR0 B0 B01 hw0 hw1
  obtain ⟨W2, hW2⟩ : ∃ W2, W2 = w1.setRow w.heap.size #[.slice (some ⟨w.heap.size + 1, 0, none⟩) n n, .slice none 0 0, .int .i64 0, .int .i64 (-1), .bool false] := ⟨_, rfl⟩
  rw [← hW2] at hst bR2 own2 B2
  clear hW2
  have cR := bR2.cells
  have lR := bR2.lt
  have n1 : ¬ (n : Int) < 64 := by omega
  have n2 : ¬ 256 < (n : Int) := by omega
  go_enter Tryz.func6, Tryz.ntmps6
  go_wp2_with (refine wpList_storeBy rfl _ _ _ rfl _ _ rfl rfl hst ?_)
  refine bodyPost_ret (v := .tuple #[.agg (stateC (.slice (some ⟨w.heap.size + 1, 0, none⟩) n n) (.slice none 0 0) 0 (-1) false), .int .i64 0]) (by simp [results, Tryz.results6, go_sem, cR, lR, stateC]) rfl ?_
  exact ⟨_, Nat.le_succ _, rfl, own_lower own2 (Nat.le_succ _), B2⟩

end Go.Proofs.YtloddiipepiocaaGreatDoor
