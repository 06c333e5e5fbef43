/- Parts of the proof, put together by program: I3, I4, I5. -/
import Derived.Test.YtloddiipepiocaaGreatDoorPart33
set_option linter.unusedVariables false
set_option linter.unusedSimpArgs false
/- Layer 10: Read, as a whole. -/
namespace Go.Proofs.YtloddiipepiocaaGreatDoor
open Go.RowKit Go.Maps

set_option maxRecDepth 100000 in
set_option maxHeartbeats 2000000 in
theorem txread_in (T : Nat) (F : List Nat) (D : Nat) (y : TxS) (B : List Nat) (x : DevS) (a : Int) (w : World) (h : TxAt w T F D y) (hd : DevAt w D B x) (hE : y.stateE = 0) (ha : 0 ≤ a ∧ a < y.s) :
    Calls Tryz.prog 59 #[.pointer (some ⟨T, 0, none⟩), .int .i64 a] w fun e w' => e = .returned (.tuple #[.int .i64 (y.readR x a).1, .string (y.readR x a).2.1, .int .i64 (y.readR x a).2.2]) ∧ Below w.heap.size w w' := by
  have hst := state_any _ _ w h.st
  rw [hE] at hst
  obtain ⟨ha0, ha1⟩ := ha
  have hd1 : decide (a < 0) = false := by simpa using ha0
  have hd2 : decide (y.s ≤ a) = false := by simpa using ha1
  have hbd := h.ok.bds
  have HR : Hid (y.readR x a = match y.look a with | some r => (r.kind, r.data, 0) | none => ((x.fr a).kind, (x.fr a).data, x.ge a)) := Lib.hid rfl
  have HC : Hid (y.look a = if a = 1 + y.j ∧ y.changed = true then some ⟨1 + y.j, 5, mapS y.now⟩ else atRec y.writes a) := Lib.hid rfl
  go_enter Tryz.func59, Tryz.ntmps59
  go_wp2_with fail
  refine hst.mono ?_
  rintro e w1 ⟨rfl, hb1⟩
  have hD1 := hd.below hb1
  have hT1 := h.below hb1
  clear hst
  obtain ⟨ok, ⟨M, wv, nv, bT, hT, hM, hMT, ⟨E, hEm, hO⟩, hw, ⟨A, c, rfl, hn, hnF⟩⟩, lt⟩ := h.below hb1
  have lk := lookR hEm hO (a := a) (by omega)
  have cT := bT.cells
  have lT := bT.lt
  have c1 : w1.cell? ⟨T, 1, none⟩ = some (.int .i64 y.s) := (cT 1).trans rfl
  have c5 : w1.cell? ⟨T, 5, none⟩ = some (.int .i64 (1 + y.j)) := (cT 5).trans rfl
  have c17 : w1.cell? ⟨T, 17, none⟩ = some (.map (some M)) := (cT 17).trans rfl
  have c18 : w1.cell? ⟨T, 18, none⟩ = some (.bool y.changed) := (cT 18).trans rfl
  have c0 : w1.cell? ⟨T, 0, none⟩ = some (.pointer (some ⟨D, 0, none⟩)) := (cT 0).trans rfl
  clear cT hO hw hEm hd h
  generalize hr : (atRec y.writes a).getD zRec = r at lk
  obtain ⟨ra, rk, rd⟩ := r
  unfold recC at lk
  simp only at lk
  have HCK : Hid (CkE y.s y.j y.i y.now.length = 0) := Lib.hid (by rw [ok.now]; exact ckE_rgB ok.rg)
  have HNL : Hid (y.now.length ≤ 1000) := Lib.hid (by omega)
  have HT := Lib.hid bT
  obtain ⟨W, hW⟩ : ∃ W, W = w1.alloc (.cells #[.int .i64 ra, .int .i64 rk, .string rd] 136) := ⟨_, rfl⟩
  have bX : Blk W w1.heap.size 136 #[.int .i64 ra, .int .i64 rk, .string rd] := by rw [hW]; exact Blk.new _ _ _
  have bTW : Blk W T 126 (txC D y.s y.j y.i wv (.slice A y.now.length c) M y.changed y.broken y.ended) := by rw [hW]; exact bT.alloc _
  have BW : Below w.heap.size w W := by rw [hW]; exact hb1.alloc hb1.size _
  have hDW : DevAt W D B x := by rw [hW]; exact hD1.alloc _
  have hnW : Reads W A (y.now.map .bool) := by rw [hW]; exact hn.alloc _
  have hzW : W.heap.size = w1.heap.size + 1 := by rw [hW]; simp
  have HZ := Lib.hid hzW
  clear hzW
  clear bT ok hn hM hMT hnF lt hT
  by_cases hA : a = 1 + y.j ∧ y.changed = true
  · obtain ⟨hA1, hA2⟩ := hA
    have HX : Hid (y.readR x a = (5, mapS y.now, 0)) := Lib.hid (by rw [HR.out, HC.out, if_pos ⟨hA1, hA2⟩])
    rw [hA2] at c18
    have hq : (a == 1 + y.j) = true := by simpa using hA1
    have d13 : W.drew.cell? ⟨T, 13, none⟩ = some (.int .i64 y.s) := (bTW.drew.cells 13).trans rfl
    have d14 : W.drew.cell? ⟨T, 14, none⟩ = some (.int .i64 y.j) := (bTW.drew.cells 14).trans rfl
    have d15 : W.drew.cell? ⟨T, 15, none⟩ = some (.int .i64 y.i) := (bTW.drew.cells 15).trans rfl
    have d16 : W.drew.cell? ⟨T, 16, none⟩ = some (.slice A y.now.length c) := (bTW.drew.cells 16).trans rfl
    have HD := Lib.hid (And.intro d13 (And.intro d14 (And.intro d15 d16)))
    clear d13 d14 d15 d16 hr hA1
    go_wp2_with fail
    rw [← hW]
    clear hW lk c1 c5 c17 c18 c0 lT
    refine wp_region_mix [.take 0, .take 1, .take 2, .take 3, .take 4, .take 5, .take 6, .one 7, .one 8, .one 9] 8 (fun w' => w'.cell? ⟨T, 13, none⟩ = some (.int .i64 y.s) ∧ w'.cell? ⟨T, 14, none⟩ = some (.int .i64 y.j) ∧ w'.cell? ⟨T, 15, none⟩ = some (.int .i64 y.i) ∧ w'.cell? ⟨T, 16, none⟩ = some (.slice A y.now.length c)) (by kernel_rfl) (by kernel_rfl) (fun _ _ _ _ _ h => h) HD.out ?_
    simp only [List.map_cons, List.map_nil, Ms.fill, List.getD_cons_zero, List.getD_cons_succ]
    iterate 7 (refine mixT_take (by rfl) ?_ (fun w' hw' => ?_) ?_; rotate_left; (focus (go_simp; (try with_reducible rfl))); (try simp only [Act.put, List.setIfInBounds_toArray, List.set_cons_zero, List.set_cons_succ]))
    refine mixT_step (by rfl) fun K hK => ?_
    go_simp
    refine (bitmap_any T 126 _ (1 + y.j) y.s y.j y.i A c y.now HNL.out HCK.out W.drew bTW.drew rfl (hnW.below (Below.refl _ _).drew)).mono ?_
    rintro e w2 ⟨rfl, hb2⟩
    have B12 : Below W.heap.size W w2 := (Below.refl _ _).drew.trans hb2
    have lTW := bTW.lt
    refine hK _ _ (fun _ => ⟨?_, ?_, ?_, ?_⟩) ?_
    focus (exact (B12.cell (p := ⟨T, 13, none⟩) lTW).trans HD.out.1)
    focus (exact (B12.cell (p := ⟨T, 14, none⟩) lTW).trans HD.out.2.1)
    focus (exact (B12.cell (p := ⟨T, 15, none⟩) lTW).trans HD.out.2.2.1)
    focus (exact (B12.cell (p := ⟨T, 16, none⟩) lTW).trans HD.out.2.2.2)
    clear hK K
    have bX2 := bX.belowAll B12
    refine mixT_step (by rfl) fun K hK => ?_
    have hst := storeRow (ty := 136) (vs := #[.int .i64 (1 + y.j), .int .i64 5, .string (mapS y.now)]) bX2 rfl (by simp [Value.oneCell']) (by kernel_rfl)
    obtain ⟨w3, hw3⟩ : ∃ w3, w3 = w2.setRow w1.heap.size #[.int .i64 (1 + y.j), .int .i64 5, .string (mapS y.now)] := ⟨_, rfl⟩
    rw [← hw3] at hst
    have HW3 := Lib.hid hw3
    clear hw3
    refine op_storeBy _ _ _ rfl _ _ rfl rfl hst ?_
    refine hK _ _ (fun h => absurd h (by decide)) ?_
    clear hK K
    refine mixT_step (by rfl) fun K hK => ?_
    go_simp
    refine hK _ _ (fun h => absurd h (by decide)) ?_
    clear hK K
    refine mixT_nil ?_
    have bX3 : Blk w3 w1.heap.size 136 #[.int .i64 (1 + y.j), .int .i64 5, .string (mapS y.now)] := by rw [HW3.out]; exact bX2.setRow
    have B3 : Below w.heap.size w w3 := by rw [HW3.out]; exact Below.setRow (BW.trans (B12.mono BW.size)) hb1.size _
    clear hst
    have cX := bX3.cells
    have lX := bX3.lt
    have e1 : w3.cell? ⟨w1.heap.size, 1, none⟩ = some (.int .i64 5) := (cX 1).trans rfl
    have e2 : w3.cell? ⟨w1.heap.size, 2, none⟩ = some (.string (mapS y.now)) := (cX 2).trans rfl
    clear cX
    go_wp2_with fail
    go_quiet (fail)
    go_wp2_with fail
    rw [HX.out]
    refine bodyPost_ret (v := .tuple #[.int .i64 5, .string (mapS y.now), .int .i64 0]) (by simp [results, Tryz.results59, go_sem]) rfl ?_
    exact ⟨rfl, below_drewN' B3 _⟩
  have HX : Hid (y.look a = atRec y.writes a) := Lib.hid (by rw [HC.out, if_neg hA])
  have hq : (a == 1 + y.j) = false ∨ ((a == 1 + y.j) = true ∧ y.changed = false) := by
    by_cases h1 : a = 1 + y.j
    · exact .inr ⟨by simpa using h1, by cases hc : y.changed; rfl; exact absurd ⟨h1, hc⟩ hA⟩
    · exact .inl (by simpa using h1)
  clear hA
  cases hs : atRec y.writes a with
  | some r =>
    have HV : Hid (y.readR x a = (rk, rd, 0)) := Lib.hid (by rw [HR.out, HX.out, hs]; rw [hs] at hr; cases hr; rfl)
    rw [hs] at lk
    clear hr hs
    have lk := lk
    simp only [Option.isSome_some] at lk
    have cX := bX.cells
    have lX := bX.lt
    have e1 : W.cell? ⟨w1.heap.size, 1, none⟩ = some (.int .i64 rk) := (cX 1).trans rfl
    have e2 : W.cell? ⟨w1.heap.size, 2, none⟩ = some (.string rd) := (cX 2).trans rfl
    clear cX
    have W18 : W.cell? ⟨T, 18, none⟩ = some (.bool y.changed) := (bTW.cells 18).trans rfl
    rcases hq with hq | ⟨hq, hch⟩
    rotate_left
    focus
      rw [hch] at c18
      rw [hch] at W18
      rw [hW] at W18
    all_goals
      go_wp2_with fail
      rw [← hW]
      go_wp2_with fail
      go_quiet (fail)
      go_wp2_with fail
      rw [HV.out]
      refine bodyPost_ret (v := .tuple #[.int .i64 rk, .string rd, .int .i64 0]) (by simp [results, Tryz.results59, go_sem]) rfl ?_
      exact ⟨rfl, below_drewN' BW _⟩
  | none =>
    have HV : Hid (y.readR x a = ((x.fr a).kind, (x.fr a).data, x.ge a)) := Lib.hid (by rw [HR.out, HX.out, hs])
    rw [hs] at lk
    clear hr hs
    have lk := lk
    simp only [Option.isSome_none] at lk
    have W18 : W.cell? ⟨T, 18, none⟩ = some (.bool y.changed) := (bTW.cells 18).trans rfl
    have W0 : W.cell? ⟨T, 0, none⟩ = some (.pointer (some ⟨D, 0, none⟩)) := (bTW.cells 0).trans rfl
    rcases hq with hq | ⟨hq, hch⟩
    rotate_left
    focus
      rw [hch] at c18
      rw [hch] at W18
    all_goals
      have lTW := bTW.lt
      rw [hW] at W18 W0 lTW
      go_wp2_with fail
      rw [← hW]
      clear hW W18 W0 lTW lk c1 c5 c17 c18 c0 lT
      refine (getF_dev D B x a W hDW).mono ?_
      rintro e w2 ⟨hb2, rfl⟩
      have B2 := BW.trans (hb2.mono BW.size)
      generalize x.ge a = GE at *
      generalize x.fr a = f at *
      obtain ⟨fk, fs, fd⟩ := f
      obtain ⟨w3, hw3⟩ : ∃ w3, w3 = w2.alloc (.cells #[.int .i64 fk, .int .u32 fs, .string fd] 26) := ⟨_, rfl⟩
      have bF : Blk w3 w2.heap.size 26 #[.int .i64 fk, .int .u32 fs, .string fd] := by rw [hw3]; exact Blk.new _ _ _
      have B3 : Below w.heap.size w w3 := by rw [hw3]; exact B2.alloc B2.size _
      have e0 : w3.cell? ⟨w2.heap.size, 0, none⟩ = some (.int .i64 fk) := (bF.cells 0).trans rfl
      have e2 : w3.cell? ⟨w2.heap.size, 2, none⟩ = some (.string fd) := (bF.cells 2).trans rfl
      have lF := bF.lt
      go_wp2_with fail
      rw [← hw3]
      clear hw3
      go_quiet (fail)
      go_wp2_with fail
      rw [HV.out]
      refine bodyPost_ret (v := .tuple #[.int .i64 fk, .string fd, .int .i64 GE]) (by simp [results, Tryz.results59, go_sem]) rfl ?_
      exact ⟨rfl, below_drewN' B3 _⟩

theorem read_tx (T : Nat) (F : List Nat) (D : Nat) (y : TxS) (B : List Nat) (x : DevS) (a : Int) (w : World) (h : TxAt w T F D y) (hd : DevAt w D B x) :
    Calls Tryz.prog 59 #[.pointer (some ⟨T, 0, none⟩), .int .i64 a] w fun e w' => e = .returned (.tuple #[.int .i64 (y.read x a).1, .string (y.read x a).2.1, .int .i64 (y.read x a).2.2]) ∧ Below w.heap.size w w' := by
  unfold TxS.read
  by_cases hE : y.stateE = 0
  · rw [if_neg (by simpa using hE)]
    by_cases ha : a < 0 ∨ y.s ≤ a
    · rw [if_pos ha]; exact txread_range T F D y a w h hE ha
    · rw [if_neg ha]; exact txread_in T F D y B x a w h hd hE (by omega)
  · rw [if_pos (by simpa using hE)]; exact txread_bad _ _ a w h.st hE

end Go.Proofs.YtloddiipepiocaaGreatDoor
/- Layer 10: what a deferred fails leaves; a transaction with one more write. -/
namespace Go.Proofs.YtloddiipepiocaaGreatDoor
open Go.RowKit Go.Maps

def TxS.after (y : TxS) (E : Int) : TxS := if badE E = true then y.brk else y
theorem badE_no {E : Int} (h : E = 0 ∨ E = 1 ∨ E = 9) : badE E = false := by unfold badE; rcases h with rfl | rfl | rfl <;> decide
theorem badE_yes {E : Int} (h0 : E ≠ 0) (h1 : E ≠ 1) (h9 : E ≠ 9) : badE E = true := by unfold badE; simp [h0, h1, h9]

/-- Behind a function's body with one deferred call of fails. -/
theorem leave_fails {fn : Func} {tmps : Array Value} {Rp : Ending → World → Prop} {T R : Nat} {F : List Nat} {D : Nat} {y : TxS} {E : Int} {W : World} (hT : TxAt W T F D y) (bR : Blk W R 34 #[.int .i64 E]) (hRF : R ∉ F)
    (h : ∀ W', TxAt W' T F D (y.after E) → Blk W' R 34 #[.int .i64 E] → Grow W F W' F → ∃ v, (results fn tmps).run Tryz.prog W' = .ok v W' ∧ Rp (.returned v) W') :
    Leaves Tryz.prog fn tmps Rp [{ target := .fn (.func 114) #[], args := #[.pointer (some ⟨T, 0, none⟩), .pointer (some ⟨R, 0, none⟩)] }] .returning W := by
  have cR := (bR.cells 0).trans rfl
  refine leaves_cons (f := 114) (args := #[.pointer (some ⟨T, 0, none⟩), .pointer (some ⟨R, 0, none⟩)]) (by simp) (by simp [go_sem]) ?_
  by_cases hE : E = 0 ∨ E = 1 ∨ E = 9
  · refine (fails_goodD T R E .returning W cR bR.lt hE).mono ?_
    rintro e u' w' ⟨rfl, rfl, rfl⟩
    refine h _ ?_ bR (Grow.refl _ _)
    unfold TxS.after
    rw [badE_no hE, if_neg (by simp)]
    exact hT
  · have h0 : E ≠ 0 := fun e => hE (.inl e)
    have h1 : E ≠ 1 := fun e => hE (.inr (.inl e))
    have h9 : E ≠ 9 := fun e => hE (.inr (.inr e))
    refine (fails_badD T R F D y E .returning W hT cR bR.lt h0 h1 h9).mono ?_
    rintro e u' w' ⟨rfl, rfl, rfl⟩
    have hTF : T ∈ F := by obtain ⟨-, ⟨M, wv, nv, -, hT, -⟩, -⟩ := hT; exact hT
    refine h _ ?_ (bR.far (fun e => hRF (by rw [e]; exact hTF)) _) ?_
    · unfold TxS.after
      rw [badE_yes h0 h1 h9, if_pos rfl]
      exact hT.broken
    · refine ⟨⟨rfl, rfl, rfl, by simp, fun b _ hn => Below.heap_setCell W _ _ b (fun e => hn (by rw [e]; exact hTF))⟩, fun b hb => .inl hb⟩

theorem own_exact {w : World} {M n : Nat} {E : DataW Unit} (h : w.ownsMap Tryz.prog 3 recR M n E) : w.ownsMap Tryz.prog 3 recR M (Maps.size E) E := by
  obtain ⟨es, clock, hb, F, hle, rfl⟩ := h
  exact ⟨es, clock, hb, F, by simp [Maps.size, Go.length_sorted], rfl⟩

/-- The block of the writes. -/
theorem TxAt.puts {w w' : World} {T M : Nat} {F : List Nat} {D : Nat} {y : TxS} {wv nv : Value} {r : Rec} {E : DataW Unit} {n : Nat} (ok : y.Ok) (bT : Blk w T 126 (txC D y.s y.j y.i wv nv M y.changed y.broken y.ended)) (hT : T ∈ F) (hM : M ∈ F) (hMT : M ≠ T) (hE : RecMap E y.writes)
    (hw : SlB w F T M wv y.was) (hn : SlB w F T M nv y.now) (lt : ∀ b ∈ F, 0 < b ∧ b < w.heap.size)
    (hO : w'.ownsMap Tryz.prog 3 recR M n (E.put (.int .i64 r.at_) (recD r))) (hg : w.grownBy w' (some M))
    (hr : 0 ≤ r.at_ ∧ r.at_ < y.s ∧ 1 ≤ r.kind ∧ r.kind ≤ 255 ∧ r.data.data.size ≤ 112) (hl : (atRec y.writes r.at_).isSome = true ∨ 1 ≤ y.left) :
    TxAt w' T F D { y with writes := insRec y.writes r } := by
  have hb : ∀ b, b < w.heap.size → b ≠ M → w'.heap[b]? = w.heap[b]? := fun b hb hne => hg.block b hb (fun e => hne (by cases e; rfl))
  have hs : w.heap.size ≤ w'.heap.size := hg.size
  have sl : ∀ v l, SlB w F T M v l → SlB w' F T M v l := by
    rintro v l ⟨A, c, h1, h2, h3⟩
    refine ⟨A, c, h1, ?_, h3⟩
    rcases h2 with h2 | ⟨b, off, rfl, hl, hc⟩
    · exact .inl h2
    · exact .inr ⟨b, off, rfl, Nat.lt_of_lt_of_le hl hs, fun k u hu => (World.cell?_of_block (w := w) (a := ⟨b, off + k, none⟩) (hb b hl (h3 _ rfl).2.2)).trans (hc k u hu)⟩
  have hO2 := own_exact hO
  have hput := hE.put r
  rw [hput.size_] at hO2
  refine ⟨⟨ok.rg, ok.was, ok.now, fun q hq => ?_, ?_⟩, ⟨M, wv, nv, (hb T (lt T hT).2 (Ne.symm hMT)).trans bT, hT, hM, hMT, ⟨_, hput, hO2⟩, sl _ _ hw, sl _ _ hn⟩, fun b hm => ⟨(lt b hm).1, Nat.lt_of_lt_of_le (lt b hm).2 hs⟩⟩
  · rcases insRec_mem hq with rfl | hq
    · exact hr
    · exact ok.recs q hq
  · have h1 := ok.len
    have h2 := insRec_length hE.asc r
    unfold TxS.left at h1 hl ⊢
    show 0 ≤ y.most - ((insRec y.writes r).length : Int) - _
    rw [h2]
    split
    · exact h1
    · rename_i h3
      rcases hl with hl | hl
      · exact absurd hl h3
      · simp only; omega

end Go.Proofs.YtloddiipepiocaaGreatDoor
/- Layer 10: Write. -/
namespace Go.Proofs.YtloddiipepiocaaGreatDoor
open Go.RowKit Go.Maps

theorem leave_did {fn : Func} {tmps : Array Value} {Rp : Ending → World → Prop} {T R : Nat} {F0 F : List Nat} {D : Nat} {y : TxS} {E : Int} {v : Value} {w V : World} (hT : TxAt V T F D y) (bR : Blk V R 34 #[.int .i64 E]) (hRF : R ∉ F) (hG : Grow w F0 V F)
    (hres : ∀ W', W'.cell? ⟨R, 0, none⟩ = some (.int .i64 E) → R < W'.heap.size → (results fn tmps).run Tryz.prog W' = .ok v W') (hP : ∀ W', TxAt W' T F D (y.after E) → Grow w F0 W' F → Grow V F W' F → Rp (.returned v) W') :
    Leaves Tryz.prog fn tmps Rp [{ target := .fn (.func 114) #[], args := #[.pointer (some ⟨T, 0, none⟩), .pointer (some ⟨R, 0, none⟩)] }] .returning V :=
  leave_fails hT bR hRF fun W' hT' bR' hg => ⟨v, hres W' ((bR'.cells 0).trans rfl) bR'.lt, hP W' hT' (hG.trans hg) hg⟩

theorem res_cell1 {fn : Func} {tmps : Array Value} {W : World} {R n : Nat} {t : TypeId} {E : Int} (hr : fn.results = #[.cell n t]) (hn : tmps.getD n undef = .pointer (some ⟨R, 0, none⟩)) (ht : t = 34) (hc : W.cell? ⟨R, 0, none⟩ = some (.int .i64 E)) : (results fn tmps).run Tryz.prog W = .ok (.int .i64 E) W := by
  subst ht
  rw [Array.getD_eq_getD_getElem?] at hn
  simp [results, hr, hn, go_sem, hc]

theorem TxS.after_bad {y : TxS} {E : Int} (h0 : E ≠ 0) (h1 : E ≠ 1) (h9 : E ≠ 9) : y.after E = y.brk := by unfold TxS.after; rw [badE_yes h0 h1 h9, if_pos rfl]
theorem TxS.after_0 {y : TxS} : y.after 0 = y := by unfold TxS.after; rw [badE_no (.inl rfl), if_neg (by simp)]

theorem TxAt.TF {w : World} {T : Nat} {F : List Nat} {D : Nat} {y : TxS} (h : TxAt w T F D y) : T ∈ F := by obtain ⟨-, ⟨M, wv, nv, -, hT, -⟩, -⟩ := h; exact hT
theorem TxAt.drewN {w : World} {T : Nat} {F : List Nat} {D : Nat} {y : TxS} (h : TxAt w T F D y) (n : Nat) : TxAt (w.drewN n) T F D y := h.below (below_drewN' (Below.refl _ _) n)
theorem Blk.drewN {w : World} {g : Nat} {t : TypeId} {cs : Array Value} (h : Blk w g t cs) (n : Nat) : Blk (w.drewN n) g t cs := h.belowAll (below_drewN' (Below.refl _ _) n)

theorem Grow.cellAt {w V : World} {F F' : List Nat} (h : Grow w F V F') {p : Addr} (hp : w.heap.size ≤ p.block) (u : Value) : Grow w F (V.setCell p u) F' :=
  ⟨h.keep.trans (KeepEx.setCell V (.inr hp) u), h.new⟩

set_option maxRecDepth 100000 in
set_option maxHeartbeats 2000000 in
theorem txwrite_bad (tv : Value) (E a k : Int) (d : ByteArray) (w : World) (h : StE w tv E) (hE : E ≠ 0) :
    Calls Tryz.prog 58 #[tv, .int .i64 a, .int .i64 k, .string d] w fun e w' => e = .returned (.int .i64 E) ∧ Below w.heap.size w w' := by
  obtain ⟨wA, hA⟩ : ∃ wA, wA = w.alloc (.cells #[.int .i64 0] 34) := ⟨_, rfl⟩
  have bR : Blk wA w.heap.size 34 #[.int .i64 0] := by rw [hA]; exact (by (repeat' (first | (with_reducible assumption) | exact Blk.new' (by simp) | refine Blk.alloc ?_ _)))
  have BA : Below w.heap.size w wA := by rw [hA]; (repeat' (first | (with_reducible exact Below.refl _ _) | (with_reducible assumption) | (with_reducible refine Below.alloc ?_ ?_ _) | (with_reducible refine Below.drew ?_) | (with_reducible refine below_drewN' ?_ _) | (with_reducible refine Below.setCell ?_ ?_ _) | (with_reducible exact Nat.le_refl _) | omega | (simp; done) | (simp; omega)))
  have hst := state_any tv E wA (h.below BA)
  have hE' : (E != 0) = true := by simpa using hE
  clear hE
  go_enter_defers Tryz.func58, Tryz.ntmps58
  go_wp2_with fail
  rw [← hA]
  go_wp2_with fail
  refine hst.mono ?_
  rintro e w1 ⟨rfl, hb1⟩
  have B1 := BA.trans (hb1.mono BA.size)
  have bR1 := bR.belowAll hb1
  clear hA hst hb1 bR BA
  have cR := bR1.cells
  have lR := bR1.lt
  have fR := bR1.free
  go_wp2_with fail
  have cF := (bR1.set_ 0 (.int .i64 E)).cells
  refine ⟨.int .i64 E, res_cell1 (n := 8) (t := 34) (by rfl) (by simp) rfl ((cF 0).trans rfl), rfl, ?_⟩
  exact Below.setCell (p := ⟨w.heap.size, 0, none⟩) B1 (Nat.le_refl _) _

theorem TxS.write_err {y : TxS} {a k : Int} {d : ByteArray} {E : Int} (hs : y.stateE = 0) (h : y.writeE a k d.size = E) (h0 : E ≠ 0) : y.write a k d = (E, y.brk) := by
  unfold TxS.write; rw [if_neg (by simpa using hs), if_pos (by rw [h]; exact h0), h]
theorem TxS.write_ok {y : TxS} {a k : Int} {d : ByteArray} (hs : y.stateE = 0) (h : y.writeE a k d.size = 0) : y.write a k d = (0, { y with writes := insRec y.writes ⟨a, k, d⟩ }) := by
  unfold TxS.write; rw [if_neg (by simpa using hs), if_neg (by simpa using h)]

end Go.Proofs.YtloddiipepiocaaGreatDoor
