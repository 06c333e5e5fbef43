/- Layer 10: Take. -/
import Derived.Test.YtloddiipepiocaaGreatDoorPart37
set_option linter.unusedVariables false
set_option linter.unusedSimpArgs false
namespace Go.Proofs.YtloddiipepiocaaGreatDoor
open Go.RowKit Go.Maps

theorem res_tmp_cell {fn : Func} {tmps : Array Value} {W : World} {R m n : Nat} {t : TypeId} {E : Int} {v : Value} (hr : fn.results = #[.tmp m, .cell n t]) (hm : tmps.getD m undef = v) (hn : tmps.getD n undef = .pointer (some ⟨R, 0, none⟩)) (ht : t = 34) (hc : W.cell? ⟨R, 0, none⟩ = some (.int .i64 E)) : (results fn tmps).run Tryz.prog W = .ok (.tuple #[v, .int .i64 E]) W := by
  subst ht
  rw [Array.getD_eq_getD_getElem?] at hn hm
  simp [results, hr, hn, hm, go_sem, hc]

/-- In a function that defers: a region that does not panic. -/
def noPanic (Q : Exit → Act → World → Prop) : Exit → Act → World → Prop
  | .panic _, _, _ => False
  | e, a, w => Q e a w
theorem noPanic_to {Q : Exit → Act → World → Prop} : ∀ e a w, noPanic Q e a w → Q e a w := fun e a w h => by cases e <;> first | exact h | exact h.elim
theorem wp_region_calm {P : Program} {id : Nat} {ops : Array Oper} {b : Bool} {Q : Exit → Act → World → Prop} {a : Act} {w : World} (h : (Code.region id ops b).wp P (noPanic Q) a w) : (Code.region id ops b).wp P Q a w := wp_mono h noPanic_to

def TakeDid (w : World) (T : Nat) (F : List Nat) (D : Nat) (E : Int) (y : TxS) (L : List Int) (e : Ending) (w' : World) : Prop :=
  ∃ v, e = .returned (.tuple #[v, .int .i64 E]) ∧ w'.ownsRow w.heap.size 3 1 v L.length (L.map (.int .i64)) ∧ ∃ F', TxAt w' T F' D y ∧ Grow w F w' F' ∧ ∀ q, v.ownBlock = some q → q ∉ F'

theorem AlE_vals {s j i : Int} {us : List Bool} {near many : Int} (hC : CkE s j i us.length = 0) : AlE s j i us near many = 0 ∨ AlE s j i us near many = 7 ∨ AlE s j i us near many = 11 := by
  unfold AlE
  rw [if_pos hC]
  split
  · exact .inr (.inl rfl)
  · split
    · exact .inr (.inr rfl)
    · exact .inl rfl
theorem AlE_near {s j i : Int} {us : List Bool} {near many : Int} (hC : CkE s j i us.length = 0) (h : AlE s j i us near many = 0) : near.toNat < us.length := by
  unfold AlE at h
  rw [if_pos hC] at h
  split at h
  · cases h
  · omega
theorem take_a {y : TxS} {near many : Int} (hs : y.stateE = 0) (h : AlE y.s y.j y.i y.may near many ≠ 0) : y.take near many = (AlE y.s y.j y.i y.may near many, y.brk) ∧ y.takeL near many = [] := by
  have e : y.takeE near many = AlE y.s y.j y.i y.may near many := by unfold TxS.takeE; rw [if_pos h]
  constructor
  · unfold TxS.take; rw [if_neg (by simpa using hs), e, if_pos h]
  · unfold TxS.takeL; rw [if_neg (by simpa using hs), e, if_pos h]
theorem take_b {y : TxS} {near many : Int} (hs : y.stateE = 0) (h : AlE y.s y.j y.i y.may near many = 0) (L : List Int) (hL : allocd y.may near.toNat many.toNat = L) :
    y.take near many = (y.changeE L.length, (y.change (setAll y.now L true) L.length).after (y.changeE L.length)) ∧ y.takeL near many = if y.changeE L.length = 0 then L else [] := by
  subst hL
  have e : y.takeE near many = y.changeE (allocd y.may near.toNat many.toNat).length := by unfold TxS.takeE; rw [if_neg (by simpa using h)]
  have hs' : ¬ y.stateE ≠ 0 := by simpa using hs
  rcases changeE_vals y (allocd y.may near.toNat many.toNat).length with h | ⟨h, h2⟩
  · have h' : ¬ y.changeE (allocd y.may near.toNat many.toNat).length ≠ 0 := by simpa using h
    constructor
    · unfold TxS.take; rw [if_neg hs', e, if_neg h', h, TxS.after_0]
    · unfold TxS.takeL; rw [if_neg hs', e, if_neg h', if_pos h]
  · have h' : y.changeE (allocd y.may near.toNat many.toNat).length ≠ 0 := by rw [h]; decide
    constructor
    · unfold TxS.take; rw [if_neg hs', e, if_pos h', h, h2, TxS.after_bad (by decide) (by decide) (by decide)]
    · unfold TxS.takeL; rw [if_neg hs', e, if_pos h', if_neg (by rw [h]; decide)]

set_option maxRecDepth 100000 in
set_option maxHeartbeats 2000000 in
theorem txtake_bad (tv : Value) (near many : Int) (E : Int) (w : World) (h : StE w tv E) (hE : E ≠ 0) :
    Calls Tryz.prog 57 #[tv, .int .i64 near, .int .i64 many] w fun e w' => e = .returned (.tuple #[.slice none 0 0, .int .i64 E]) ∧ Below w.heap.size w w' := by
  obtain ⟨wA, hA⟩ : ∃ wA, wA = w.alloc (.cells #[.int .i64 0] 34) := ⟨_, rfl⟩
  have bR : Blk wA w.heap.size 34 #[.int .i64 0] := by rw [hA]; exact (by (repeat' (first | (with_reducible assumption) | exact Blk.new' (by simp) | refine Blk.alloc ?_ _)))
  have BA : Below w.heap.size w wA := by rw [hA]; (repeat' (first | (with_reducible exact Below.refl _ _) | (with_reducible assumption) | (with_reducible refine Below.alloc ?_ ?_ _) | (with_reducible refine Below.drew ?_) | (with_reducible refine below_drewN' ?_ _) | (with_reducible refine Below.setCell ?_ ?_ _) | (with_reducible exact Nat.le_refl _) | omega | (simp; done) | (simp; omega)))
  have hst := state_any tv E wA (h.below BA)
  have hE' : (E != 0) = true := by simpa using hE
  clear hE
  go_enter_defers Tryz.func57, Tryz.ntmps57
  go_wp2_with fail
  rw [← hA]
  go_wp2_with fail
  refine hst.mono ?_
  rintro e w1 ⟨rfl, hb1⟩
  have B1 := BA.trans (hb1.mono BA.size)
  have bR1 := bR.belowAll hb1
  clear hA hst hb1 bR BA
  have cR := bR1.cells
  have lR := bR1.lt
  have fR := bR1.free
  go_wp2_with fail
  have cF := (bR1.set_ 0 (.int .i64 E)).cells
  refine ⟨.tuple #[.slice none 0 0, .int .i64 E], res_tmp_cell (m := 6) (n := 7) (t := 34) (by rfl) (by simp) (by simp) rfl ((cF 0).trans rfl), rfl, ?_⟩
  exact Below.setCell (p := ⟨w.heap.size, 0, none⟩) B1 (Nat.le_refl _) _

set_option maxRecDepth 100000 in
set_option maxHeartbeats 4000000 in
theorem txtake_in (T : Nat) (F : List Nat) (D : Nat) (y : TxS) (near many : Int) (w : World) (h : TxAt w T F D y) (hE : y.stateE = 0) :
    Calls Tryz.prog 57 #[.pointer (some ⟨T, 0, none⟩), .int .i64 near, .int .i64 many] w (TakeDid w T F D (y.take near many).1 (y.take near many).2 (y.takeL near many)) := by
  obtain ⟨wA, hA⟩ : ∃ wA, wA = w.alloc (.cells #[.int .i64 0] 34) := ⟨_, rfl⟩
  have bR : Blk wA w.heap.size 34 #[.int .i64 0] := by rw [hA]; exact (by (repeat' (first | (with_reducible assumption) | exact Blk.new' (by simp) | refine Blk.alloc ?_ _)))
  have BA : Below w.heap.size w wA := by rw [hA]; (repeat' (first | (with_reducible exact Below.refl _ _) | (with_reducible assumption) | (with_reducible refine Below.alloc ?_ ?_ _) | (with_reducible refine Below.drew ?_) | (with_reducible refine below_drewN' ?_ _) | (with_reducible refine Below.setCell ?_ ?_ _) | (with_reducible exact Nat.le_refl _) | omega | (simp; done) | (simp; omega)))
  have hTA := h.below BA
  have hst := state_any _ _ wA hTA.st
  rw [hE] at hst
  have HS := Lib.hid hE
  have hRF : w.heap.size ∉ F := h.far (Nat.le_refl _)
  have H0 : Hid (0 < w.heap.size) := Lib.hid (by have := h.lt T h.TF; omega)
  have HCK := Lib.hid (ok_ckE h.ok)
  have HML : Hid (y.may.length = y.now.length) := Lib.hid (orL_length (h.ok.now.trans h.ok.was.symm))
  have HWL : Hid (y.now.length = y.was.length) := Lib.hid (h.ok.now.trans h.ok.was.symm)
  have HNL : Hid (y.now.length ≤ 1000) := Lib.hid (by have := h.ok.bds; omega)
  clear hE
  go_enter_defers Tryz.func57, Tryz.ntmps57
  go_wp2_with fail
  rw [← hA]
  go_wp2_with fail
  refine hst.mono ?_
  rintro e w1 ⟨rfl, hb1⟩
  have hT1 := hTA.below hb1
  have bR1 := bR.belowAll hb1
  have B1 := BA.trans (hb1.mono BA.size)
  clear hA hst hb1 bR BA hTA h
  go_wp2_with fail
  refine (may_tx T F D y w1 hT1).mono ?_
  rintro e w2 ⟨gm, cm, rfl, hom, hb2⟩
  have hT2 := hT1.below hb2
  have bR2 := bR1.belowAll hb2
  have B2 := B1.trans (hb2.mono B1.size)
  clear hb2
  have hAl : Calls Tryz.prog 115 #[.agg #[.int .i64 y.s, .int .i64 y.j, .int .i64 y.i, .slice (some ⟨gm, 0, none⟩) y.now.length cm], .int .i64 near, .int .i64 many] w2 (AlPost y.s y.j y.i (some ⟨gm, 0, none⟩) cm y.may near many w2) := by
    have h := alloc_any y.s y.j y.i (some ⟨gm, 0, none⟩) cm y.may near many w2 (by rw [HML.out]; exact HNL.out) (Reads.of_own (n := y.may.length) (c := cm) (by rw [HML.out]; exact hom))
    rwa [HML.out] at h
  clear hom
  go_wp2_with fail
  refine hAl.mono ?_
  rintro e w3 ⟨hb3, hpost⟩
  have hT3 := hT2.below hb3
  have bR3 := bR2.belowAll hb3
  have B3 := B2.trans (hb3.mono B2.size)
  clear hAl hb3
  have hAC : CkE y.s y.j y.i y.may.length = 0 := by rw [HML.out]; exact HCK.out
  have cR3 := bR3.cells
  have lR3 := bR3.lt
  have fR3 := bR3.free
  rcases hpost with ⟨hne, rfl⟩ | ⟨h0, g, cap, av, cv, rfl, -, hol⟩
  · have HX := Lib.hid (take_a HS.out hne)
    have HV := Lib.hid (AlE_vals (near := near) (many := many) hAC)
    have HN := Lib.hid hne
    rw [HML.out]
    generalize AlE y.s y.j y.i y.may near many = E at *
    have hE' : (E != 0) = true := by simpa using hne
    clear hne hAC
    go_wp2_with fail
    have bRs := bR3.set_ 0 (.int .i64 E)
    have cRs : (w3.setCell ⟨w.heap.size, 0, none⟩ (.int .i64 E)).drew.cell? ⟨w.heap.size, 0, none⟩ = some (.int .i64 E) := (bRs.drew.cells 0).trans rfl
    have HCR := Lib.hid cRs
    clear cRs
    refine wp_region_calm ?_
    refine wp_region_mix [.take 0, .take 1, .one 2] 2 (fun w' => w'.cell? ⟨w.heap.size, 0, none⟩ = some (.int .i64 E)) (by kernel_rfl) (by kernel_rfl) (fun _ _ _ _ _ h => h.elim) HCR.out ?_
    simp only [List.map_cons, List.map_nil, Ms.fill, List.getD_cons_zero, List.getD_cons_succ]
    iterate 2 (refine mixT_take (by rfl) ?_ (fun w' hw' => ?_) ?_; rotate_left; (focus (go_simp; (try with_reducible rfl))); (try simp only [Act.put, List.setIfInBounds_toArray, List.set_cons_zero, List.set_cons_succ]))
    refine mixT_step (by rfl) fun K hK => ?_
    go_simp
    refine hK _ _ (fun h => absurd h (by decide)) ?_
    clear hK K
    refine mixT_nil ?_
    unfold noPanic
    have hTS := (((hT3.set_ (p := ⟨w.heap.size, 0, none⟩) hRF (.int .i64 E)).set_ (p := ⟨w.heap.size, 0, none⟩) hRF (.int .i64 E))).drew
    have bRS := ((bR3.set_ 0 (.int .i64 E)).set_ 0 (.int .i64 E)).drew
    have BS := ((B3.setCell (p := ⟨w.heap.size, 0, none⟩) (Nat.le_refl _) (.int .i64 E)).setCell (p := ⟨w.heap.size, 0, none⟩) (Nat.le_refl _) (.int .i64 E)).drew
    go_wp2_with fail
    refine leave_did (E := E) (F0 := F) hTS bRS hRF (Grow.of_below BS F) (fun W' hc _ => res_tmp_cell (m := 6) (n := 7) (v := .slice none 0 0) (t := 34) (by rfl) (by simp) (by simp) rfl hc) (fun W' hT' hg _ => ?_)
    rw [TxS.after_bad HN.out (by have := HV.out; omega) (by have := HV.out; omega)] at hT'
    exact ⟨_, by rw [HX.out.1], by rw [HX.out.2]; exact World.ownsRow_nil _ _ _ _, F, by rw [HX.out.1]; exact hT', hg, fun q hq => by cases hq⟩
  · have hnear := AlE_near hAC h0
    have HX := Lib.hid (take_b HS.out h0 _ rfl)
    have hin := allocd_in (us := y.may) (near := near.toNat) (many := many.toNat) (by omega)
    have HTK : Hid (TnE y.s y.j y.i y.now (allocd y.may near.toNat many.toNat) true 9 = 0) := Lib.hid (take_may HWL.out HCK.out (by rw [← HML.out]; exact hnear))
    have hLl : (allocd y.may near.toNat many.toNat).length ≤ 1000 := by
      have h1 : (allocd y.may near.toNat many.toNat).length ≤ (frees y.may near.toNat).length := by unfold allocd; rw [List.length_take]; omega
      have h2 := goRound_le y.may near.toNat y.may.length
      have h3 := HNL.out
      have h4 := HML.out
      unfold frees at h1
      omega
    generalize allocd y.may near.toNat many.toNat = L at *
    rw [HML.out]
    clear hnear hAC h0 hin
    obtain ⟨w4, hw4⟩ : ∃ w4, w4 = w3.setCell ⟨w.heap.size, 0, none⟩ (.int .i64 0) := ⟨_, rfl⟩
    have hT4 : TxAt w4 T F D y := by rw [hw4]; exact hT3.set_ (p := ⟨w.heap.size, 0, none⟩) hRF _
    have bR4 : Blk w4 w.heap.size 34 #[.int .i64 0] := by rw [hw4]; exact bR3.set_ 0 _
    have B4 : Below w.heap.size w w4 := by rw [hw4]; exact B3.setCell (p := ⟨w.heap.size, 0, none⟩) (Nat.le_refl _) _
    have ho4 : w4.ownsRow w2.heap.size 3 1 (.slice av L.length cv) L.length (L.map (.int .i64)) := by rw [hw4]; exact ownsRow_setCell_below hol (by have := bR2.lt; exact this) _
    have HW4 := Lib.hid hw4
    have cR4 : w4.cell? ⟨w.heap.size, 0, none⟩ = some (.int .i64 0) := (bR4.cells 0).trans rfl
    have lR4 := bR4.lt
    have fR4 := bR4.free
    have hTT := hT3
    obtain ⟨ok, ⟨M, wv, nv, bT, hT, hM, hMT, hO, hw, ⟨A, c, rfl, hn, hnF⟩⟩, lt⟩ := hTT
    have c13 : w3.cell? ⟨T, 13, none⟩ = some (.int .i64 y.s) := (bT.cells 13).trans rfl
    have c14 : w3.cell? ⟨T, 14, none⟩ = some (.int .i64 y.j) := (bT.cells 14).trans rfl
    have c15 : w3.cell? ⟨T, 15, none⟩ = some (.int .i64 y.i) := (bT.cells 15).trans rfl
    have c16 : w3.cell? ⟨T, 16, none⟩ = some (.slice A y.now.length c) := (bT.cells 16).trans rfl
    have lT := bT.lt
    have hn4 : Reads w4 A (y.now.map .bool) := by
      rcases hn with h0 | ⟨b, off, he, hlt, hc⟩
      · exact .inl h0
      · exact .inr ⟨b, off, he, by rw [HW4.out]; simpa using hlt, fun k u hu => by rw [HW4.out]; exact (World.cell?_of_block (w := w3) (a := ⟨b, off + k, none⟩) (Below.heap_setCell w3 ⟨w.heap.size, 0, none⟩ _ b (fun e => hRF (by have h9 := (hnF _ he).1; have e2 : b = w.heap.size := e; subst e2; exact h9)))).trans (hc k u hu)⟩
    clear bT hT hM hMT hO hw hnF lt ok hol hw4 hn
    go_wp2_with fail
    rw [← HW4.out]
    refine (take_any y.s y.j y.i A av c cv y.now L HNL.out hLl w4 hn4 (Reads.of_own ho4)).mono ?_
    rintro e w5 ⟨hb5, hpost⟩
    rcases hpost with ⟨hne, -⟩ | ⟨-, g2, cap2, rfl, hown⟩
    · exact absurd HTK.out hne
    have HLB : Hid (∀ q, (Value.slice av L.length cv).ownBlock = some q → q < w4.heap.size) := Lib.hid fun q hq => by
      rcases ho4.2 with ⟨he, -⟩ | ⟨g', cap', cur, he, -, hk, -⟩
      · rw [he] at hq; cases hq
      · rw [he] at hq; cases hq; exact (Array.getElem?_eq_some_iff.1 hk).1
    have hT5 := hT4.below hb5
    have bR5 := bR4.belowAll hb5
    have B5 := B4.trans (hb5.mono B4.size)
    have ho5 := own_below (W := w4) ho4 hb5
    have hus := setAll_length y.now L true
    generalize setAll y.now L true = us at *
    have z1 := hT1.lt T hT1.TF
    have z12 := B2.size
    have z4 := B4.size
    have hgl := hown.lt g2 rfl
    have hgF : g2 ∉ F := fun hm => by have := (hT4.lt g2 hm).2; omega
    have zR := bR4.lt
    have zR2 := bR2.lt
    have g0 : 0 < g2 := by have := H0.out; omega
    have HG : Hid (w.heap.size ≤ g2) := Lib.hid (by omega)
    obtain ⟨w6, hw6⟩ : ∃ w6, w6 = w5.setCell ⟨w.heap.size, 0, none⟩ (.int .i64 0) := ⟨_, rfl⟩
    have hT6 : TxAt w6 T F D y := by rw [hw6]; exact hT5.set_ (p := ⟨w.heap.size, 0, none⟩) hRF _
    have bR6 : Blk w6 w.heap.size 34 #[.int .i64 0] := by rw [hw6]; exact bR5.set_ 0 _
    have B6 : Below w.heap.size w w6 := by rw [hw6]; exact B5.setCell (p := ⟨w.heap.size, 0, none⟩) (Nat.le_refl _) _
    have hg6 : w6.ownsRow w4.heap.size 4 1 (.slice (some ⟨g2, 0, none⟩) y.now.length cap2) y.now.length (us.map .bool) := by rw [hw6]; exact ownsRow_setCell_below hown zR _
    have ho6 : w6.ownsRow w2.heap.size 3 1 (.slice av L.length cv) L.length (L.map (.int .i64)) := by rw [hw6]; exact ownsRow_setCell_below ho5 zR2 _
    have z6 : w6.heap.size = w5.heap.size := by rw [hw6]; simp
    obtain ⟨w7, hw7⟩ : ∃ w7, w7 = w6.alloc (.cells #[.int .i64 y.s, .int .i64 y.j, .int .i64 y.i, .slice (some ⟨g2, 0, none⟩) y.now.length cap2] 53) := ⟨_, rfl⟩
    have hT7 : TxAt w7 T F D y := by rw [hw7]; exact hT6.alloc _
    have bR7 : Blk w7 w.heap.size 34 #[.int .i64 0] := by rw [hw7]; exact bR6.alloc _
    have bS7 : Blk w7 w5.heap.size 53 #[.int .i64 y.s, .int .i64 y.j, .int .i64 y.i, .slice (some ⟨g2, 0, none⟩) y.now.length cap2] := by rw [hw7, ← z6]; exact Blk.new _ _ _
    have B7 : Below w.heap.size w w7 := by rw [hw7]; exact B6.alloc B6.size _
    have hg7 : w7.ownsRow w4.heap.size 4 1 (.slice (some ⟨g2, 0, none⟩) y.now.length cap2) y.now.length (us.map .bool) := by rw [hw7]; exact own_below (W := w6) hg6 ((Below.refl _ _).alloc (Nat.le_refl _) _)
    have ho7 : w7.ownsRow w2.heap.size 3 1 (.slice av L.length cv) L.length (L.map (.int .i64)) := by rw [hw7]; exact own_below (W := w6) ho6 ((Below.refl _ _).alloc (Nat.le_refl _) _)
    rw [hw6] at hw7
    have HW7 := Lib.hid hw7
    have HC : Calls Tryz.prog 117 #[.pointer (some ⟨T, 0, none⟩), .agg #[.int .i64 y.s, .int .i64 y.j, .int .i64 y.i, .slice (some ⟨g2, 0, none⟩) y.now.length cap2], .slice av L.length cv] w7 fun e w' => e = .returned (.int .i64 (y.changeE L.length)) ∧ ∃ F', TxAt w' T F' D (y.change us L.length) ∧ KeepEx w7.heap.size F w7 w' ∧ ∀ b ∈ F', b ∈ F ∨ b = g2 := by
      have h := change_tx T F D y g2 cap2 L.length cv av us hus w7 hT7 (Reads.of_own (n := us.length) (c := cap2) (by rw [hus]; exact hg7)) g0 hgF
      rwa [hus] at h
    have cR5 := bR5.cells
    have lR5 := bR5.lt
    have fR5 := bR5.free
    clear hw7 hw6 z6 hT6 bR6 B6 hg6 ho6 hus hown ho5 ho4 c13 c14 c15 c16 lT hn4
    go_wp2_with fail
    rw [← HW7.out]
    have cR7 := bR7.cells
    have lR7 := bR7.lt
    have fR7 := bR7.free
    have cS7 := bS7.cells
    have lS7 := bS7.lt
    go_wp2_with fail
    refine HC.mono ?_
    rintro e w8 ⟨rfl, F', hT8, hk8, hF8⟩
    have bR8 : Blk w8 w.heap.size 34 #[.int .i64 0] := hk8.blk bR7 lR7 hRF
    have hRF' : w.heap.size ∉ F' := fun hm => by
      rcases hF8 _ hm with hm | hm
      · exact hRF hm
      · omega
    have z7 := B7.size
    have G8 : Grow w F w8 F' := ⟨(KeepEx.of_below B7).trans ⟨hk8.os, hk8.tape, hk8.output, hk8.size, fun b hb hn => hk8.block b (by omega) hn⟩, fun b hb => by
      rcases hF8 b hb with hm | hm
      · exact .inl hm
      · exact .inr (by rw [hm]; exact HG.out)⟩
    have ho8 : w8.ownsRow w2.heap.size 3 1 (.slice av L.length cv) L.length (L.map (.int .i64)) := own_block ho7 fun q hq => hk8.block q (by
      rcases ho7.2 with ⟨he, -⟩ | ⟨g', cap', cur, he, -, hk, -⟩
      · rw [he] at hq; cases hq
      · rw [he] at hq; cases hq; exact (Array.getElem?_eq_some_iff.1 hk).1) (fun hm => by have h8 := (ho7.lt q hq).1; have h9 := (hT2.lt q hm).2; omega)
    have HOF : Hid (∀ q, (Value.slice av L.length cv).ownBlock = some q → q ∉ F') := Lib.hid fun q hq hm => by
      have h8 := (ho8.lt q hq).1
      rcases hF8 q hm with hm | hm
      · have h9 := (hT2.lt q hm).2; omega
      · have h9 := HLB.out q hq; omega
    have hKO : ∀ W', Grow (w8.setCell ⟨w.heap.size, 0, none⟩ (.int .i64 (y.changeE L.length))) F' W' F' → W'.ownsRow w.heap.size 3 1 (.slice av L.length cv) L.length (L.map (.int .i64)) := fun W' hg => by
      have h1 : (w8.setCell ⟨w.heap.size, 0, none⟩ (.int .i64 (y.changeE L.length))).ownsRow w2.heap.size 3 1 (.slice av L.length cv) L.length (L.map (.int .i64)) := ownsRow_setCell_below ho8 zR2 _
      refine own_base (own_block h1 fun q hq => hg.keep.block q (by
        rcases h1.2 with ⟨he, -⟩ | ⟨g', cap', cur, he, -, hk, -⟩
        · rw [he] at hq; cases hq
        · rw [he] at hq; cases hq; exact (Array.getElem?_eq_some_iff.1 hk).1) (fun hm => by
          have h8 := (h1.lt q hq).1
          rcases hF8 q hm with hm | hm
          · have h9 := (hT2.lt q hm).2; omega
          · have h9 := HLB.out q hq; omega)) (by omega)
    have cR8 := bR8.cells
    have lR8 := bR8.lt
    have fR8 := bR8.free
    have HKO := Lib.hid hKO
    clear hKO
    by_cases hE0 : y.changeE L.length = 0
    · have HX2 : Hid (y.take near many = (0, (y.change us L.length).after 0) ∧ y.takeL near many = L) := Lib.hid (by have h := HX.out; rw [hE0, if_pos rfl] at h; exact h)
      rw [hE0] at HKO ⊢
      clear hE0 HX
      go_wp2_with fail
      refine leave_did (E := 0) (F0 := F) (hT8.set_ (p := ⟨w.heap.size, 0, none⟩) hRF' (.int .i64 0)) (bR8.set_ 0 (.int .i64 0)) hRF' (G8.cellAt (Nat.le_refl _) _) (fun W' hc _ => res_tmp_cell (m := 6) (n := 7) (v := .slice av L.length cv) (t := 34) (by rfl) (by simp) (by simp) rfl hc) (fun W' hT' hg hg2 => ?_)
      exact ⟨_, by rw [HX2.out.1], by rw [HX2.out.2]; exact HKO.out W' hg2, F', by rw [HX2.out.1]; exact hT', hg, HOF.out⟩
    · have HX2 : Hid (y.take near many = (y.changeE L.length, (y.change us L.length).after (y.changeE L.length)) ∧ y.takeL near many = []) := Lib.hid (by have h := HX.out; rw [if_neg hE0] at h; exact h)
      clear HX HKO
      generalize y.changeE L.length = E at *
      have hE' : (E != 0) = true := by simpa using hE0
      clear hE0
      go_wp2_with fail
      refine leave_did (E := E) (F0 := F) (hT8.set_ (p := ⟨w.heap.size, 0, none⟩) hRF' (.int .i64 E)) (bR8.set_ 0 (.int .i64 E)) hRF' (G8.cellAt (Nat.le_refl _) _) (fun W' hc _ => res_tmp_cell (m := 6) (n := 7) (v := .slice none 0 0) (t := 34) (by rfl) (by simp) (by simp) rfl hc) (fun W' hT' hg hg2 => ?_)
      exact ⟨_, by rw [HX2.out.1], by rw [HX2.out.2]; exact World.ownsRow_nil _ _ _ _, F', by rw [HX2.out.1]; exact hT', hg, fun q hq => by cases hq⟩

theorem take_tx (T : Nat) (F : List Nat) (D : Nat) (y : TxS) (near many : Int) (w : World) (h : TxAt w T F D y) :
    Calls Tryz.prog 57 #[.pointer (some ⟨T, 0, none⟩), .int .i64 near, .int .i64 many] w (TakeDid w T F D (y.take near many).1 (y.take near many).2 (y.takeL near many)) := by
  by_cases hE : y.stateE = 0
  · exact txtake_in T F D y near many w h hE
  · refine (txtake_bad _ near many _ w h.st hE).mono ?_
    rintro e w' ⟨rfl, hb⟩
    unfold TxS.take TxS.takeL
    rw [if_pos (by simpa using hE), if_pos (by simpa using hE)]
    exact ⟨_, rfl, World.ownsRow_nil _ _ _ _, F, h.below hb, Grow.of_below hb F, fun q hq => by cases hq⟩

theorem free_tx (T : Nat) (F : List Nat) (D : Nat) (y : TxS) (Bl : Option Addr) (cb : Nat) (l : List Int) (hl : l.length ≤ 1000) (w : World) (h : TxAt w T F D y) (hB : Reads w Bl (l.map (.int .i64))) :
    Calls Tryz.prog 61 #[.pointer (some ⟨T, 0, none⟩), .slice Bl l.length cb] w (TxDid w T F D (y.free l).1 (y.free l).2) := by
  by_cases hE : y.stateE = 0
  · exact txfree_in T F D y Bl cb l hl w h hE hB
  · refine (txfree_bad _ _ _ w h.st hE).mono ?_
    rintro e w' ⟨rfl, hb⟩
    unfold TxS.free
    rw [if_pos (by simpa using hE)]
    exact ⟨rfl, F, h.below hb, Grow.of_below hb F⟩

end Go.Proofs.YtloddiipepiocaaGreatDoor
