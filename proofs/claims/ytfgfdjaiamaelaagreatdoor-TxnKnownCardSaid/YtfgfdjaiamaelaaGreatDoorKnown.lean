/- Parts of the proof, put together by program: TC, TD. -/
import Derived.Test.YtfgfdjaiamaelaaGreatDoorPart42
/- P10: TxnKnown, walked. -/
namespace Go.Proofs.YtfgfdjaiamaelaaGreatDoor
open Go.RowKit Go.Maps

theorem own_cells {w : World} {base : Nat} {e : TypeId} {size : Nat} {g : Nat} {n c : Nat} {xs : List Value} (h : w.ownsRow base e size (.slice (some ⟨g, 0, none⟩) n c) n xs) (k : Nat) (u : Value) (hk : xs[k]? = some u) : w.cell? ⟨g, k, none⟩ = some u := by
  rcases h.2 with ⟨he, -⟩ | ⟨g', cap, cur, he, -, hh, -, -, -, h6⟩
  · cases he
  · cases he
    rw [cell_of_row w g k cur e (0, 0) hh, ← hk, ← h6, List.getElem?_take]
    have : k < xs.length := (List.getElem?_eq_some_iff.1 hk).1
    rw [← h6, List.length_take] at this
    rw [if_pos (by omega)]
    simp
theorem knw_left : CountN 64 8 40 kT5.may = 11 := by decide +kernel
theorem kT3_clean : kT3.Clean := kT2_clean.free _
theorem kT4_clean : kT4.Clean := kT3_clean.take _ _
theorem kT5_clean : kT5.Clean := kT4_clean.write _ _ _
theorem one_ints (w : World) (a : Int) : Below w.heap.size w (w.alloc (.cells #[.int .i64 a] 3)) ∧ Reads (w.alloc (.cells #[.int .i64 a] 3)) (some ⟨w.heap.size, 0, none⟩) ([a].map (.int .i64)) := by
  refine ⟨(Below.refl _ _).alloc (Nat.le_refl _) _, ?_⟩
  have := Blk.new w 3 #[.int .i64 a]
  exact .inr ⟨_, 0, rfl, this.lt, fun k u hu => by rw [Nat.zero_add]; exact (this.cells k).trans (by simpa using hu)⟩

set_option maxRecDepth 100000 in
set_option maxHeartbeats 4000000 in
theorem txnKnown_any (w : World) (hH : HalfAt w) : Calls Tryz.prog 3 #[] w fun e w' => e = .returned (.bool true) ∧ Below w.heap.size w w' := by
  have hbg := begun10_any w hH
  have hp0 := hH.1
  have HH := Lib.hid hH
  obtain ⟨a1, a2, a3, a4, a5, a6, a7, a8, a9, -, -, -, -⟩ := awk_plain
  obtain ⟨b1, b2, b3, b4, b5, -, b7, b8, b9, b10, b11, b12, b13, b14⟩ := known_plain
  go_enter Tryz.func3, Tryz.ntmps3
  go_wp2_with fail
  refine hbg.mono ?_
  rintro e w1 ⟨D, T, F1, B, x, rfl, hF, -, h1⟩
  have hL := hF.live
  have r1 : yA.read x 50 = (0, ⟨#[]⟩, 70) := by
    have hg := hF.blank 50 (by omega) (by omega)
    unfold TxS.read TxS.readR
    rw [if_neg (by decide), if_neg (by decide), show yA.look 50 = none from rfl]
    show ((x.fr 50).kind, (x.fr 50).data, x.ge 50) = _
    rw [fr_blank hg, hg]
    rfl
  have f1 := play_read h1 50
  rw [r1] at f1
  clear hbg hH hF r1
  go_wp2_with fail
  refine f1.mono ?_
  rintro e w2 ⟨rfl, hb2⟩
  have h2 := h1.below hb2
  have f2 := play_take h2 12 3
  rw [a1, a2] at f2
  clear f1 hb2 h1
  go_wp2_with fail
  refine f2.mono ?_
  rintro e w3 ⟨A3, cc3, rfl, F3, h3, -, -⟩
  have f3 := play_write (y := kT1) h3 50 8 ⟨#[97, 98]⟩ (by omega) (by decide)
  rw [a3] at f3
  clear f2 h2
  go_wp2_with fail
  refine f3.mono ?_
  rintro e w4 ⟨rfl, F4, h4, -⟩
  obtain ⟨wS, hS⟩ : ∃ wS, wS = w4.alloc (.cells #[.int .i64 13] 3) := ⟨_, rfl⟩
  obtain ⟨bS, rS⟩ := one_ints w4 13
  rw [← hS] at bS rS
  have h5 := Play.below (y := kT2) h4 bS
  have f5 := play_free h5 (some ⟨w4.heap.size, 0, none⟩) 1 [13] (by simp) rS
  rw [b1] at f5
  have HS := Lib.hid hS
  clear f3 h3 hS bS rS h4
  go_wp2_with fail
  rw [← HS.out]
  refine f5.mono ?_
  rintro e w6 ⟨rfl, F6, h6, -⟩
  have f6 := play_take (y := kT3) h6 13 1
  rw [b2, b3] at f6
  clear f5 HS h5
  go_wp2_with fail
  refine f6.mono ?_
  rintro e w7 ⟨A7, cc7, rfl, F7, h7, -, k7⟩
  obtain ⟨g7, o7, rfl, l7, c7⟩ := k7.sl.reads.at_ (k := 0) (by simp)
  have f7 := play_write (y := kT4) h7 50 8 ⟨#[99]⟩ (by omega) (by decide)
  rw [b4] at f7
  replace c7 : w7.cell? ⟨g7, o7, none⟩ = some (.int .i64 13) := c7
  clear f6 h6 k7
  go_wp2_with fail
  refine f7.mono ?_
  rintro e w8 ⟨rfl, F8, h8, -⟩
  have f8 := left_tx T F8 D kT5 w8 h8.td.tx b7
  rw [show CountN kT5.s kT5.j kT5.i kT5.may = 11 from knw_left, b5] at f8
  clear f7 h7 l7 c7
  go_wp2_with fail
  refine f8.mono ?_
  rintro e w9 ⟨rfl, hb9⟩
  have h9 := Play.below (y := kT5) h8 hb9
  have f9 := records_tx T F8 D kT5 w9 h9.td.tx kT5_clean b7
  clear f8 hb9 h8
  go_wp2_with fail
  refine f9.mono ?_
  rintro e w10 ⟨v, rfl, ho, hb10⟩
  rw [b9] at ho
  have hv : ∃ g cap, v = .slice (some ⟨g, 0, none⟩) 2 cap ∧ w9.heap.size ≤ g ∧ g < w10.heap.size := own_form (k := 2) ho (by omega)
  obtain ⟨g, cap, rfl, -, lg⟩ := hv
  generalize mapS kT5.now = m at ho b10 b11
  have d0 := own_cells (n := 2) ho 0 (.int .i64 9) rfl
  have d1 := own_cells (n := 2) ho 1 (.int .i64 5) rfl
  have d2 := own_cells (n := 2) ho 2 (.string m) rfl
  have d3 := own_cells (n := 2) ho 3 (.int .i64 50) rfl
  have d4 := own_cells (n := 2) ho 4 (.int .i64 8) rfl
  have d5 := own_cells (n := 2) ho 5 (.string ⟨#[99]⟩) rfl
  have h10 := Play.below (y := kT5) h9 hb10
  obtain ⟨x', hcm, hL', -, -⟩ := commit_live (x := x) (y := kT5) (N := 1000) h10.td.tx.ok kT5_clean (hL.mono (by omega)) (fun h => by rw [b8] at h; cases h)
  have f10 := play_commit (y := kT5) h10 kT5_clean b7 hcm
  have b10' : (m.size : Int) = 96 := by omega
  have B10 := Lib.hid b10
  clear f9 hb10 h9 ho hL hcm b10
  go_wp2_with fail
  refine f10.mono ?_
  rintro e w11 ⟨rfl, B11, h11, -⟩
  clear f10 h10 d0 d1 d2 d3 d4 d5 lg
  go_wp2_with fail
  refine (plain_any w11).mono ?_
  rintro e w12 ⟨rfl, hb12⟩
  have h12 := h11.below hb12
  have f12 := play_begin h12 rg64 hL'
  clear h11 hb12
  go_wp2_with fail
  refine f12.mono ?_
  rintro e w13 ⟨U, F13, rfl, h13, -⟩
  obtain ⟨wU, hU⟩ : ∃ wU, wU = w13.alloc (.cells #[.int .i64 12] 3) := ⟨_, rfl⟩
  obtain ⟨bU, rU⟩ := one_ints w13 12
  rw [← hU] at bU rU
  have h14 := Play.below (y := kV) h13 bU
  have f14 := play_free h14 (some ⟨w13.heap.size, 0, none⟩) 1 [12] (by simp) rU
  rw [b12] at f14
  have HU := Lib.hid hU
  clear f12 h12 hU bU rU h13
  go_wp2_with fail
  rw [← HU.out]
  refine f14.mono ?_
  rintro e w15 ⟨rfl, F15, h15, -⟩
  have f15 := play_take (y := kV1) h15 12 1
  rw [b13, b14] at f15
  clear f14 HU h14
  go_wp2_with fail
  refine f15.mono ?_
  rintro e w16 ⟨A16, c16, rfl, F16, h16, -, k16⟩
  obtain ⟨g16, o16, rfl, l16, d16⟩ := k16.sl.reads.at_ (k := 0) (by simp)
  replace d16 : w16.cell? ⟨g16, o16, none⟩ = some (.int .i64 1) := d16
  have B16 := h16.bl
  have haw := awake10_any w16 (HH.out.below B16 hp0)
  clear f15 h15 h16 k16
  go_wp2_with fail
  refine haw.mono ?_
  rintro e w17 ⟨rfl, hb17⟩
  go_wp2_with fail
  go_ret
  exact ⟨rfl, B16.trans (hb17.mono B16.size)⟩
end Go.Proofs.YtfgfdjaiamaelaaGreatDoor
/- P10: TxnKnown: the row proved, and its tied card. -/
namespace Go.Proofs.YtfgfdjaiamaelaaGreatDoor
open Go.ChangeShapes Go.WideShapes Go.ChangeAt Go.RowKit Go.Joins

set_option maxRecDepth 100000 in
theorem known_lifted (os : Os) (started : os.Started) (H : Type) (enc : TypeId × Value → H) :
    ReturnsInHanded {} Tryz.checked os 3 .any (fun w args => (Rows.txnKnownSpec.pre enc Tryz.prog Tryz.f3 [] false w args ∧ laidMetH Tryz.prog half1 w) ∧ sizedMet enc Tryz.prog Tryz.f3 (OpenSpec.ofChange Rows.txnKnownSpec) false w args)
      (Rows.txnKnownSpec.post enc Tryz.prog Tryz.f3 false true false false) := by
  refine returnsInHanded_of_change_and (C := Tryz.checked) (X := fun w _ => laidMetH Tryz.prog half1 w) (fun _ _ _ hh h => h.of_heap hh) Tryz.own started (by kernel_rfl) Tryz.func3
    (ChangeSpec.witness_shaped (enc := enc) (C := Tryz.checked) (os := os) (X := fun w _ => laidMetH Tryz.prog half1 w) false (World.doorLaid Tryz.prog 400 os) #[] 8 rfl (World.shaped_of_RefB (by kernel_rfl) (by kernel_rfl)) (by kernel_rfl) (by kernel_rfl) (by kernel_rfl) (door_met os _)) ?_
  intro W base args ds gs before hval0 hW _ _ hL _
  have hW' := hW
  obtain ⟨p, q, hA0, hV, rfl, hfz, hnd⟩ := hW
  have hA : DataW.TrodAll enc Tryz.prog W 0 (fun _ => true) true Tryz.f3.params.toList args.toList ds p := hA0
  rw [Tryz.params3] at hA
  obtain ⟨e0, rfl, rfl⟩ := trodAll_nil hA
  obtain rfl : args = #[] := by cases args; simpa using e0
  obtain ⟨rfl, rfl⟩ := trodVars_none hV
  have hH := half_of_laid hL
  clear hA0 hval0
  simp only [List.append_nil] at hW'
  refine (txnKnown_any W hH).mono fun e W' ⟨he, hnx⟩ => ?_
  subst he
  refine ⟨_, rfl, _, _, _, [], [], [], hW', ?_, ?_, rfl, hnx.frame _, fun h => by cases h⟩
  · exact trodAll_mk1 (shut_bool Tryz.underlying4 true)
  · simp only [Tryz.params3]
    exact (show DataW.TrodAll enc _ W' 0 _ true [] [] [] [] from by simp [DataW.TrodAll])

theorem txnKnown_holds : Rows.TxnKnownSaid :=
  OpenClaim.holds_of_wide 3 Tryz.f3 rfl rfl rfl rfl rfl rfl rfl ⟨rfl, rfl, rfl, rfl, rfl⟩ rfl rfl rfl rfl rfl (by kernel_rfl) Tryz.func3 (by kernel_rfl)
    (of_decide_eq_true (by kernel_rfl)) (by unfold Func.isWrapper; first | (rw [if_pos (by decide +kernel)]; kernel_rfl) | (rw [if_neg (by decide +kernel)]; exact ⟨rfl, rfl⟩))
    (fun os started H enc _ => known_lifted os started H enc)

theorem txnKnownCard_holds : Rows.TxnKnownCardSaid :=
  Claim7.holds_tied_plain_at .later [] [.data] true (true, "b7afe181b4b591abc8eba0f6329cadd95c6e57db5f0b149c0081f6ae433a3486") false
    txnKnown_holds (fun _ h => by cases h) (by kernel_rfl) (fun _ h => by cases h) txnKnown_row_tie rfl ⟨rfl, rfl⟩ (by kernel_rfl) rfl
    (fun f fn hf hfn => by
      obtain rfl : f = 3 := Option.some.inj ((show Tryz.prog.funcNamed "limewash/limewashlaw10.TxnKnown" = some 3 by kernel_rfl).symm.trans hf) |>.symm
      obtain rfl : fn = Tryz.f3 := (Option.some.inj (Tryz.func3.symm.trans hfn)).symm
      exact ⟨by kernel_rfl, fun j t ht => by
        rw [Tryz.params3] at ht
        simp at ht⟩)
    (by kernel_rfl)

#print axioms txnKnownCard_holds
end Go.Proofs.YtfgfdjaiamaelaaGreatDoor
