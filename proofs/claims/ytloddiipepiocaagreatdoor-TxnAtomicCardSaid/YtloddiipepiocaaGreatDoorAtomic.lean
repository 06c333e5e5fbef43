/- Parts of the proof, put together by program: TR, TH, UT, UV. -/
import Derived.Test.YtloddiipepiocaaGreatDoorRows
import Derived.Test.YtloddiipepiocaaGreatDoorCards
import Derived.Test.YtloddiipepiocaaGreatDoorTie
import Derived.Test.YtloddiipepiocaaGreatDoorPart42
import Derived.ProofKit
import Derived.Lib.LaidTab
import Derived.Lib.SmallJoins
import Derived.LaidMore
import Derived.OpenShut
import Derived.Stop.Joined
import Derived.SevenTiedAt
import Derived.Test.YtloddiipepiocaaGreatDoorPart48
import Derived.Test.YtloddiipepiocaaGreatDoorPart50
import Derived.Deep.CutRange
import Derived.Deep.CutBlock
set_option linter.unusedVariables false
set_option linter.unusedSimpArgs false
/- The laws of layer 10: what all their rows share. -/
namespace Go.Proofs.YtloddiipepiocaaGreatDoor
open Go.ChangeShapes Go.WideShapes Go.ChangeAt Go.RowKit Go.Joins

theorem Tryz.own : ownKnob Tryz.prog.godebug = none := by kernel_rfl
theorem Tryz.laidOut : laidOutB Tryz.prog = true := by kernel_rfl
theorem gHalf : Tryz.prog.globalNamed "limewash/sums.half" = some 0 := by kernel_rfl
def half1 : List (String × DataW Unit) := [("limewash/sums.half", Rows.laid_limewash_sums_half)]

/-- The heap that the program's start leaves meets the condition. -/
theorem door_met (os : Os) (args : Array Value) : laidMetH Tryz.prog half1 ((World.doorLaid Tryz.prog 400 os).forCall (fun _ _ => 0) ⟨#[], args, []⟩).memory :=
  laidMetH_of_parts3 (fuel := 8) (laidMet_of_run' 8 (by kernel_rfl) (by kernel_rfl)) (by kernel_rfl) (by kernel_rfl)

theorem gHalfType : (Tryz.prog.globals[0]?).map (·.type) = some 274 := by kernel_rfl
theorem half_of_laid {W : World} (h : laidMetH Tryz.prog half1 W) : HalfAt W := by
  rw [MakeChecks.laidMetH_plain _ _ _ (by kernel_rfl)] at h
  have hT : Lib.TabIs Tryz.prog W "limewash/sums.half" .u32 halfL := Lib.tabIs_of_head (n := 16) (e := 24) gHalf gHalfType (by kernel_rfl) (by kernel_rfl) (by kernel_rfl) (by kernel_rfl) h
  have hc : ∀ j, j < 16 → W.cell? ⟨0, j, none⟩ = some (.int .u32 (halfL.getD j 0)) := fun j hj => hT.cell gHalf j hj
  exact ⟨block_lt_of_cell (hc 0 (by omega)), hc⟩
end Go.Proofs.YtloddiipepiocaaGreatDoor
/- Arguments opened: calls of a transaction. -/
namespace Go.Proofs.YtloddiipepiocaaGreatDoor
open Go.ChangeShapes Go.WideShapes Go.ChangeAt Go.RowKit Go.Deep

theorem Tryz.cellsInt : Tryz.prog.cellsOf 3 = 1 := by kernel_rfl
theorem Tryz.cellsU8 : Tryz.prog.cellsOf 5 = 1 := by kernel_rfl
theorem Tryz.cellsStr : Tryz.prog.cellsOf 9 = 1 := by kernel_rfl
theorem Tryz.cellsInts : Tryz.prog.cellsOf 71 = 1 := by kernel_rfl
theorem Tryz.cellsStep : Tryz.prog.cellsOf 73 = 6 := by kernel_rfl
theorem wf_u8_iff {f : Int} (h : (Lit.int .u8 f).wf = true) : 0 ≤ f ∧ f ≤ 255 := by
  simp [Lit.wf, IntKind.min, IntKind.max, IntKind.bits, IntKind.signed] at h; omega
theorem wf_i64_iff {f : Int} (h : (Lit.int .i64 f).wf = true) : -9223372036854775808 ≤ f ∧ f ≤ 9223372036854775807 := by
  simp [Lit.wf, IntKind.min, IntKind.max, IntKind.bits, IntKind.signed] at h; omega

section
variable {H : Type} {enc : TypeId × Value → H} {W : World}
set_option maxRecDepth 100000 in
theorem open_ints' {fuel : Nat} {v : Value} {x : DataW H × List MemPlace} (h : DataW.trod enc Tryz.prog W 0 (fun _ => true) true fuel 71 [v] = some x) :
    ∃ (A : Option Addr) (n c : Nat) (xs : List Int), v = .slice A n c ∧ xs.length = n ∧ Reads W A (xs.map (Value.int .i64)) ∧ n ≤ c ∧ c ≤ maxLen ∧ (A = none → n = 0 ∧ c = 0) :=
  open_cells (Value.int .i64) Tryz.underlying71 Tryz.cellsInt (fun n cs x hx => by obtain ⟨b, rfl, _⟩ := DataW.trod_int Tryz.underlying3 hx; exact ⟨b, rfl⟩) h

set_option maxRecDepth 100000 in
/-- A call as its cells. -/
theorem open_step_cells {fuel : Nat} {cs : List Value} (hsz : cs.length = 6) {x : DataW H × List MemPlace} (h : DataW.trod enc Tryz.prog W 0 (fun _ => true) true fuel 73 cs = some x) :
    ∃ a : StepV, cs = stepL a ∧ StepOk W a := by
  match cs, hsz with
  | [c0, c1, c2, c3, c4, c5], _ =>
    obtain ⟨xs, n, _, _, _, hlen, hg⟩ := DataW.trod_struct Tryz.underlying73 h
    have g0 : DataW.trod enc Tryz.prog W 0 (fun _ => true) true n 5 [c0] = xs[0]? := by have := hg 0 _ rfl; simpa [Tryz.cellsU8, Value.cells] using this
    have g1 : DataW.trod enc Tryz.prog W 0 (fun _ => true) true n 3 [c1] = xs[1]? := by have := hg 1 _ rfl; simpa [Tryz.cellsInt, Value.cells] using this
    have g2 : DataW.trod enc Tryz.prog W 0 (fun _ => true) true n 3 [c2] = xs[2]? := by have := hg 2 _ rfl; simpa [Tryz.cellsInt, Value.cells] using this
    have g3 : DataW.trod enc Tryz.prog W 0 (fun _ => true) true n 3 [c3] = xs[3]? := by have := hg 3 _ rfl; simpa [Tryz.cellsInt, Value.cells] using this
    have g4 : DataW.trod enc Tryz.prog W 0 (fun _ => true) true n 9 [c4] = xs[4]? := by have := hg 4 _ rfl; simpa [Tryz.cellsStr, Value.cells] using this
    have g5 : DataW.trod enc Tryz.prog W 0 (fun _ => true) true n 71 [c5] = xs[5]? := by have := hg 5 _ rfl; simpa [Tryz.cellsInts, Value.cells] using this
    clear hg
    match xs, hlen with
    | [y0, y1, y2, y3, y4, y5], _ =>
      simp only [List.getElem?_cons_zero, List.getElem?_cons_succ] at g0 g1 g2 g3 g4 g5
      obtain ⟨a0, e0, _, w0⟩ := DataW.trod_int Tryz.underlying5 g0
      obtain ⟨a1, e1, _, w1⟩ := DataW.trod_int Tryz.underlying3 g1
      obtain ⟨a2, e2, _, w2⟩ := DataW.trod_int Tryz.underlying3 g2
      obtain ⟨a3, e3, _, w3⟩ := DataW.trod_int Tryz.underlying3 g3
      obtain ⟨s, e4, _, w4⟩ := DataW.trod_string Tryz.underlying9 g4
      simp at e0 e1 e2 e3 e4
      subst e0 e1 e2 e3 e4
      obtain ⟨A, m, c, l, rfl, q1, q2, q3, q4, q5⟩ := open_ints' g5
      subst q1
      exact ⟨⟨a0, a1, a2, a3, s, A, l, c⟩, rfl, wf_u8_iff w0, wf_i64_iff w1, wf_i64_iff w2, wf_i64_iff w3, q2, ⟨q3, q4⟩, w4⟩

set_option maxRecDepth 100000 in
theorem open_steps {fuel : Nat} {v : Value} {x : DataW H × List MemPlace} (h : DataW.trod enc Tryz.prog W 0 (fun _ => true) true fuel 64 [v] = some x) :
    ∃ (A : Option Addr) (c : Nat) (xs : List StepV), v = .slice A xs.length c ∧ Reads W A (xs.flatMap stepL) ∧ (∀ a ∈ xs, StepOk W a) ∧ xs.length ≤ maxLen := by
  obtain ⟨A, n, c, xs, h1, h2, h3, h4, h5, h6, -⟩ := open_rows stepL (StepOk W) 6 (by omega) Tryz.underlying64 Tryz.cellsStep (fun n cs x hsz hx => open_step_cells hsz hx) h
  subst h2
  exact ⟨A, c, xs, h1, h3, fun a ha => (h4 a ha).2, by omega⟩
set_option maxRecDepth 100000 in
/-- The same, of an argument. -/
theorem open_stepv {r : Reach} {b0 : Nat} {v : Value} {d : DataW H} {p : List MemPlace} (hv : Value.okWide Tryz.prog W r b0 64 v) (h : DataW.Trod enc Tryz.prog W 0 (fun _ => true) true 64 v d p) :
    ∃ (A : Option Addr) (c : Nat) (xs : List StepV), v = .slice A xs.length c ∧ Reads W A (xs.flatMap stepL) ∧ (∀ a ∈ xs, StepOk W a) ∧ xs.length ≤ maxLen := by
  obtain ⟨a0, l0, c0, rfl⟩ := okWide_slice Tryz.underlying64 hv
  obtain ⟨fuel, hf⟩ := h
  exact open_steps (v := .slice a0 l0 c0) (by simpa [Value.cells] using hf)
end
end Go.Proofs.YtloddiipepiocaaGreatDoor
/- P10.9, T3: TxnAtomic, walked. -/
namespace Go.Proofs.YtloddiipepiocaaGreatDoor
open Go.RowKit Go.Maps

/-- The two crashes, in memory. -/
def crC (a0 b0 a1 b1 : Int) : Array Value := #[.int .u8 a0, .int .u64 b0, .int .u8 a1, .int .u64 b1]
/-- Behind the first transaction: another one has begun. -/
def PhA (w0 w : World) (D : Nat) (t : Value) : Prop :=
  ∃ T F B x us q, t = .pointer (some ⟨T, 0, none⟩) ∧ Play w0 w T F D (begTx 64 8 40 us) B x ∧ LiveR x us q 400000 ∧ (0 ≤ q ∧ q < 100)
/-- Behind its calls. -/
def PhB (w0 w : World) (D T : Nat) (us : List Bool) (x : DevS) (X1 : Nat) (A1 : Option Addr) (c1 : Nat) : Prop :=
  ∃ F y B, Play w0 w T F D y B x ∧ GoodTx y us ∧ ViewAt w (F ++ B) X1 A1 c1 (begTx 64 8 40 us) x

set_option maxRecDepth 100000 in
set_option maxHeartbeats 8000000 in
theorem txnAtomic_any (A A2 : Option Addr) (c c2 : Nat) (xs ys : List StepV) (a0 b0 a1 b1 : Int) (ha0 : 0 ≤ a0 ∧ a0 ≤ 255) (ha1 : 0 ≤ a1 ∧ a1 ≤ 255) (hb0 : 0 ≤ b0 ∧ b0 < 18446744073709551616) (hb1 : 0 ≤ b1 ∧ b1 < 18446744073709551616) (hl : xs.length ≤ maxLen) (hl2 : ys.length ≤ maxLen) (w : World) (hok : ∀ a ∈ xs, StepOk w a) (hok2 : ∀ a ∈ ys, StepOk w a) (hH : HalfAt w) (hR : Reads w A (xs.flatMap stepL)) (hR2 : Reads w A2 (ys.flatMap stepL)) :
    Calls Tryz.prog 5 #[.slice A xs.length c, .slice A2 ys.length c2, .agg (crC a0 b0 a1 b1)] w fun e w' => e = .returned (.bool true) ∧ Below w.heap.size w w' := by
  obtain ⟨w0, hw0⟩ : ∃ w0, w0 = w.alloc (.cells (crC a0 b0 a1 b1) 84) := ⟨_, rfl⟩
  have bC : Blk w0 w.heap.size 84 (crC a0 b0 a1 b1) := by rw [hw0]; exact Blk.new _ _ _
  have BA : Below w.heap.size w w0 := by rw [hw0]; (repeat' (first | (with_reducible exact Below.refl _ _) | (with_reducible assumption) | (with_reducible refine Below.alloc ?_ ?_ _) | (with_reducible refine Below.drew ?_) | (with_reducible refine below_drewN' ?_ _) | (with_reducible refine Below.setCell ?_ ?_ _) | (with_reducible exact Nat.le_refl _) | omega | (simp; done) | (simp; omega)))
  have hH0 := hH.below BA hH.1
  have hbg := begun10R_any w0 hH0
  have hp0 := hH0.1
  have hok' : ∀ a ∈ xs, StepOk w0 a := fun a ha => by
    have h := hok a ha
    exact ⟨h.wh, h.at_, h.kd, h.n, h.list.below BA, h.cap, h.str⟩
  have hok2' : ∀ a ∈ ys, StepOk w0 a := fun a ha => by
    have h := hok2 a ha
    exact ⟨h.wh, h.at_, h.kd, h.n, h.list.below BA, h.cap, h.str⟩
  have HBA := Lib.hid BA
  have HH := Lib.hid hH0
  have HOK := Lib.hid hok'
  have HOK2 := Lib.hid hok2'
  have HR := Lib.hid (hR.below BA)
  have HR2 := Lib.hid (hR2.below BA)
  have hs : ∀ a ∈ xs, a.s.size ≤ maxLen ∧ a.l.length ≤ maxLen := fun a ha => ⟨(hok a ha).str, Nat.le_trans (hok a ha).cap.1 (hok a ha).cap.2⟩
  have hs2 : ∀ a ∈ ys, a.s.size ≤ maxLen ∧ a.l.length ≤ maxLen := fun a ha => ⟨(hok2 a ha).str, Nat.le_trans (hok2 a ha).cap.1 (hok2 a ha).cap.2⟩
  have HS := Lib.hid hs
  have HS2 := Lib.hid hs2
  have HL := Lib.hid hl
  have HL2 := Lib.hid hl2
  have hC : ∀ W, Below w0.heap.size w0 W → W.cell? ⟨w.heap.size, 0, none⟩ = some (.int .u8 a0) ∧ W.cell? ⟨w.heap.size, 1, none⟩ = some (.int .u64 b0) ∧ W.cell? ⟨w.heap.size, 2, none⟩ = some (.int .u8 a1) ∧ W.cell? ⟨w.heap.size, 3, none⟩ = some (.int .u64 b1) ∧ w.heap.size < W.heap.size := fun W hW => by
    have b := bC.belowAll hW
    have c := b.cells
    exact ⟨(c 0).trans rfl, (c 1).trans rfl, (c 2).trans rfl, (c 3).trans rfl, b.lt⟩
  have HC := Lib.hid hC
  unfold maxLen at hl hl2
  clear hH hok hok2 hok' hok2' hR hR2 hs hs2 hC bC hH0 BA
  unfold crC at hw0
  unfold crC
  go_enter Tryz.func5, Tryz.ntmps5
  go_upto_region 1 with fail
  rw [← hw0]
  clear hw0
  go_wp2_with fail
  refine hbg.mono ?_
  rintro e w1 ⟨D, T0, F0, B0, x0, rfl, hLR, h1⟩
  have f1 := long_any A c xs HL.out HS.out w1 (h1.reads HR.out)
  clear hbg
  go_upto_region 2 with fail
  go_cut [36] from 27 to 35 (fun s36 wx => s36 = .bool (longB xs || longB ys) ∧ Play w0 wx T0 F0 D yA B0 x0)
  case first =>
    as_aux_lemma =>
      cases hx : longB xs
      · rw [hx] at f1
        go_wp2_with fail
        refine f1.mono ?_
        rintro e w2 ⟨rfl, hb2⟩
        have h2 := h1.below hb2
        have f2 := long_any A2 c2 ys HL2.out HS2.out w2 (h2.reads HR2.out)
        go_wp2_with fail
        refine f2.mono ?_
        rintro e w3 ⟨rfl, hb3⟩
        go_wp2_with fail
        go_meet
        case rel => exact ⟨by rw [hx]; rfl, h2.below hb3⟩
      · rw [hx] at f1
        go_wp2_with fail
        refine f1.mono ?_
        rintro e w2 ⟨rfl, hb2⟩
        go_wp2_with fail
        go_meet
        case rel => exact ⟨by rw [hx]; rfl, h1.below hb2⟩
  case rest =>
    obtain ⟨rfl, h2⟩ := hcut
    clear f1 h1
    obtain ⟨bb, hbb⟩ : ∃ bb, (longB xs || longB ys) = bb := ⟨_, rfl⟩
    rw [hbb]
    cases bb
    rotate_left
    · as_aux_lemma =>
        have B2 := h2.bl
        have haw := awake10_any wc (HH.out.below B2 hp0)
        go_wp2_with fail
        refine haw.mono ?_
        rintro e w3 ⟨rfl, hb3⟩
        go_wp2_with fail
        go_ret
        exact ⟨rfl, HBA.out.trans ((B2.trans (hb3.mono B2.size)).mono HBA.out.size)⟩
    simp only [Bool.or_eq_false_iff] at hbb
    have hbig : ∀ zs : List StepV, longB zs = false → ∀ a ∈ zs, bigB a = false := fun zs hz a ha => by
      unfold longB at hz
      simp only [Bool.or_eq_false_iff] at hz
      have := List.any_eq_false.1 hz.1 a ha
      simpa using this
    have HB := Lib.hid (hbig xs hbb.1)
    have HB2 := Lib.hid (hbig ys hbb.2)
    clear hbb hbig
    go_wp2_with fail
    go_loopw [9] (fun q wr => ∃ (k : Nat) (F : List Nat) (y : TxS), k ≤ xs.length ∧ q = .int .i64 k ∧ Play w0 wr T0 F D y B0 x0 ∧ GoodTx y (List.replicate 14 false)) (fun q _ => xs.length - (RowKit.intOf q).toNat)
    case atStart => exact ⟨0, F0, yA, Nat.zero_le _, rfl, h2, GoodTx.begun _⟩
    case round =>
      obtain ⟨k, F, y, hk, rfl, hp, hgt⟩ := hrel
      clear h2
      by_cases hlt : k < xs.length
      · as_aux_lemma =>
          obtain ⟨b, off, rfl, hbl, e0, e1, e2, e3, e4, e5⟩ := steps_at (hp.reads HR.out) hlt
          have hm := List.getElem_mem hlt
          have hoka := HOK.out _ hm
          have hbig := HB.out _ hm
          have hcall := calls_any hp hgt.clean xs[k] hoka hbig
          have hgt' := hgt.step xs[k]
          have hwh := hoka.wh
          generalize y.step xs[k] = y' at *
          generalize xs[k] = a at *
          obtain ⟨wh, at_, kd, n, s, A, l, ca⟩ := a
          unfold stepC at hcall
          simp only at e0 e1 e2 e3 e4 e5 hwh hcall
          have g1 : wh.tmod 9 = wh % 9 := Int.tmod_eq_emod_of_nonneg hwh.1
          have g3 : IntKind.u8.wrap (wh % 9) = wh % 9 := by rw [IntKind.wrap_u8]; omega
          clear hm hoka hbig hwh
          by_cases h7 : wh % 9 < 7
          · generalize wh % 9 = r at *
            have hd : decide (r < 7) = true := decide_eq_true h7
            go_wp2_with fail
            refine hcall.mono ?_
            rintro e w5 ⟨rfl, F', hp', g'⟩
            clear hcall
            go_wp2_with fail
            go_roundw
            case rel => exact ⟨k + 1, F', y', by omega, by go_num, hp', hgt'⟩
            case measure => simp [RowKit.intOf]; omega
          · generalize wh % 9 = r at *
            have hd : decide (r < 7) = false := decide_eq_false h7
            clear hcall
            go_wp2_with fail
            go_roundw
            case rel => exact ⟨k + 1, F, y, by omega, by go_num, hp, hgt⟩
            case measure => simp [RowKit.intOf]; omega
      obtain rfl : k = xs.length := by omega
      clear HB HR HS HOK HL
      go_upto_region 9 with fail
      go_cut [10] from 64 to 65 (fun s10 wx => ∃ E F' y' B' x' us' q', s10 = .int .i64 E ∧ (E = 0 ∨ E = 9) ∧ Play w0 wx T0 F' D y' B' x' ∧ LiveR x' us' q' 500000 ∧ 0 ≤ q' ∧ q' ≤ 2)
      case first =>
        as_aux_lemma =>
          by_cases hE : y.stateE = 0
          · have hlk := hgt.like
            obtain ⟨x', q', hcm, hl', hq1, hq2⟩ := commit_rest (N := 999000) (x := x0) (y := y) (us := List.replicate 14 false) (q := 1) hLR (by omega) hp.td.tx.ok hgt.clean hlk.s hlk.j hlk.i hgt.nc
            have f := play_commit hp hgt.clean hE hcm
            go_wp2_with fail
            refine f.mono ?_
            rintro e w5 ⟨rfl, B', hp', -⟩
            go_wp2_with fail
            go_meet
            case rel => exact ⟨0, F, _, B', x', _, q', rfl, .inl rfl, hp', ⟨hl'.live.mono (by omega), hl'.rest⟩, hq1, by omega⟩
          · have h9 : y.stateE = 9 := (stateE_vals y).resolve_left hE
            have f := txcommit_bad _ _ wr hp.td.tx.st hE
            rw [h9] at f
            go_wp2_with fail
            refine f.mono ?_
            rintro e w5 ⟨rfl, hb5⟩
            go_wp2_with fail
            go_meet
            case rel => exact ⟨9, F, y, B0, x0, _, 1, rfl, .inr rfl, hp.below hb5, ⟨hLR.live.mono (by omega), hLR.rest⟩, by omega, by omega⟩
      case rest =>
        obtain ⟨E, F', y', B', x', us', q', rfl, hE, hp', hlr, hq⟩ := hcut
        clear hp hgt hLR
        go_upto_region 10 with fail
        go_cut [71] from 66 to 70 (fun s71 wx => s71 = .bool false ∧ wx = wc)
        case first =>
          as_aux_lemma =>
            rcases hE with rfl | rfl
            · go_wp2_with fail
              go_meet
              case rel => exact ⟨rfl, rfl⟩
            · go_wp2_with fail
              go_meet
              case rel => exact ⟨rfl, rfl⟩
        case rest =>
          obtain ⟨rfl, hwx⟩ := hcut
          replace hwx := hwx.symm
          subst hwx
          have hrun := hlr.live
          go_wp2_with fail
          refine (plain_any wc).mono ?_
          rintro e w6 ⟨rfl, hb6⟩
          have h6 := hp'.below hb6
          have f6 := play_begin h6 rg64 hrun
          go_wp2_with fail
          refine f6.mono ?_
          rintro e w7 ⟨T, F7, rfl, h7, -⟩
          clear f6 h6 hb6 hp' hrun hE
          obtain ⟨us, hus⟩ : ∃ us, us = us' := ⟨_, rfl⟩
          subst hus
          have HG := Lib.hid (GoodTx.begun us)
          go_wp2_with fail
          refine (seen_good h7 rfl).mono ?_
          rintro e w8 ⟨hb8, A1, c1, rfl, hr8, hA8⟩
          have h8 := h7.below hb8
          have hlt8 := h8.devlt
          have hlt7 := h7.devlt
          have hz := zeroView
          obtain ⟨vw, hvw⟩ : ∃ vw, vw = viewA (begTx 64 8 40 us).s (begTx 64 8 40 us).j (begTx 64 8 40 us).i A1 (begTx 64 8 40 us).now.length c1 (seenK (begTx 64 8 40 us) x' 64) (seenD (begTx 64 8 40 us) x' 64) := ⟨_, rfl⟩
          rw [← hvw]
          have hsz : vw.size = 132 := by rw [hvw]; exact viewA_size (seenK_length _ _ 64) (seenD_length _ _ 64)
          have hone : vw.all (·.oneCell') = true := by rw [hvw]; exact viewA_one
          have bV0 : Blk (w8.alloc (.cells view0 92)) w8.heap.size 92 view0 := Blk.new _ _ _
          have hst := storeRow' (ty := 92) (vs := vw) bV0 (by rw [hsz]; exact viewA_size (by rfl) (by rfl)) hone (by rw [hsz]; exact sizeView _)
          obtain ⟨w9, hw9⟩ : ∃ w9, w9 = (w8.alloc (.cells view0 92)).setRow w8.heap.size vw := ⟨_, rfl⟩
          have bV9 : Blk w9 w8.heap.size 92 vw := by rw [hw9]; exact bV0.setRow
          have hb9 : Below w8.heap.size w8 w9 := by rw [hw9]; exact Below.setRow ((Below.refl _ _).alloc (Nat.le_refl _) _) (Nat.le_refl _) _
          rw [← hw9] at hst
          obtain ⟨X1, hX1⟩ : ∃ X1, X1 = w8.heap.size := ⟨_, rfl⟩
          have h9 := h8.below hb9
          rw [hvw, ← hX1] at bV9
          have va : ViewAt w9 (F7 ++ B') X1 A1 c1 (begTx 64 8 40 us) x' := ⟨bV9, hr8.below hb9, fun hm => by have := hlt8 _ hm; omega, fun a e => ⟨fun hm => by have := hlt7 _ hm; have := (hA8 a e).1; omega, by have := (hA8 a e).2; have := hb9.size; omega⟩⟩
          have HXW := Lib.hid hX1
          clear hlt8 hlt7 bV0 hone hsz hw9 hb9 hb8 hr8 hA8 h8 h7 hvw hX1 bV9
          go_wp2_with (refine wpList_storeBy rfl _ _ _ rfl _ _ rfl rfl hst ?_)
          rw [← HXW.out]
          clear hst HXW hz
          have hl40 : (Live x' 64 8 40 us 500000) := hlr.live
          go_loopw [13] (fun q wr => ∃ (k : Nat) (F : List Nat) (y : TxS), k ≤ ys.length ∧ q = .int .i64 k ∧ Play w0 wr T F D y B' x' ∧ GoodTx y us ∧ ViewAt wr (F ++ B') X1 A1 c1 (begTx 64 8 40 us) x') (fun q _ => ys.length - (RowKit.intOf q).toNat)
          case atStart => exact ⟨0, F7, _, Nat.zero_le _, rfl, h9, GoodTx.begun _, va⟩
          case round =>
            obtain ⟨k, F, y, hk, rfl, hp, hgt, hva⟩ := hrel
            clear h9 va
            by_cases hlt : k < ys.length
            · as_aux_lemma =>
                obtain ⟨b, off, rfl, hbl, e0, e1, e2, e3, e4, e5⟩ := steps_at (hp.reads HR2.out) hlt
                have hm := List.getElem_mem hlt
                have hoka := HOK2.out _ hm
                have hbig := HB2.out _ hm
                have hcall := calls_any hp hgt.clean ys[k] hoka hbig
                have hgt' := hgt.step ys[k]
                have hwh := hoka.wh
                generalize y.step ys[k] = y' at *
                generalize ys[k] = a at *
                obtain ⟨wh, at_, kd, n, s, A, l, ca⟩ := a
                unfold stepC at hcall
                simp only at e0 e1 e2 e3 e4 e5 hwh hcall
                have g1 : wh.tmod 9 = wh % 9 := Int.tmod_eq_emod_of_nonneg hwh.1
                have g3 : IntKind.u8.wrap (wh % 9) = wh % 9 := by rw [IntKind.wrap_u8]; omega
                clear hm hoka hbig hwh
                by_cases h7 : wh % 9 < 7
                · generalize wh % 9 = r at *
                  have hd : decide (r < 7) = true := decide_eq_true h7
                  go_wp2_with fail
                  refine hcall.mono ?_
                  rintro e w5 ⟨rfl, F', hp', g'⟩
                  have hva' := hva.grow g'
                  clear hcall
                  go_wp2_with fail
                  go_roundw
                  case rel => exact ⟨k + 1, F', y', by omega, by go_num, hp', hgt', hva'⟩
                  case measure => simp [RowKit.intOf]; omega
                · generalize wh % 9 = r at *
                  have hd : decide (r < 7) = false := decide_eq_false h7
                  clear hcall
                  go_wp2_with fail
                  go_roundw
                  case rel => exact ⟨k + 1, F, y, by omega, by go_num, hp, hgt, hva⟩
                  case measure => simp [RowKit.intOf]; omega
            obtain rfl : k = ys.length := by omega
            clear HB2 HR2 HS2 HOK2 HL2
            go_upto_region 21 with fail
            go_cut [14, 15] from 114 to 118 (fun s14 s15 wx => ∃ (X2 : Nat) (b : Bool) (A3 : Option Addr) (c3 : Nat), s14 = .pointer (some ⟨X2, 0, none⟩) ∧ s15 = .bool b ∧ Play w0 wx T F D y B' x' ∧ ViewAt wx (F ++ B') X1 A1 c1 (begTx 64 8 40 us) x' ∧ (b = true → y.stateE = 0 ∧ ViewAt wx (F ++ B') X2 A3 c3 y x') ∧ (b = false → y.stateE ≠ 0))
            case first =>
              by_cases hE : y.stateE = 0
              · as_aux_lemma =>
                go_wp2_with fail
                refine (seen_good hp hE).mono ?_
                rintro e w8 ⟨hb8, A3, c3, rfl, hr8, hA8⟩
                have h8 := hp.below hb8
                have va8 := hva.below hb8
                have hlt8 := h8.devlt
                have hlt7 := hp.devlt
                obtain ⟨vw, hvw⟩ : ∃ vw, vw = viewA y.s y.j y.i A3 y.now.length c3 (seenK y x' 64) (seenD y x' 64) := ⟨_, rfl⟩
                rw [← hvw]
                have hz := zeroView
                have hsz : vw.size = 132 := by rw [hvw]; exact viewA_size (seenK_length _ _ 64) (seenD_length _ _ 64)
                have hone : vw.all (·.oneCell') = true := by rw [hvw]; exact viewA_one
                have bV0 : Blk (w8.alloc (.cells view0 92)) w8.heap.size 92 view0 := Blk.new _ _ _
                have hst := storeRow' (ty := 92) (vs := vw) bV0 (by rw [hsz]; exact viewA_size (by rfl) (by rfl)) hone (by rw [hsz]; exact sizeView _)
                obtain ⟨w9, hw9⟩ : ∃ w9, w9 = (w8.alloc (.cells view0 92)).setRow w8.heap.size vw := ⟨_, rfl⟩
                have bV9 : Blk w9 w8.heap.size 92 vw := by rw [hw9]; exact bV0.setRow
                have hb9 : Below w8.heap.size w8 w9 := by rw [hw9]; exact Below.setRow ((Below.refl _ _).alloc (Nat.le_refl _) _) (Nat.le_refl _) _
                rw [← hw9] at hst
                have h9 := h8.below hb9
                have va9 := va8.below hb9
                rw [hvw] at bV9
                have HF := Lib.hid (And.intro h9 (And.intro va9 (show ViewAt w9 (F ++ B') w8.heap.size A3 c3 y x' from ⟨bV9, hr8.below hb9, fun hm => by have := hlt8 _ hm; omega, fun a e => ⟨fun hm => by have := hlt7 _ hm; have := (hA8 a e).1; omega, by have := (hA8 a e).2; have := hb9.size; omega⟩⟩)))
                have HE := Lib.hid hE
                clear hlt8 hlt7 bV0 hone hsz hw9 hb9 hb8 hr8 hA8 h8 hvw bV9 h9 va9 va8 hp hva hE
                go_wp2_with (refine wpList_storeBy rfl _ _ _ rfl _ _ rfl rfl hst ?_)
                go_meet
                case rel => exact ⟨_, true, A3, c3, rfl, rfl, HF.out.1, HF.out.2.1, fun _ => ⟨HE.out, HF.out.2.2⟩, fun h => by cases h⟩
              · as_aux_lemma =>
                go_wp2_with fail
                refine (seen_bad _ _ wr hp.td.tx.st hE).mono ?_
                rintro e w8 ⟨rfl, hb8⟩
                have h8 := hp.below hb8
                have va8 := hva.below hb8
                obtain ⟨vw, hvw⟩ : ∃ vw, vw = viewA 0 0 0 none 0 0 ks0 ds0 := ⟨_, rfl⟩
                have hvz : view0 = vw := hvw.symm
                have hz := zeroView
                have hsz : vw.size = 132 := by rw [hvw]; exact viewA_size (by rfl) (by rfl)
                have hone : vw.all (·.oneCell') = true := by rw [hvw]; exact viewA_one
                have bV0 : Blk (w8.alloc (.cells view0 92)) w8.heap.size 92 view0 := Blk.new _ _ _
                have hst := storeRow' (ty := 92) (vs := vw) bV0 (by rw [hsz]; exact viewA_size (by rfl) (by rfl)) hone (by rw [hsz]; exact sizeView _)
                obtain ⟨w9, hw9⟩ : ∃ w9, w9 = (w8.alloc (.cells view0 92)).setRow w8.heap.size vw := ⟨_, rfl⟩
                have bV9 : Blk w9 w8.heap.size 92 vw := by rw [hw9]; exact bV0.setRow
                have hb9 : Below w8.heap.size w8 w9 := by rw [hw9]; exact Below.setRow ((Below.refl _ _).alloc (Nat.le_refl _) _) (Nat.le_refl _) _
                rw [← hw9] at hst
                have h9 := h8.below hb9
                have va9 := va8.below hb9
                rw [hvz]
                rw [hvz] at hz hst
                have HF := Lib.hid (And.intro h9 va9)
                have HE := Lib.hid hE
                clear bV0 hone hsz hw9 hb9 hb8 h8 hvw bV9 h9 va9 va8 hp hva hE hvz
                go_wp2_with (refine wpList_storeBy rfl _ _ _ rfl _ _ rfl rfl hst ?_)
                go_meet
                case rel => exact ⟨_, false, none, 0, rfl, rfl, HF.out.1, HF.out.2, (fun h => by cases h), fun _ => HE.out⟩
            case rest =>
              obtain ⟨X2, wb, A3, c3, rfl, rfl, hp2, hva2, hwt, hwf⟩ := hcut
              clear hp hva
              obtain ⟨k0, k1, k2, k3, kl⟩ := HC.out wc hp2.bl
              have g1 : a0.tmod 20 = a0 % 20 := Int.tmod_eq_emod_of_nonneg ha0.1
              have g2 : IntKind.u8.wrap (a0 % 20) = a0 % 20 := by rw [IntKind.wrap_u8]; omega
              have g3 : IntKind.i64.wrap (a0 % 20) = a0 % 20 := by rw [IntKind.wrap_i64]; omega
              have hr0 : 0 ≤ a0 % 20 ∧ a0 % 20 < 20 := by omega
              have hlim := play_limit hp2 (a0 % 20) (by omega)
              generalize a0 % 20 = r0 at *
              go_upto_region 22 with fail
              go_wp2_with fail
              refine hlim.mono ?_
              rintro e w10 ⟨rfl, hp3, g10⟩
              have va3 := hva2.grow g10
              have hwt3 : wb = true → y.stateE = 0 ∧ ViewAt w10 (F ++ B') X2 A3 c3 y x' := fun h => ⟨(hwt h).1, (hwt h).2.grow g10⟩
              clear k0 k1 k2 k3 kl g1 g2 g3 hlim hp2 hva2 hwt g10
              have HWT := Lib.hid hwt3
              have HWF := Lib.hid hwf
              clear hwt3 hwf
              go_upto_region 24 with fail
              go_cut [16] from 127 to 128 (fun s16 wx => ∃ E B2 x2 y2, s16 = .int .i64 E ∧ Play w0 wx T F D y2 B2 x2 ∧ ViewAt wx (F ++ B2) X1 A1 c1 (begTx 64 8 40 us) x' ∧ Hid (wb = true → y.stateE = 0 ∧ ViewAt wx (F ++ B2) X2 A3 c3 y x') ∧ Hid (After x2 (a1 % 20) 1000 (FinV us y x' E wb)) ∧ ((wb = true ∧ (E = 0 ∨ E = 13)) ∨ (wb = false ∧ E = 9)))
              case first =>
                by_cases hE : y.stateE = 0
                · as_aux_lemma =>
                  have hlk := hgt.like
                  have HWB : Hid (wb = true) := Lib.hid (by
                    cases wb
                    · exact absurd hE (HWF.out rfl)
                    · rfl)
                  obtain ⟨c1', c2'⟩ := commit_after (N := 1000) (p2 := a1 % 20) ⟨hlr.live.mono (by omega), hlr.rest⟩ ⟨hq.1, by omega⟩ hp3.td.tx.ok hgt.clean hlk.s hlk.j (p1 := r0) (by omega) (by omega)
                  have f := commit_tx T F D y B' (x'.limit r0) w10 hp3.td hgt.clean hE
                  have H1 := Lib.hid c1'
                  have hyok := hp3.td.tx.ok
                  have H2 := Lib.hid (After.mono (Fin' := FinV us y x' (y.commit (x'.limit r0)).1 wb) c2' fun u h1 h2 h3 => by
                    rcases fin_live (N := 1000) (hl40.mono (by omega)) hyok hgt.clean hlk.s hlk.j hlk.i hE hgt.nc h1 h2 h3 with ⟨g1, g2, g3⟩ | ⟨g2, g3⟩
                    · exact .inl ⟨g1, g2, g3⟩
                    · exact .inr ⟨HWB.out, g2, g3⟩)
                  unfold CommitDid at f
                  generalize y.commit (x'.limit r0) = cm at *
                  clear c1' c2'
                  go_wp2_with fail
                  refine f.mono ?_
                  rintro e w11 ⟨rfl, B2, ht, gg⟩
                  have hp4 := hp3.keep ht gg
                  have va4 := va3.grow gg
                  have HW4 : Hid (wb = true → y.stateE = 0 ∧ ViewAt w11 (F ++ B2) X2 A3 c3 y x') := Lib.hid fun h => ⟨(HWT.out h).1, (HWT.out h).2.grow gg⟩
                  go_wp2_with fail
                  go_meet
                  case rel => exact ⟨_, B2, _, _, rfl, hp4, va4, HW4, H2, .inl ⟨HWB.out, H1.out⟩⟩
                · as_aux_lemma =>
                  have HWB : Hid (wb = false) := Lib.hid (by
                    cases wb
                    · rfl
                    · exact absurd (HWT.out rfl).1 hE)
                  have h9 : y.stateE = 9 := (stateE_vals y).resolve_left hE
                  have H2 := Lib.hid (broken_after (N := 1000) (p2 := a1 % 20) ⟨hlr.live.mono (by omega), hlr.rest⟩ ⟨hq.1, by omega⟩ [] (p1 := r0) (by omega) (by omega) |>.mono (Fin' := FinV us y x' 9 wb) fun u h1 h2 h3 => .inl ⟨by decide, fin_old (N := 1000) (hl40.mono (by omega)) h1 h2 h3⟩)
                  have f := txcommit_bad _ _ w10 hp3.td.tx.st hE
                  rw [h9] at f
                  go_wp2_with fail
                  refine f.mono ?_
                  rintro e w11 ⟨rfl, hb11⟩
                  have hp4 := hp3.below hb11
                  have va4 := va3.below hb11
                  have HW4 : Hid (wb = true → y.stateE = 0 ∧ ViewAt w11 (F ++ B') X2 A3 c3 y x') := Lib.hid fun h => ⟨(HWT.out h).1, (HWT.out h).2.below hb11⟩
                  go_wp2_with fail
                  go_meet
                  case rel => exact ⟨9, B', _, y, rfl, hp4, va4, HW4, H2, .inr ⟨HWB.out, rfl⟩⟩
              case rest =>
                obtain ⟨E, B2, x2, y2, rfl, hp4, va4, HW4, HAF, hwE⟩ := hcut
                have HYO : Hid (y.Ok) := Lib.hid hp3.td.tx.ok
                clear hp3 va3 HWT HWF
                have HGT := Lib.hid hgt
                have HLR := Lib.hid hlr
                clear hgt hlr hl40
                go_upto_region 25 with fail
                go_cut [144] from 129 to 143 (fun s144 wx => s144 = .bool false ∧ wx = wc)
                case first =>
                  as_aux_lemma =>
                    rcases hwE with ⟨rfl, rfl | rfl⟩ | ⟨rfl, rfl⟩
                    · go_wp2_with fail
                      go_meet
                      case rel => exact ⟨rfl, rfl⟩
                    · go_wp2_with fail
                      go_meet
                      case rel => exact ⟨rfl, rfl⟩
                    · go_wp2_with fail
                      go_meet
                      case rel => exact ⟨rfl, rfl⟩
                case rest =>
                  obtain ⟨rfl, hwx⟩ := hcut
                  replace hwx := hwx.symm
                  subst hwx
                  have g1 : a1.tmod 20 = a1 % 20 := Int.tmod_eq_emod_of_nonneg ha1.1
                  have g2 : IntKind.u8.wrap (a1 % 20) = a1 % 20 := by rw [IntKind.wrap_u8]; omega
                  have g3 : IntKind.i64.wrap (a1 % 20) = a1 % 20 := by rw [IntKind.wrap_i64]; omega
                  have hr1 : 0 ≤ a1 % 20 ∧ a1 % 20 < 20 := by omega
                  generalize a1 % 20 = r1 at *
                  go_upto_region 27 with fail
                  go_cut [163] from 145 to 162 (fun s163 wx => s163 = .bool false ∧ ∃ B3 keep, Hid (KeepOk x2 keep) ∧ Play w0 wx T F D y2 B3 ((x2.crashed keep).limit r1) ∧ ViewAt wx (F ++ B3) X1 A1 c1 (begTx 64 8 40 us) x' ∧ Hid (wb = true → y.stateE = 0 ∧ ViewAt wx (F ++ B3) X2 A3 c3 y x'))
                  case first =>
                    as_aux_lemma =>
                      refine wp_region_mix [.take 0, .take 1, .take 3, .take 4, .take 5, .one 2, .one 6, .one 7, .take 8, .take 9, .take 10, .take 11, .take 12, .take 13, .take 14, .take 15, .one 16, .take 17, .take 18] 19 (fun W => W.cell? ⟨w.heap.size, 0, none⟩ = some (.int .u8 a0) ∧ W.cell? ⟨w.heap.size, 1, none⟩ = some (.int .u64 b0) ∧ W.cell? ⟨w.heap.size, 2, none⟩ = some (.int .u8 a1) ∧ W.cell? ⟨w.heap.size, 3, none⟩ = some (.int .u64 b1) ∧ w.heap.size < W.heap.size) (by kernel_rfl) (by kernel_rfl) (fun _ _ _ _ _ h => h) (HC.out _ (hp4.bl.drew)) ?_
                      simp only [List.map_cons, List.map_nil, Ms.fill, List.getD_cons_zero, List.getD_cons_succ]
                      iterate 5 (refine mixT_take (by rfl) ?_ (fun w' hw' => ?_) ?_; rotate_left; (focus (go_simp; (try with_reducible rfl))); (try simp only [Act.put, List.setIfInBounds_toArray, List.set_cons_zero, List.set_cons_succ]))
                      refine mixT_step (by rfl) fun K hK => ?_
                      go_simp
                      refine (pending_dev D B2 x2 wc.drew hp4.td.dev.drew).mono ?_
                      rintro e w20 ⟨rfl, hw20⟩
                      have h20 := (hp4.below (Below.refl wc.heap.size wc).drew)
                      have va20 := (va4.below (Below.refl wc.heap.size wc).drew)
                      have HW20 : Hid (wb = true → y.stateE = 0 ∧ ViewAt wc.drew (F ++ B2) X2 A3 c3 y x') := Lib.hid fun h => ⟨(HW4.out h).1, (HW4.out h).2.below (Below.refl wc.heap.size wc).drew⟩
                      rw [← hw20] at h20 va20 HW20
                      refine hK _ _ (fun _ => HC.out _ h20.bl) ?_
                      clear hK K hw20
                      refine mixT_step (by rfl) fun K hK => ?_
                      go_simp
                      refine (kept10_any x2.cache.length (by have := h20.td.dev.ok.len; omega) b0 hb0 w20).mono ?_
                      rintro e w21 ⟨Ak, ck, keep, rfl, hRk, hAk, hkin, hasc, hkl, hb21⟩
                      have hlt20 := h20.td.dev.lt
                      have h21 := h20.below hb21
                      have va21 := va20.below hb21
                      have HW21 : Hid (wb = true → y.stateE = 0 ∧ ViewAt w21 (F ++ B2) X2 A3 c3 y x') := Lib.hid fun h => ⟨(HW20.out h).1, (HW20.out h).2.below hb21⟩
                      refine hK _ _ (fun _ => HC.out _ h21.bl) ?_
                      clear hK K
                      refine mixT_step (by rfl) fun K hK => ?_
                      go_simp
                      refine (play_crash h21 Ak ck keep hkin hasc (by have := h20.td.dev.ok.len; omega) hRk (fun ad e hm => by have := hAk ad e; have := (hlt20 _ hm).2; omega)).mono ?_
                      rintro e w22 ⟨rfl, B3, h22, g22⟩
                      have va22 := va21.grow g22
                      have HW22 : Hid (wb = true → y.stateE = 0 ∧ ViewAt w22 (F ++ B3) X2 A3 c3 y x') := Lib.hid fun h => ⟨(HW21.out h).1, (HW21.out h).2.grow g22⟩
                      refine hK _ _ (fun _ => HC.out _ h22.bl) ?_
                      have HKP : Hid (KeepOk x2 keep) := Lib.hid hkin
                      clear hK K hb21 hRk hAk hasc hkl hlt20 h20 va20 HW20 h21 va21 HW21 g22 hkin
                      iterate 8 (refine mixT_take (by rfl) ?_ (fun w' hw' => ?_) ?_; rotate_left; (focus (go_simp; (try with_reducible rfl))); (try simp only [Act.put, List.setIfInBounds_toArray, List.set_cons_zero, List.set_cons_succ]))
                      refine mixT_step (by rfl) fun K hK => ?_
                      go_simp
                      refine (play_limit h22 r1 (by omega)).mono ?_
                      rintro e w23 ⟨rfl, h23, g23⟩
                      have va23 := va22.grow g23
                      have HW23 : Hid (wb = true → y.stateE = 0 ∧ ViewAt w23 (F ++ B3) X2 A3 c3 y x') := Lib.hid fun h => ⟨(HW22.out h).1, (HW22.out h).2.grow g23⟩
                      refine hK _ _ (fun _ => HC.out _ h23.bl) ?_
                      clear hK K g23 h22 va22 HW22
                      iterate 2 (refine mixT_take (by rfl) ?_ (fun w' hw' => ?_) ?_; rotate_left; (focus (go_simp; (try with_reducible rfl))); (try simp only [Act.put, List.setIfInBounds_toArray, List.set_cons_zero, List.set_cons_succ]))
                      refine mixT_nil ?_
                      go_wp2_with fail
                      go_meet
                      case rel => exact ⟨rfl, B3, keep, HKP, h23, va23, HW23⟩
                  case rest =>
                    obtain ⟨rfl, B3, keep, HKP, hp5, va5, HW5⟩ := hcut
                    clear hp4 va4 HW4 g1 g2 g3
                    have hAF := HAF.out keep HKP.out
                    go_wp2_with fail
                    refine (plain_any wc).mono ?_
                    rintro e w30 ⟨rfl, hb30⟩
                    have h30 := hp5.below hb30
                    go_wp2_with fail
                    refine (rjournal_any 64 8 40 w30).mono ?_
                    rintro e w31 ⟨rfl, hb31⟩
                    have h31 := h30.below hb31
                    have va31 := (va5.below hb30).below hb31
                    have HW31 : Hid (wb = true → y.stateE = 0 ∧ ViewAt w31 (F ++ B3) X2 A3 c3 y x') := Lib.hid fun h => ⟨(HW5.out h).1, ((HW5.out h).2.below hb30).below hb31⟩
                    have hrp := play_replay h31
                    rw [show rgJ 64 8 40 = 1 from by decide]
                    obtain ⟨m3, e3, x3, hz3⟩ : ∃ m3 e3 x3, ((x2.crashed keep).limit r1).replay 1 8 = (m3, e3, x3) := ⟨_, _, _, rfl⟩
                    rw [hz3] at hrp hAF
                    simp only at hrp hAF
                    obtain ⟨he3, hAF2⟩ := hAF
                    have HA2 := Lib.hid hAF2
                    clear hAF2 hz3 h30 hb30 hb31 hp5 va5 HW5 HAF
                    go_wp2_with fail
                    refine hrp.mono ?_
                    rintro e w32 ⟨rfl, B4, h32, g32⟩
                    have va32 := va31.grow g32
                    have HW32 : Hid (wb = true → y.stateE = 0 ∧ ViewAt w32 (F ++ B4) X2 A3 c3 y x') := Lib.hid fun h => ⟨(HW31.out h).1, (HW31.out h).2.grow g32⟩
                    clear hrp h31 va31 HW31 g32
                    go_upto_region 30 with fail
                    go_cut [187] from 171 to 186 (fun s187 wx => s187 = .bool false ∧ ∃ B5 keep2, Hid (KeepOk x3 keep2) ∧ Play w0 wx T F D y2 B5 (x3.crashed keep2) ∧ ViewAt wx (F ++ B5) X1 A1 c1 (begTx 64 8 40 us) x' ∧ Hid (wb = true → y.stateE = 0 ∧ ViewAt wx (F ++ B5) X2 A3 c3 y x'))
                    case first =>
                        rcases he3 with rfl | rfl
                        · as_aux_lemma =>
                          refine wp_region_mix [.take 0, .take 1, .take 2, .take 3, .take 4, .take 5, .take 6, .take 7, .take 8, .take 10, .take 11, .take 12, .one 9, .one 13, .one 14, .take 15, .take 16] 17 (fun W => W.cell? ⟨w.heap.size, 0, none⟩ = some (.int .u8 a0) ∧ W.cell? ⟨w.heap.size, 1, none⟩ = some (.int .u64 b0) ∧ W.cell? ⟨w.heap.size, 2, none⟩ = some (.int .u8 a1) ∧ W.cell? ⟨w.heap.size, 3, none⟩ = some (.int .u64 b1) ∧ w.heap.size < W.heap.size) (by kernel_rfl) (by kernel_rfl) (fun _ _ _ _ _ h => h) (HC.out _ (h32.bl.drew)) ?_
                          simp only [List.map_cons, List.map_nil, Ms.fill, List.getD_cons_zero, List.getD_cons_succ]
                          iterate 3 (refine mixT_take (by rfl) ?_ (fun w' hw' => ?_) ?_; rotate_left; (focus (go_simp; (try with_reducible rfl))); (try simp only [Act.put, List.setIfInBounds_toArray, List.set_cons_zero, List.set_cons_succ]))
                          iterate 2 ((first | (refine mixT_skip (by rfl) ?_) | (refine mixT_pass (by rfl) ?_)); (try simp only [Act.put, List.setIfInBounds_toArray, List.set_cons_zero, List.set_cons_succ]))
                          iterate 7 (refine mixT_take (by rfl) ?_ (fun w' hw' => ?_) ?_; rotate_left; (focus (go_simp; (try with_reducible rfl))); (try simp only [Act.put, List.setIfInBounds_toArray, List.set_cons_zero, List.set_cons_succ]))
                          refine mixT_step (by rfl) fun K hK => ?_
                          go_simp
                          refine (pending_dev D B4 x3 w32.drew h32.td.dev.drew).mono ?_
                          rintro e w20 ⟨rfl, hw20⟩
                          have h20 := (h32.below (Below.refl w32.heap.size w32).drew)
                          have va20 := (va32.below (Below.refl w32.heap.size w32).drew)
                          have HW20 : Hid (wb = true → y.stateE = 0 ∧ ViewAt w32.drew (F ++ B4) X2 A3 c3 y x') := Lib.hid fun h => ⟨(HW32.out h).1, (HW32.out h).2.below (Below.refl w32.heap.size w32).drew⟩
                          rw [← hw20] at h20 va20 HW20
                          refine hK _ _ (fun _ => HC.out _ h20.bl) ?_
                          clear hK K hw20
                          refine mixT_step (by rfl) fun K hK => ?_
                          go_simp
                          refine (kept10_any x3.cache.length (by have := h20.td.dev.ok.len; omega) b1 hb1 w20).mono ?_
                          rintro e w21 ⟨Ak, ck, keep2, rfl, hRk, hAk, hkin, hasc, hkl, hb21⟩
                          have hlt20 := h20.td.dev.lt
                          have h21 := h20.below hb21
                          have va21 := va20.below hb21
                          have HW21 : Hid (wb = true → y.stateE = 0 ∧ ViewAt w21 (F ++ B4) X2 A3 c3 y x') := Lib.hid fun h => ⟨(HW20.out h).1, (HW20.out h).2.below hb21⟩
                          refine hK _ _ (fun _ => HC.out _ h21.bl) ?_
                          clear hK K
                          refine mixT_step (by rfl) fun K hK => ?_
                          go_simp
                          refine (play_crash h21 Ak ck keep2 hkin hasc (by have := h20.td.dev.ok.len; omega) hRk (fun ad e hm => by have := hAk ad e; have := (hlt20 _ hm).2; omega)).mono ?_
                          rintro e w22 ⟨rfl, B5, h22, g22⟩
                          have va22 := va21.grow g22
                          have HW22 : Hid (wb = true → y.stateE = 0 ∧ ViewAt w22 (F ++ B5) X2 A3 c3 y x') := Lib.hid fun h => ⟨(HW21.out h).1, (HW21.out h).2.grow g22⟩
                          refine hK _ _ (fun _ => HC.out _ h22.bl) ?_
                          have HKP2 : Hid (KeepOk x3 keep2) := Lib.hid hkin
                          clear hK K hb21 hRk hAk hasc hkl hlt20 h20 va20 HW20 h21 va21 HW21 g22 hkin
                          iterate 2 (refine mixT_take (by rfl) ?_ (fun w' hw' => ?_) ?_; rotate_left; (focus (go_simp; (try with_reducible rfl))); (try simp only [Act.put, List.setIfInBounds_toArray, List.set_cons_zero, List.set_cons_succ]))
                          refine mixT_nil ?_
                          go_wp2_with fail
                          go_meet
                          case rel => exact ⟨rfl, B5, keep2, HKP2, h22, va22, HW22⟩
                        · as_aux_lemma =>
                          refine wp_region_mix [.take 0, .take 1, .take 2, .take 3, .take 4, .take 5, .take 6, .take 7, .take 8, .take 10, .take 11, .take 12, .one 9, .one 13, .one 14, .take 15, .take 16] 17 (fun W => W.cell? ⟨w.heap.size, 0, none⟩ = some (.int .u8 a0) ∧ W.cell? ⟨w.heap.size, 1, none⟩ = some (.int .u64 b0) ∧ W.cell? ⟨w.heap.size, 2, none⟩ = some (.int .u8 a1) ∧ W.cell? ⟨w.heap.size, 3, none⟩ = some (.int .u64 b1) ∧ w.heap.size < W.heap.size) (by kernel_rfl) (by kernel_rfl) (fun _ _ _ _ _ h => h) (HC.out _ (h32.bl.drew)) ?_
                          simp only [List.map_cons, List.map_nil, Ms.fill, List.getD_cons_zero, List.getD_cons_succ]
                          iterate 12 (refine mixT_take (by rfl) ?_ (fun w' hw' => ?_) ?_; rotate_left; (focus (go_simp; (try with_reducible rfl))); (try simp only [Act.put, List.setIfInBounds_toArray, List.set_cons_zero, List.set_cons_succ]))
                          refine mixT_step (by rfl) fun K hK => ?_
                          go_simp
                          refine (pending_dev D B4 x3 w32.drew h32.td.dev.drew).mono ?_
                          rintro e w20 ⟨rfl, hw20⟩
                          have h20 := (h32.below (Below.refl w32.heap.size w32).drew)
                          have va20 := (va32.below (Below.refl w32.heap.size w32).drew)
                          have HW20 : Hid (wb = true → y.stateE = 0 ∧ ViewAt w32.drew (F ++ B4) X2 A3 c3 y x') := Lib.hid fun h => ⟨(HW32.out h).1, (HW32.out h).2.below (Below.refl w32.heap.size w32).drew⟩
                          rw [← hw20] at h20 va20 HW20
                          refine hK _ _ (fun _ => HC.out _ h20.bl) ?_
                          clear hK K hw20
                          refine mixT_step (by rfl) fun K hK => ?_
                          go_simp
                          refine (kept10_any x3.cache.length (by have := h20.td.dev.ok.len; omega) b1 hb1 w20).mono ?_
                          rintro e w21 ⟨Ak, ck, keep2, rfl, hRk, hAk, hkin, hasc, hkl, hb21⟩
                          have hlt20 := h20.td.dev.lt
                          have h21 := h20.below hb21
                          have va21 := va20.below hb21
                          have HW21 : Hid (wb = true → y.stateE = 0 ∧ ViewAt w21 (F ++ B4) X2 A3 c3 y x') := Lib.hid fun h => ⟨(HW20.out h).1, (HW20.out h).2.below hb21⟩
                          refine hK _ _ (fun _ => HC.out _ h21.bl) ?_
                          clear hK K
                          refine mixT_step (by rfl) fun K hK => ?_
                          go_simp
                          refine (play_crash h21 Ak ck keep2 hkin hasc (by have := h20.td.dev.ok.len; omega) hRk (fun ad e hm => by have := hAk ad e; have := (hlt20 _ hm).2; omega)).mono ?_
                          rintro e w22 ⟨rfl, B5, h22, g22⟩
                          have va22 := va21.grow g22
                          have HW22 : Hid (wb = true → y.stateE = 0 ∧ ViewAt w22 (F ++ B5) X2 A3 c3 y x') := Lib.hid fun h => ⟨(HW21.out h).1, (HW21.out h).2.grow g22⟩
                          refine hK _ _ (fun _ => HC.out _ h22.bl) ?_
                          have HKP2 : Hid (KeepOk x3 keep2) := Lib.hid hkin
                          clear hK K hb21 hRk hAk hasc hkl hlt20 h20 va20 HW20 h21 va21 HW21 g22 hkin
                          iterate 2 (refine mixT_take (by rfl) ?_ (fun w' hw' => ?_) ?_; rotate_left; (focus (go_simp; (try with_reducible rfl))); (try simp only [Act.put, List.setIfInBounds_toArray, List.set_cons_zero, List.set_cons_succ]))
                          refine mixT_nil ?_
                          go_wp2_with fail
                          go_meet
                          case rel => exact ⟨rfl, B5, keep2, HKP2, h22, va22, HW22⟩
                    case rest =>
                      obtain ⟨rfl, B5, keep2, HKP2, hp6, va6, HW6⟩ := hcut
                      clear h32 va32 HW32 he3
                      obtain ⟨m5, e5, x5, hz5⟩ : ∃ m5 e5 x5, (x3.crashed keep2).replay 1 8 = (m5, e5, x5) := ⟨_, _, _, rfl⟩
                      have hend := HA2.out keep2 HKP2.out
                      have hrp0 := fun W (h : Play w0 W T F D y2 B5 (x3.crashed keep2)) => play_replay h
                      rw [hz5] at hend
                      simp only [hz5] at hrp0
                      obtain ⟨rfl, -, -, hfin⟩ := hend
                      clear HA2 hz5
                      go_wp2_with fail
                      refine (plain_any wc).mono ?_
                      rintro e w33 ⟨rfl, hb33⟩
                      have h33 := hp6.below hb33
                      go_wp2_with fail
                      refine (rjournal_any 64 8 40 w33).mono ?_
                      rintro e w34 ⟨rfl, hb34⟩
                      have h34 := h33.below hb34
                      have va34 := (va6.below hb33).below hb34
                      have HW34 : Hid (wb = true → y.stateE = 0 ∧ ViewAt w34 (F ++ B5) X2 A3 c3 y x') := Lib.hid fun h => ⟨(HW6.out h).1, ((HW6.out h).2.below hb33).below hb34⟩
                      have hrp := hrp0 _ h34
                      rw [show rgJ 64 8 40 = 1 from by decide]
                      clear hrp0 h33 hp6 va6 HW6 hb33 hb34
                      go_wp2_with fail
                      refine hrp.mono ?_
                      rintro e w35 ⟨rfl, B6, h35, g35⟩
                      have va35 := va34.grow g35
                      have HW35 : Hid (wb = true → y.stateE = 0 ∧ ViewAt w35 (F ++ B6) X2 A3 c3 y x') := Lib.hid fun h => ⟨(HW34.out h).1, (HW34.out h).2.grow g35⟩
                      clear hrp h34 va34 HW34 g35
                      go_wp2_with fail
                      refine (plain_any w35).mono ?_
                      rintro e w41 ⟨rfl, hb41⟩
                      have h41 := h35.below hb41
                      have va41 := va35.below hb41
                      have HW41 : Hid (wb = true → y.stateE = 0 ∧ ViewAt w41 (F ++ B6) X2 A3 c3 y x') := Lib.hid fun h => ⟨(HW35.out h).1, (HW35.out h).2.below hb41⟩
                      clear h35 va35 HW35 hb41 hwE
                      rcases hfin with ⟨hE0, hlv, hal⟩ | ⟨hwb, hlv, hal⟩
                      · as_aux_lemma =>
                          have f42 := play_begin h41 rg64 hlv
                          go_wp2_with fail
                          refine f42.mono ?_
                          rintro e w42 ⟨T9, F9, rfl, h42, g42⟩
                          have va42 := va41.grow g42
                          have HW42 : Hid (wb = true → y.stateE = 0 ∧ ViewAt w42 (F9 ++ B6) X2 A3 c3 y x') := Lib.hid fun h => ⟨(HW41.out h).1, (HW41.out h).2.grow g42⟩
                          have hlt42 := h42.devlt
                          clear f42 h41 va41 HW41 g42
                          go_wp2_with fail
                          refine (seen_good h42 rfl).mono ?_
                          rintro e w43 ⟨hb43, A9, c9, rfl, hr43, hA43⟩
                          have h43 := h42.below hb43
                          have hlt43 := h43.devlt
                          obtain ⟨vN, hvN⟩ : ∃ vN, vN = viewA (begTx 64 8 40 us).s (begTx 64 8 40 us).j (begTx 64 8 40 us).i A9 (begTx 64 8 40 us).now.length c9 (seenK (begTx 64 8 40 us) x5 64) (seenD (begTx 64 8 40 us) x5 64) := ⟨_, rfl⟩
                          rw [← hvN]
                          have hz := zeroView
                          have hszN : vN.size = 132 := by rw [hvN]; exact viewA_size (seenK_length _ _ 64) (seenD_length _ _ 64)
                          have hone : vN.all (·.oneCell') = true := by rw [hvN]; exact viewA_one
                          have bV0 : Blk (w43.alloc (.cells view0 92)) w43.heap.size 92 view0 := Blk.new _ _ _
                          have hst := storeRow' (ty := 92) (vs := vN) bV0 (by rw [hszN]; exact viewA_size (by rfl) (by rfl)) hone (by rw [hszN]; exact sizeView _)
                          obtain ⟨w44, hw44⟩ : ∃ w44, w44 = (w43.alloc (.cells view0 92)).setRow w43.heap.size vN := ⟨_, rfl⟩
                          have bV44 : Blk w44 w43.heap.size 92 vN := by rw [hw44]; exact bV0.setRow
                          have hb44 : Below w43.heap.size w43 w44 := by rw [hw44]; exact Below.setRow ((Below.refl _ _).alloc (Nat.le_refl _) _) (Nat.le_refl _) _
                          rw [← hw44] at hst
                          have h44 := h43.below hb44
                          have va44 := (va42.below hb43).below hb44
                          have HW44 : Hid (wb = true → y.stateE = 0 ∧ ViewAt w44 (F9 ++ B6) X2 A3 c3 y x') := Lib.hid fun h => ⟨(HW42.out h).1, ((HW42.out h).2.below hb43).below hb44⟩
                          have hr44 := hr43.below hb44
                          have hlN : ∀ W, Below w44.heap.size w44 W → (Instr.loadAt 92 (.pointer (some ⟨w43.heap.size, 0, none⟩))).run Tryz.prog W = .ok (.agg vN) W := fun W hW => view_load (bV44.belowAll hW) hszN
                          have HN := Lib.hid hlN
                          have HVN := Lib.hid hvN
                          have HR44 := Lib.hid hr44
                          have B44 := h44.bl
                          have HUL : Hid (us.length ≤ maxLen) := Lib.hid (by have := hlv.len; rw [rgB64] at this; rw [this]; unfold maxLen; omega)
                          clear hlt42 hlt43 bV0 hone hw44 hb44 hb43 hr43 hA43 h43 h42 hvN va42 HW42 hr44 bV44 hszN h44 hlN
                          have HAL := Lib.hid hal.lists
                          have dE : (E != 0) = true := by simpa using hE0
                          obtain ⟨vW, hvW⟩ : ∃ vW, vW = viewA (begTx 64 8 40 us).s (begTx 64 8 40 us).j (begTx 64 8 40 us).i A1 (begTx 64 8 40 us).now.length c1 (seenK (begTx 64 8 40 us) x' 64) (seenD (begTx 64 8 40 us) x' 64) := ⟨_, rfl⟩
                          have HVW := Lib.hid hvW
                          have hlW : ∀ W, Below w44.heap.size w44 W → (Instr.loadAt 92 (.pointer (some ⟨X1, 0, none⟩))).run Tryz.prog W = .ok (.agg vW) W := fun W hW => by rw [hvW]; exact view_load (va44.box.belowAll hW) (viewA_size (seenK_length _ _ 64) (seenD_length _ _ 64))
                          have HW := Lib.hid hlW
                          have hsm := fun (W : World) (hW : Below w44.heap.size w44 W) => same10_any 64 8 40 64 8 40 A9 A1 c9 c1 us us (seenK (begTx 64 8 40 us) x5 64) (seenK (begTx 64 8 40 us) x' 64) (seenD (begTx 64 8 40 us) x5 64) (seenD (begTx 64 8 40 us) x' 64) (seenK_length _ _ 64) (seenK_length _ _ 64) (seenD_length _ _ 64) (seenD_length _ _ 64) HUL.out HUL.out W (HR44.out.below hW) (va44.rd.below hW)
                          have HSM := Lib.hid hsm
                          clear hal hE0 hlv hlW hsm hvW
                          cases wb
                          · have l1 := HN.out w44 (Below.refl _ _)
                            have l2 := HW.out w44 (Below.refl _ _)
                            go_wp2_with (first | (refine wpList_storeBy rfl _ _ _ rfl _ _ rfl rfl hst ?_) | (refine wpList_loadByG (by rfl) _ _ rfl (.agg vN) (.pointer (some ⟨w43.heap.size, 0, none⟩)) rfl l1 ?_) | (refine wpList_loadByG (by rfl) _ _ rfl (.agg vW) (.pointer (some ⟨X1, 0, none⟩)) rfl l2 ?_))
                            rw [HVN.out, HVW.out]
                            refine (HSM.out w44 (Below.refl _ _)).mono ?_
                            rintro e w45 ⟨hb45, b4, rfl, hb4⟩
                            obtain rfl : b4 = true := hb4 (by refine ⟨?_, ?_, ?_, ?_, ?_, ?_⟩ <;> first | trivial | rfl | exact HAL.out.1 | exact HAL.out.2)
                            have B45 := B44.trans (hb45.mono B44.size)
                            go_wp2_with fail
                            refine (awake10_any w45 (HH.out.below B45 hp0)).mono ?_
                            rintro e wZ ⟨rfl, hbZ⟩
                            go_wp2_with fail
                            go_ret
                            exact ⟨rfl, HBA.out.trans ((B45.trans (hbZ.mono B45.size)).mono HBA.out.size)⟩
                          · obtain ⟨hyE, vy⟩ := HW44.out rfl
                            obtain ⟨vY, hvY⟩ : ∃ vY, vY = viewA y.s y.j y.i A3 y.now.length c3 (seenK y x' 64) (seenD y x' 64) := ⟨_, rfl⟩
                            have HVY := Lib.hid hvY
                            have l1 := HN.out w44 (Below.refl _ _)
                            have l2 : (Instr.loadAt 92 (.pointer (some ⟨X2, 0, none⟩))).run Tryz.prog w44 = .ok (.agg vY) w44 := by rw [hvY]; exact view_load vy.box (viewA_size (seenK_length _ _ 64) (seenD_length _ _ 64))
                            have hyl : y.now.length ≤ maxLen := by have := HYO.out.now; rw [this]; have := rgB_bds y.s y.j y.i; unfold maxLen; omega
                            have hs3 := same10_any 64 8 40 y.s y.j y.i A9 A3 c9 c3 us y.now (seenK (begTx 64 8 40 us) x5 64) (seenK y x' 64) (seenD (begTx 64 8 40 us) x5 64) (seenD y x' 64) (seenK_length _ _ 64) (seenK_length _ _ 64) (seenD_length _ _ 64) (seenD_length _ _ 64) HUL.out hyl w44 HR44.out vy.rd
                            clear hvY hyl hyE
                            go_wp2_with (first | (refine wpList_storeBy rfl _ _ _ rfl _ _ rfl rfl hst ?_) | (refine wpList_loadByG (by rfl) _ _ rfl (.agg vN) (.pointer (some ⟨w43.heap.size, 0, none⟩)) rfl l1 ?_) | (refine wpList_loadByG (by rfl) _ _ rfl (.agg vY) (.pointer (some ⟨X2, 0, none⟩)) rfl l2 ?_))
                            rw [HVN.out, HVY.out]
                            refine hs3.mono ?_
                            rintro e w45 ⟨hb45, b3, rfl, -⟩
                            have B45 := B44.trans (hb45.mono B44.size)
                            clear hs3 l1 l2 vy
                            cases b3
                            · have l1 := HN.out w45 hb45
                              have l2 := HW.out w45 hb45
                              have hsW := HSM.out w45 hb45
                              go_wp2_with (first | (refine wpList_loadByG (by rfl) _ _ rfl (.agg vN) (.pointer (some ⟨w43.heap.size, 0, none⟩)) rfl l1 ?_) | (refine wpList_loadByG (by rfl) _ _ rfl (.agg vW) (.pointer (some ⟨X1, 0, none⟩)) rfl l2 ?_))
                              rw [HVN.out, HVW.out]
                              refine hsW.mono ?_
                              rintro e w46 ⟨hb46, b4, rfl, hb4⟩
                              obtain rfl : b4 = true := hb4 (by refine ⟨?_, ?_, ?_, ?_, ?_, ?_⟩ <;> first | trivial | rfl | exact HAL.out.1 | exact HAL.out.2)
                              have B46 := B45.trans (hb46.mono B45.size)
                              go_wp2_with fail
                              refine (awake10_any w46 (HH.out.below B46 hp0)).mono ?_
                              rintro e wZ ⟨rfl, hbZ⟩
                              go_wp2_with fail
                              go_ret
                              exact ⟨rfl, HBA.out.trans ((B46.trans (hbZ.mono B46.size)).mono HBA.out.size)⟩
                            · go_wp2_with fail
                              refine (awake10_any w45 (HH.out.below B45 hp0)).mono ?_
                              rintro e wZ ⟨rfl, hbZ⟩
                              go_wp2_with fail
                              go_ret
                              exact ⟨rfl, HBA.out.trans ((B45.trans (hbZ.mono B45.size)).mono HBA.out.size)⟩
                      · as_aux_lemma =>
                          subst hwb
                          obtain ⟨hyE, vy41⟩ := HW41.out (by first | rfl | trivial)
                          clear HW41
                          have f42 := play_begin h41 rg64 hlv
                          go_wp2_with fail
                          refine f42.mono ?_
                          rintro e w42 ⟨T9, F9, rfl, h42, g42⟩
                          have va42 := va41.grow g42
                          have vy42 := vy41.grow g42
                          have hlt42 := h42.devlt
                          clear f42 h41 va41 vy41 g42
                          go_wp2_with fail
                          refine (seen_good h42 rfl).mono ?_
                          rintro e w43 ⟨hb43, A9, c9, rfl, hr43, hA43⟩
                          have h43 := h42.below hb43
                          have hlt43 := h43.devlt
                          obtain ⟨vN, hvN⟩ : ∃ vN, vN = viewA (begTx 64 8 40 y.now).s (begTx 64 8 40 y.now).j (begTx 64 8 40 y.now).i A9 (begTx 64 8 40 y.now).now.length c9 (seenK (begTx 64 8 40 y.now) x5 64) (seenD (begTx 64 8 40 y.now) x5 64) := ⟨_, rfl⟩
                          rw [← hvN]
                          have hz := zeroView
                          have hszN : vN.size = 132 := by rw [hvN]; exact viewA_size (seenK_length _ _ 64) (seenD_length _ _ 64)
                          have hone : vN.all (·.oneCell') = true := by rw [hvN]; exact viewA_one
                          have bV0 : Blk (w43.alloc (.cells view0 92)) w43.heap.size 92 view0 := Blk.new _ _ _
                          have hst := storeRow' (ty := 92) (vs := vN) bV0 (by rw [hszN]; exact viewA_size (by rfl) (by rfl)) hone (by rw [hszN]; exact sizeView _)
                          obtain ⟨w44, hw44⟩ : ∃ w44, w44 = (w43.alloc (.cells view0 92)).setRow w43.heap.size vN := ⟨_, rfl⟩
                          have bV44 : Blk w44 w43.heap.size 92 vN := by rw [hw44]; exact bV0.setRow
                          have hb44 : Below w43.heap.size w43 w44 := by rw [hw44]; exact Below.setRow ((Below.refl _ _).alloc (Nat.le_refl _) _) (Nat.le_refl _) _
                          rw [← hw44] at hst
                          have h44 := h43.below hb44
                          have va44 := (va42.below hb43).below hb44
                          have vy44 := (vy42.below hb43).below hb44
                          have hr44 := hr43.below hb44
                          have hlN : ∀ W, Below w44.heap.size w44 W → (Instr.loadAt 92 (.pointer (some ⟨w43.heap.size, 0, none⟩))).run Tryz.prog W = .ok (.agg vN) W := fun W hW => view_load (bV44.belowAll hW) hszN
                          have HN := Lib.hid hlN
                          have HVN := Lib.hid hvN
                          have HR44 := Lib.hid hr44
                          have B44 := h44.bl
                          have HUL : Hid (y.now.length ≤ maxLen) := Lib.hid (by have := hlv.len; rw [rgB64] at this; rw [this]; unfold maxLen; omega)
                          clear hlt42 hlt43 bV0 hone hw44 hb44 hb43 hr43 hA43 h43 h42 hvN va42 vy42 hr44 bV44 hszN h44 hlN
                          have HAL := Lib.hid hal.lists
                          have HLK := Lib.hid HGT.out.like
                          have vy := vy44
                          obtain ⟨vY, hvY⟩ : ∃ vY, vY = viewA y.s y.j y.i A3 y.now.length c3 (seenK y x' 64) (seenD y x' 64) := ⟨_, rfl⟩
                          have HVY := Lib.hid hvY
                          have l1 := HN.out w44 (Below.refl _ _)
                          have l2 : (Instr.loadAt 92 (.pointer (some ⟨X2, 0, none⟩))).run Tryz.prog w44 = .ok (.agg vY) w44 := by rw [hvY]; exact view_load vy.box (viewA_size (seenK_length _ _ 64) (seenD_length _ _ 64))
                          have hs3 := same10_any 64 8 40 y.s y.j y.i A9 A3 c9 c3 y.now y.now (seenK (begTx 64 8 40 y.now) x5 64) (seenK y x' 64) (seenD (begTx 64 8 40 y.now) x5 64) (seenD y x' 64) (seenK_length _ _ 64) (seenK_length _ _ 64) (seenD_length _ _ 64) (seenD_length _ _ 64) HUL.out HUL.out w44 HR44.out vy.rd
                          clear hal hlv hvY hyE
                          go_wp2_with (first | (refine wpList_storeBy rfl _ _ _ rfl _ _ rfl rfl hst ?_) | (refine wpList_loadByG (by rfl) _ _ rfl (.agg vN) (.pointer (some ⟨w43.heap.size, 0, none⟩)) rfl l1 ?_) | (refine wpList_loadByG (by rfl) _ _ rfl (.agg vY) (.pointer (some ⟨X2, 0, none⟩)) rfl l2 ?_))
                          rw [HVN.out, HVY.out]
                          refine hs3.mono ?_
                          rintro e w45 ⟨hb45, b3, rfl, hb3⟩
                          obtain rfl : b3 = true := hb3 (by refine ⟨?_, ?_, ?_, ?_, ?_, ?_⟩ <;> first | trivial | rfl | exact HLK.out.s.symm | exact HLK.out.j.symm | exact HLK.out.i.symm | exact HAL.out.1 | exact HAL.out.2)
                          have B45 := B44.trans (hb45.mono B44.size)
                          go_wp2_with fail
                          refine (awake10_any w45 (HH.out.below B45 hp0)).mono ?_
                          rintro e wZ ⟨rfl, hbZ⟩
                          go_wp2_with fail
                          go_ret
                          exact ⟨rfl, HBA.out.trans ((B45.trans (hbZ.mono B45.size)).mono HBA.out.size)⟩
end Go.Proofs.YtloddiipepiocaaGreatDoor
/- P10.9: TxnAtomic: the row proved, and its tied card. -/
namespace Go.Proofs.YtloddiipepiocaaGreatDoor
open Go.ChangeShapes Go.WideShapes Go.ChangeAt Go.RowKit Go.Joins Go.Deep

theorem Tryz.cellsU64V : Tryz.prog.cellsOf 81 = 1 := by kernel_rfl
theorem Tryz.cellsCrash : Tryz.prog.cellsOf 83 = 2 := by kernel_rfl
theorem Tryz.cellsCrash2 : Tryz.prog.cellsOf 84 = 4 := by kernel_rfl
theorem wfV_u64 {f : Int} (h : (Lit.int .u64 f).wf = true) : 0 ≤ f ∧ f < 18446744073709551616 := by
  simp [Lit.wf, IntKind.min, IntKind.max, IntKind.bits, IntKind.signed] at h; omega

section
variable {H : Type} {enc : TypeId × Value → H} {W : World}
set_option maxRecDepth 100000 in
theorem open_crash {fuel : Nat} {cs : List Value} (hsz : cs.length = 2) {x : DataW H × List MemPlace} (h : DataW.trod enc Tryz.prog W 0 (fun _ => true) true fuel 83 cs = some x) :
    ∃ a b : Int, cs = [.int .u8 a, .int .u64 b] ∧ (0 ≤ a ∧ a ≤ 255) ∧ (0 ≤ b ∧ b < 18446744073709551616) := by
  match cs, hsz with
  | [c0, c1], _ =>
    obtain ⟨xs, n, _, _, _, hlen, hg⟩ := DataW.trod_struct Tryz.underlying83 h
    have g0 : DataW.trod enc Tryz.prog W 0 (fun _ => true) true n 5 [c0] = xs[0]? := by have := hg 0 _ rfl; simpa [Tryz.cellsU8, Value.cells] using this
    have g1 : DataW.trod enc Tryz.prog W 0 (fun _ => true) true n 81 [c1] = xs[1]? := by have := hg 1 _ rfl; simpa [Tryz.cellsU64V, Value.cells] using this
    clear hg
    match xs, hlen with
    | [y0, y1], _ =>
      simp only [List.getElem?_cons_zero, List.getElem?_cons_succ] at g0 g1
      obtain ⟨a0, e0, _, w0⟩ := DataW.trod_int Tryz.underlying5 g0
      obtain ⟨a1, e1, _, w1⟩ := DataW.trod_int Tryz.underlying81 g1
      simp at e0 e1
      subst e0 e1
      exact ⟨a0, a1, rfl, wf_u8_iff w0, wfV_u64 w1⟩
end
theorem okWide_arr {P : Program} {w : World} {r : Reach} {base : Nat} {t : TypeId} {v : Value} {n : Nat} {e : TypeId} (ht : P.underlying t = some (.array n e)) (h : Value.okWide P w r base t v) : ∃ cs, v = .agg cs ∧ cs.size = P.cellsOf t := by
  simp only [Value.okWide, ht] at h
  obtain ⟨cs, h1, h2, _⟩ := h
  exact ⟨cs, h1, h2⟩
section
variable {H : Type} {enc : TypeId × Value → H} {W : World}
set_option maxRecDepth 100000 in
theorem open_crashes {r : Reach} {bb : Nat} {v : Value} {d : DataW H} {p : List MemPlace} (hv : Value.okWide Tryz.prog W r bb 84 v) (h : DataW.Trod enc Tryz.prog W 0 (fun _ => true) true 84 v d p) :
    ∃ a0 b0 a1 b1 : Int, v = .agg (crC a0 b0 a1 b1) ∧ (0 ≤ a0 ∧ a0 ≤ 255) ∧ (0 ≤ a1 ∧ a1 ≤ 255) ∧ (0 ≤ b0 ∧ b0 < 18446744073709551616) ∧ (0 ≤ b1 ∧ b1 < 18446744073709551616) := by
  obtain ⟨cs, rfl, hsz⟩ := okWide_arr Tryz.underlying84 hv
  rw [Tryz.cellsCrash2] at hsz
  obtain ⟨l0⟩ := cs
  obtain ⟨fuel, hf⟩ := h
  have hf2 : DataW.trod enc Tryz.prog W 0 (fun _ => true) true fuel 84 l0 = some (d, p) := by simpa [Value.cells] using hf
  match l0, hsz with
  | [c0, c1, c2, c3], _ =>
    obtain ⟨xs, n, _, _, _, hlen, hg⟩ := DataW.trod_array Tryz.underlying84 hf2
    have g0 : DataW.trod enc Tryz.prog W 0 (fun _ => true) true n 83 [c0, c1] = xs[0]? := by have := hg 0 (by decide); simpa [Tryz.cellsCrash] using this
    have g1 : DataW.trod enc Tryz.prog W 0 (fun _ => true) true n 83 [c2, c3] = xs[1]? := by have := hg 1 (by decide); simpa [Tryz.cellsCrash] using this
    clear hg
    match xs, hlen with
    | [y0, y1], _ =>
      simp only [List.getElem?_cons_zero, List.getElem?_cons_succ] at g0 g1
      obtain ⟨a0, b0, e0, h1, h2⟩ := open_crash rfl g0
      obtain ⟨a1, b1, e1, h3, h4⟩ := open_crash rfl g1
      simp only [List.cons.injEq, and_true] at e0 e1
      obtain ⟨rfl, rfl⟩ := e0
      obtain ⟨rfl, rfl⟩ := e1
      exact ⟨a0, b0, a1, b1, rfl, h1, h3, h2, h4⟩
end

set_option maxRecDepth 100000 in
theorem txnAtomic_lifted (os : Os) (started : os.Started) (H : Type) (enc : TypeId × Value → H) :
    ReturnsInHanded {} Tryz.checked os 5 .any (fun w args => (Rows.txnAtomicSpec.pre enc Tryz.prog Tryz.f5 [] false w args ∧ laidMetH Tryz.prog half1 w) ∧ sizedMet enc Tryz.prog Tryz.f5 (OpenSpec.ofChange Rows.txnAtomicSpec) false w args)
      (Rows.txnAtomicSpec.post enc Tryz.prog Tryz.f5 false true false false) := by
  refine returnsInHanded_of_change_and (C := Tryz.checked) (X := fun w _ => laidMetH Tryz.prog half1 w) (fun _ _ _ hh h => h.of_heap hh) Tryz.own started (by kernel_rfl) Tryz.func5
    (ChangeSpec.witness_shaped (enc := enc) (C := Tryz.checked) (os := os) (X := fun w _ => laidMetH Tryz.prog half1 w) false (World.doorLaid Tryz.prog 400 os) #[.slice none 0 0, .slice none 0 0, .agg #[.int .u8 0, .int .u64 0, .int .u8 0, .int .u64 0]] 8 rfl (World.shaped_of_RefB (by kernel_rfl) (by kernel_rfl)) (by kernel_rfl) (by kernel_rfl) (by kernel_rfl) (door_met os _)) ?_
  intro W base args ds gs before hval0 hW _ _ hL _
  have hval : ∀ (j : Nat) t v, Tryz.f5.params[j]? = some t → args[j]? = some v → Value.okWide Tryz.prog W .any base t v := hval0
  have hW' := hW
  obtain ⟨p, q, hA0, hV, rfl, hfz, hnd⟩ := hW
  have hA : DataW.TrodAll enc Tryz.prog W 0 (fun _ => true) true Tryz.f5.params.toList args.toList ds p := hA0
  rw [Tryz.params5] at hA hval
  obtain ⟨v0, v1, v2, d0, d1, d2, p0, p1, p2, rfl, rfl, rfl, h0, h1, h2⟩ := trodAll_three hA
  obtain ⟨rfl, rfl⟩ := trodVars_none hV
  have hH := half_of_laid hL
  have h0k := h0
  have h1k := h1
  have h2k := h2
  clear hA0 hval0
  simp only [List.append_nil, List.append_assoc] at hW'
  have hlt0 : ∀ x ∈ p0, x.block < W.heap.size := fun x hx => by simpa using hW'.lt x (by simp [hx])
  have hlt1 : ∀ x ∈ p1, x.block < W.heap.size := fun x hx => by simpa using hW'.lt x (by simp [hx])
  have hlt2 : ∀ x ∈ p2, x.block < W.heap.size := fun x hx => by simpa using hW'.lt x (by simp [hx])
  obtain ⟨A, c, xs, rfl, hR, hok, hl⟩ := open_stepv (hval 0 64 v0 rfl rfl) h0
  obtain ⟨A2, c2, ys, rfl, hR2, hok2, hl2⟩ := open_stepv (hval 1 64 v1 rfl rfl) h1
  obtain ⟨a0, b0, a1, b1, rfl, q0, q1, q2, q3⟩ := open_crashes (hval 2 84 v2 rfl rfl) h2
  refine (txnAtomic_any A A2 c c2 xs ys a0 b0 a1 b1 q0 q1 q2 q3 hl hl2 W hok hok2 hH hR hR2).mono fun e W' ⟨he, hnx⟩ => ?_
  subst he
  refine ⟨_, rfl, _, _, _, [], p0 ++ (p1 ++ p2), [], hW', ?_, ?_, rfl, hnx.frame _, fun h => by cases h⟩
  · exact trodAll_mk1 (shut_bool Tryz.underlying4 true)
  · exact trodAll_mk3 (Below.trod Tryz.laidOut (by kernel_rfl) (of_decide_eq_true (by kernel_rfl)) h0k hnx hlt0) (Below.trod Tryz.laidOut (by kernel_rfl) (of_decide_eq_true (by kernel_rfl)) h1k hnx hlt1) (Below.trod Tryz.laidOut (by kernel_rfl) (of_decide_eq_true (by kernel_rfl)) h2k hnx hlt2)

theorem txnAtomic_holds : Rows.TxnAtomicSaid :=
  OpenClaim.holds_of_wide 5 Tryz.f5 rfl rfl rfl rfl rfl rfl rfl ⟨rfl, rfl, rfl, rfl, rfl⟩ rfl rfl rfl rfl rfl (by kernel_rfl) Tryz.func5 (by kernel_rfl)
    (of_decide_eq_true (by kernel_rfl)) (by unfold Func.isWrapper; first | (rw [if_pos (by decide +kernel)]; kernel_rfl) | (rw [if_neg (by decide +kernel)]; exact ⟨rfl, rfl⟩))
    (fun os started H enc _ => txnAtomic_lifted os started H enc)

theorem txnAtomicCard_holds : Rows.TxnAtomicCardSaid :=
  Claim7.holds_tied_plain_at .later [] [.data] true (true, "99fd337e20665d0c70c332cf449ba0241daa6b4c50fcbe9616be7e8ae9377a8f") false
    txnAtomic_holds (fun _ h => by cases h) (by kernel_rfl) (fun _ h => by cases h) txnAtomic_row_tie rfl ⟨rfl, rfl⟩ (by kernel_rfl) rfl
    (fun f fn hf hfn => by
      obtain rfl : f = 5 := Option.some.inj ((show Tryz.prog.funcNamed "limewash/limewashlaw10.TxnAtomic" = some 5 by kernel_rfl).symm.trans hf) |>.symm
      obtain rfl : fn = Tryz.f5 := (Option.some.inj (Tryz.func5.symm.trans hfn)).symm
      exact ⟨by kernel_rfl, fun j t ht => by
        rw [Tryz.params5] at ht
        have hm : t ∈ [64, 64, 84] := by simpa using Array.mem_of_getElem? ht
        have hall : ([64, 64, 84].all fun u => !Tryz.prog.wantsStandIn u) = true := by kernel_rfl
        exact (show Tryz.prog.wantsStandIn t = false by simpa using List.all_eq_true.1 hall t hm)⟩)
    (by kernel_rfl)

#print axioms txnAtomicCard_holds
end Go.Proofs.YtloddiipepiocaaGreatDoor
