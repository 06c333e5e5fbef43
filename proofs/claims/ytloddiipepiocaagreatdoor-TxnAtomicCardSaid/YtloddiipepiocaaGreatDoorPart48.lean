/- Parts of the proof, put together by program: UL, UM, NP, NQ, TE. -/
import Derived.Test.YtloddiipepiocaaGreatDoorPart20
import Derived.Test.YtloddiipepiocaaGreatDoorPart44
import Derived.Deep.CutRange
import Derived.Deep.CutBlock
import Derived.Test.YtloddiipepiocaaGreatDoorPart02
import Derived.Test.YtloddiipepiocaaGreatDoorProg
import Derived.ProofKit
import Derived.Deep.Slices
import Derived.Test.YtloddiipepiocaaGreatDoorPart09
import Derived.Test.YtloddiipepiocaaGreatDoorPart42
import Derived.BigQuiet
set_option linter.unusedVariables false
set_option linter.unusedSimpArgs false
/- Layer 9: stale, Replay. -/
namespace Go.Proofs.YtloddiipepiocaaGreatDoor
open Go.RowKit Go.Maps

theorem stale_step {x : DevS} {F q : Int} {k : Nat} (h : (x.staleTo F q k).1 = 0) : x.staleTo F q (k + 1) = if brokenB (x.ge (F + (k + 1))) then (x.ge (F + (k + 1)), false) else
    (0, (x.staleTo F q k).2 || (x.ge (F + (k + 1)) == 0 && (x.fr (F + (k + 1))).seq == next q && ((x.fr (F + (k + 1))).kind == 2 || (x.fr (F + (k + 1))).kind == 3))) := by
  rw [show F + ((k : Int) + 1) = F + 1 + k by omega]
  show (if (x.staleTo F q k).1 ≠ 0 then _ else _) = _
  rw [if_neg (by rw [h]; simp)]
theorem stale_stop {x : DevS} {F q : Int} {k m : Nat} (h : (x.staleTo F q k).1 ≠ 0) (hm : k ≤ m) : x.staleTo F q m = x.staleTo F q k := by
  induction m with
  | zero => have e : k = 0 := by omega
            rw [e]
  | succ m ih =>
    by_cases e : k = m + 1
    · rw [e]
    · have ih := ih (by omega)
      show (if (x.staleTo F q m).1 ≠ 0 then _ else _) = _
      rw [ih, if_pos h]
theorem broken_ne {E : Int} (h : brokenB E = true) : E ≠ 0 := by
  intro e; subst e; exact absurd h (by decide)

set_option maxRecDepth 100000 in
set_option maxHeartbeats 4000000 in
theorem stale_dev (D : Nat) (F : Int) (Z : Nat) (q : Int) (_hq : 0 ≤ q ∧ q < 4294967296) (hF : 0 ≤ F ∧ F ≤ 256) (hZ : 8 ≤ Z ∧ Z ≤ 96) (B : List Nat) (x : DevS) (w : World) (h : DevAt w D B x) :
    Calls Tryz.prog 86 #[.pointer (some ⟨D, 0, none⟩), .agg #[.int .i64 F, .int .i64 Z], .int .u32 q] w fun e w' => e = .returned (.tuple #[.bool (x.stale F Z q).2, .int .i64 (x.stale F Z q).1]) ∧ Below w.heap.size w w' := by
  obtain ⟨wA, hA⟩ : ∃ wA, wA = w.alloc (.cells #[.int .i64 F, .int .i64 Z] 101) := ⟨_, rfl⟩
  have bJ : Blk wA w.heap.size 101 #[.int .i64 F, .int .i64 Z] := by rw [hA]; exact (by (repeat' (first | (with_reducible assumption) | exact Blk.new' (by simp) | refine Blk.alloc ?_ _)))
  have BA : Below w.heap.size w wA := by rw [hA]; (repeat' (first | (with_reducible exact Below.refl _ _) | (with_reducible assumption) | (with_reducible refine Below.alloc ?_ ?_ _) | (with_reducible refine Below.drew ?_) | (with_reducible refine below_drewN' ?_ _) | (with_reducible refine Below.setCell ?_ ?_ _) | (with_reducible exact Nat.le_refl _) | omega | (simp; done) | (simp; omega)))
  have HD := Lib.hid h
  have HS : Hid (x.stale F Z q = x.staleTo F q (Z - 1)) := Lib.hid (by unfold DevS.stale; rw [show ((Z : Int) - 1).toNat = Z - 1 by omega])
  clear h
  go_enter Tryz.func86, Tryz.ntmps86
  go_wp2_with fail
  rw [← hA]
  clear hA
  go_loopw [6, 8, 9, 10] (fun s6 i _ _ wr => ∃ k : Nat, k + 1 ≤ Z ∧ i = .int .i64 ((k : Int) + 1) ∧ s6 = .bool (x.staleTo F q k).2 ∧ (x.staleTo F q k).1 = 0 ∧ Blk wr w.heap.size 101 #[.int .i64 F, .int .i64 Z] ∧ Below w.heap.size w wr) (fun _ i _ _ _ => Z - (RowKit.intOf i).toNat)
  case atStart => exact ⟨0, by omega, rfl, rfl, rfl, bJ, BA⟩
  case round =>
    obtain ⟨k, hk, rfl, rfl, hs, bJr, hB⟩ := hrel
    clear bJ BA
    have cJ := bJr.cells
    have lJ := bJr.lt
    by_cases hlt : k + 1 < Z
    rotate_left
    · have HE : Hid (x.stale F Z q = x.staleTo F q k) := Lib.hid (by rw [HS.out, show Z - 1 = k by omega])
      have h1 : ¬ ((k : Int) + 1 < Z) := by omega
      have HS0 := Lib.hid hs
      clear hs hlt hk
      go_wp2_with fail
      go_ret2
      exact ⟨by rw [HE.out, HS0.out]; rfl, hB⟩
    have hlt' : (k : Int) + 1 < Z := by omega
    have hst := stale_step hs
    have HST := Lib.hid hst
    have HS0 := Lib.hid hs
    obtain ⟨b0, hb0⟩ : ∃ b0, (x.staleTo F q k).2 = b0 := ⟨_, rfl⟩
    have HB0 := Lib.hid hb0
    rw [hb0]
    clear hst hs hb0
    go_wp2_with fail
    refine (getF_dev D B x (F + (k + 1)) wr (HD.out.below hB)).mono ?_
    rintro e w2 ⟨hb2, rfl⟩
    have B2 := hB.trans (hb2.mono hB.size)
    have bJ2 := bJr.belowAll hb2
    have hsq := fr_seq x (F + (k + 1))
    obtain ⟨E, hE⟩ : ∃ E, x.ge (F + (k + 1)) = E := ⟨_, rfl⟩
    obtain ⟨f, hf⟩ : ∃ f, x.fr (F + (k + 1)) = f := ⟨_, rfl⟩
    have HE := Lib.hid hE
    have HF := Lib.hid hf
    rw [hE, hf]
    rw [hf] at hsq
    clear hE hf cJ lJ bJr hB hb2
    obtain ⟨fk, fs, fd⟩ := f
    simp only at hsq ⊢
    obtain ⟨w3, hw3⟩ : ∃ w3, w3 = w2.alloc (.cells #[.int .i64 fk, .int .u32 fs, .string fd] 26) := ⟨_, rfl⟩
    obtain ⟨FB, hFB⟩ : ∃ FB, FB = w2.heap.size := ⟨_, rfl⟩
    have bF3 : Blk w3 FB 26 #[.int .i64 fk, .int .u32 fs, .string fd] := by rw [hw3, hFB]; exact Blk.new _ _ _
    have bJ3 : Blk w3 w.heap.size 101 #[.int .i64 F, .int .i64 Z] := by rw [hw3]; exact bJ2.alloc _
    have B3 : Below w.heap.size w w3 := by rw [hw3]; exact B2.alloc B2.size _
    go_upto_region 5 with fail
    rw [← hw3, ← hFB]
    clear hw3 hFB B2 bJ2
    go_wp2_with fail
    refine (broken_any E w3).mono ?_
    rintro e w4 ⟨rfl, hb4⟩
    have bF4 := bF3.belowAll hb4
    have bJ4 := bJ3.belowAll hb4
    have B4 := B3.trans (hb4.mono B3.size)
    clear bF3 bJ3 B3 hb4
    by_cases hbr : brokenB E = true
    · have HN : Hid (x.stale F Z q = (E, false)) := Lib.hid (by
        have h1 : x.staleTo F q (k + 1) = (E, false) := by rw [HST.out, HE.out, if_pos hbr]
        rw [HS.out, stale_stop (k := k + 1) (by rw [h1]; exact broken_ne hbr) (by omega), h1])
      go_wp2_with fail
      go_ret2
      exact ⟨by rw [HN.out]; rfl, B4⟩
    have hbr' : brokenB E = false := by simpa using hbr
    have HN : Hid (x.staleTo F q (k + 1) = (0, b0 || (E == 0 && fs == next q && (fk == 2 || fk == 3)))) := Lib.hid (by rw [HST.out, HE.out, HF.out, if_neg hbr, HB0.out])
    clear hbr
    have cF := bF4.cells
    have lF := bF4.lt
    have hnx : (q + 1) % 4294967296 = next q := rfl
    cases b0
    · by_cases hE : E = 0
      · subst hE
        by_cases hs2 : fs = next q
        · by_cases k2 : fk = 2
          · subst k2
            subst hs2
            go_wp2_with fail
            go_roundw
            case rel => exact ⟨k + 1, by omega, by go_num, by rw [HN.out]; simp, by rw [HN.out], bJ4, B4⟩
            case measure => simp [RowKit.intOf]; omega
          · have k2' : (fk == 2) = false := by simpa using k2
            subst hs2
            clear k2
            go_wp2_with fail
            go_roundw
            case rel => exact ⟨k + 1, by omega, by go_num, by rw [HN.out]; simp [k2'], by rw [HN.out], bJ4, B4⟩
            case measure => simp [RowKit.intOf]; omega
        · have hs' : (fs == next q) = false := by simpa using hs2
          clear hs2
          go_wp2_with fail
          go_roundw
          case rel => exact ⟨k + 1, by omega, by go_num, by rw [HN.out]; simp [hs'], by rw [HN.out], bJ4, B4⟩
          case measure => simp [RowKit.intOf]; omega
      · have hE' : (E == 0) = false := by simpa using hE
        clear hE
        go_wp2_with fail
        go_roundw
        case rel => exact ⟨k + 1, by omega, by go_num, by rw [HN.out]; simp [hE'], by rw [HN.out], bJ4, B4⟩
        case measure => simp [RowKit.intOf]; omega
    · go_wp2_with fail
      go_roundw
      case rel => exact ⟨k + 1, by omega, by go_num, by rw [HN.out]; simp, by rw [HN.out], bJ4, B4⟩
      case measure => simp [RowKit.intOf]; omega

end Go.Proofs.YtloddiipepiocaaGreatDoor
/- Layer 9: Replay. -/
namespace Go.Proofs.YtloddiipepiocaaGreatDoor
open Go.RowKit Go.Maps

theorem look_check {x : DevS} {F Z : Int} (h : (x.look F Z).1 = 0) : 8 ≤ Z ∧ Z ≤ 96 ∧ 0 ≤ F ∧ F ≤ 256 - Z := by
  unfold DevS.look at h
  by_cases h0 : (x.head F Z).1 = 0
  · unfold DevS.head at h0
    by_cases hc : checkE F Z = 0
    · exact checkE_zero hc
    · rw [if_pos hc] at h0; exact absurd h0 hc
  · rw [if_pos h0] at h; exact absurd h h0

/-- What Replay does. -/
def ReplayDid (w : World) (D : Nat) (B : List Nat) (p : Int × Int × DevS) (e : Ending) (w' : World) : Prop :=
  e = .returned (.tuple #[.int .i64 p.1, .int .i64 p.2.1]) ∧ ∃ B', DevAt w' D B' p.2.2 ∧ Grow w B w' B'

set_option maxRecDepth 100000 in
set_option maxHeartbeats 4000000 in
theorem replay_dev (D : Nat) (F Z : Int) (B : List Nat) (x : DevS) (w : World) (h : DevAt w D B x) :
    Calls Tryz.prog 34 #[.pointer (some ⟨D, 0, none⟩), .agg #[.int .i64 F, .int .i64 Z]] w (ReplayDid w D B (x.replay F Z)) := by
  have bJ : Blk (w.alloc (.cells #[.int .i64 F, .int .i64 Z] 101)) w.heap.size 101 #[.int .i64 F, .int .i64 Z] := Blk.new _ _ _
  have BA : Below w.heap.size w (w.alloc (.cells #[.int .i64 F, .int .i64 Z] 101)) := (Below.refl _ _).alloc (Nat.le_refl _) _
  have hlook := look_dev D F Z B x _ (h.below BA)
  have hrok := look_ok x F Z
  have hsq := look_seq x F Z
  have hck := @look_check x F Z
  have cJ := bJ.cells
  have lJ := bJ.lt
  have HA := show x.replay F Z = if (x.look F Z).1 ≠ 0 then (0, (x.look F Z).1, x) else
    if (x.look F Z).2.2.2 = true then (if (x.ac F Z (x.look F Z).2.1 (x.look F Z).2.2.1).1 ≠ 0 then (0, x.ac F Z (x.look F Z).2.1 (x.look F Z).2.2.1) else (((x.look F Z).2.2.1.length : Int), x.ac F Z (x.look F Z).2.1 (x.look F Z).2.2.1)) else
    if (x.stale F Z (x.look F Z).2.1).1 ≠ 0 then (0, (x.stale F Z (x.look F Z).2.1).1, x) else
    if (x.stale F Z (x.look F Z).2.1).2 = true then (0, x.clear F Z) else (0, 0, x) from rfl
  generalize x.look F Z = lk at *
  obtain ⟨E, q, R, wh⟩ := lk
  simp only at hrok hsq HA hlook hck
  have HAp := Lib.hid HA
  have H0 := Lib.hid h
  clear HA
  have hl1 := hrok.1
  unfold ReplayDid
  go_enter Tryz.func34, Tryz.ntmps34
  go_wp2_with fail
  refine hlook.mono ?_
  rintro e w1 ⟨hb1, A, c, rfl, hR1, hAb⟩
  have B1 := BA.trans (hb1.mono BA.size)
  have bJ1 := bJ.belowAll hb1
  have hAB : ∀ ad, A = some ad → ad.block ∉ B := fun ad e => H0.out.far (by have := hAb ad e; have := BA.size; omega)
  clear hlook hb1 cJ lJ h bJ
  by_cases hE : E = 0
  rotate_left
  · have HL : Hid (x.replay F Z = (0, E, x)) := Lib.hid (by rw [HAp.out, if_pos hE])
    have hE' : (E != 0) = true := by simpa using hE
    clear hE HAp hck
    go_wp2_with fail
    go_ret2
    exact ⟨by rw [HL.out]; rfl, B, by rw [HL.out]; exact (H0.out.below B1).alloc _, Grow.of_below (B1.alloc B1.size _) B⟩
  subst hE
  have HCK := Lib.hid (hck rfl)
  clear hck
  have bX : Blk (w1.alloc (.cells #[.int .u32 q, .slice A R.length c, .bool wh] 172)) w1.heap.size 172 #[.int .u32 q, .slice A R.length c, .bool wh] := Blk.new _ _ _
  have bJ2 := bJ1.alloc (.cells #[.int .u32 q, .slice A R.length c, .bool wh] 172)
  have B2 := B1.alloc B1.size (.cells #[.int .u32 q, .slice A R.length c, .bool wh] 172)
  have hR2 := Reads.alloc hR1 (.cells #[.int .u32 q, .slice A R.length c, .bool wh] 172)
  have nX : w1.heap.size ∉ B := H0.out.far B1.size
  have nJ : w.heap.size ∉ B := H0.out.far (Nat.le_refl _)
  obtain ⟨w2, hw2⟩ : ∃ w2, w2 = w1.alloc (.cells #[.int .u32 q, .slice A R.length c, .bool wh] 172) := ⟨_, rfl⟩
  obtain ⟨XB, hXB⟩ : ∃ XB, XB = w1.heap.size := ⟨_, rfl⟩
  rw [← hw2] at bX bJ2 B2 hR2
  rw [← hXB] at bX nX
  clear bJ1 B1 hR1
  go_upto_region 4 with fail
  rw [← hw2, ← hXB]
  clear hw2 hXB
  have hd2 := H0.out.below B2
  have cX := bX.cells
  have lX := bX.lt
  cases wh
  · -- it is not whole
    obtain ⟨hZ8, hZ96, hF0, hFZ⟩ := HCK.out
    obtain ⟨z, rfl⟩ := Int.eq_ofNat_of_zero_le (a := Z) (by omega)
    have HL1 : Hid (x.replay F z = if (x.stale F z q).1 ≠ 0 then (0, (x.stale F z q).1, x) else if (x.stale F z q).2 = true then (0, x.clear F z) else (0, 0, x)) := Lib.hid (by rw [HAp.out, if_neg (by simp), if_neg (by simp)])
    have hst := stale_dev D F z q hsq (by omega) (by omega) B x w2 hd2
    obtain ⟨s, hs⟩ : ∃ s, x.stale F z q = s := ⟨_, rfl⟩
    rw [hs] at hst HL1
    clear hs HAp HCK
    obtain ⟨se, sb⟩ := s
    simp only at hst
    have cJ := bJ2.cells
    have lJ := bJ2.lt
    go_wp2_with fail
    refine hst.mono ?_
    rintro e w3 ⟨rfl, hb3⟩
    have B3 := B2.trans (hb3.mono B2.size)
    have bJ3 := bJ2.belowAll hb3
    have hd3 := hd2.below hb3
    have cJ := bJ3.cells
    have lJ := bJ3.lt
    clear hst hb3 cX lX
    by_cases hse : se = 0
    rotate_left
    · have HL : Hid (x.replay F z = (0, se, x)) := Lib.hid (by rw [HL1.out, if_pos hse])
      have d1 : (se == 0) = false := by simpa using hse
      have d2 : (se != 0) = true := by simpa using hse
      clear hse HL1
      go_wp2_with fail
      go_ret2
      exact ⟨by rw [HL.out]; rfl, B, by rw [HL.out]; exact hd3, Grow.of_below B3 B⟩
    subst hse
    cases sb
    · have HL : Hid (x.replay F z = (0, 0, x)) := Lib.hid (by rw [HL1.out, if_neg (by simp), if_neg (by simp)])
      clear HL1
      go_wp2_with fail
      go_ret2
      exact ⟨by rw [HL.out]; rfl, B, by rw [HL.out]; exact hd3, Grow.of_below B3 B⟩
    · have HL : Hid (x.replay F z = (0, x.clear F z)) := Lib.hid (by rw [HL1.out, if_neg (by simp), if_pos rfl])
      have hcl := clear_dev D F z B x w3 hd3
      obtain ⟨p, hp⟩ : ∃ p, x.clear F z = p := ⟨_, rfl⟩
      rw [hp] at hcl HL
      clear HL1 hp
      go_wp2_with fail
      refine hcl.mono ?_
      rintro e w4 ⟨rfl, B4, hd4, hg4⟩
      have gF := (Grow.of_below B3 B).trans hg4
      clear hcl cJ lJ
      by_cases hp0 : p.1 = 0
      · have HP := Lib.hid hp0
        have d2 : (p.1 != 0) = false := by simpa using hp0
        clear hp0
        go_wp2_with fail
        go_ret2
        exact ⟨by rw [HL.out, HP.out]; rfl, B4, by rw [HL.out]; exact hd4, gF⟩
      · have d2 : (p.1 != 0) = true := by simpa using hp0
        clear hp0
        go_wp2_with fail
        go_ret2
        exact ⟨by rw [HL.out]; rfl, B4, by rw [HL.out]; exact hd4, gF⟩
  · -- it is whole
    have HL1 : Hid (x.replay F Z = if (x.ac F Z q R).1 ≠ 0 then (0, x.ac F Z q R) else ((R.length : Int), x.ac F Z q R)) := Lib.hid (by rw [HAp.out, if_neg (by simp), if_pos rfl])
    have HAC : Hid (x.ac F Z q R = if (x.applies q R).1 ≠ 0 then x.applies q R else (x.applies q R).2.clear F Z) := Lib.hid rfl
    obtain ⟨p, hp⟩ : ∃ p, x.applies q R = p := ⟨_, rfl⟩
    rw [hp] at HAC
    have HP1 := Lib.hid hp
    have hS : ∀ W, Below w2.heap.size w2 W → W.cell? ⟨XB, 0, none⟩ = some (.int .u32 q) ∧ W.cell? ⟨XB, 1, none⟩ = some (.slice A R.length c) ∧ W.cell? ⟨XB, 2, none⟩ = some (.bool true) := fun W hW => by
      have c := (bX.belowAll hW).cells
      exact ⟨(c 0).trans rfl, (c 1).trans rfl, (c 2).trans rfl⟩
    have HS := Lib.hid hS
    clear hS HAp hp HCK
    go_upto_region 6 with fail
    go_cut [4, 5] from 21 to 26 (fun s4 s5 wx => s4 = .int .i64 R.length ∧ s5 = .int .i64 p.1 ∧ ∃ B', DevAt wx D B' p.2 ∧ Grow w B wx B' ∧ Blk wx w.heap.size 101 #[.int .i64 F, .int .i64 Z])
    case first =>
      as_aux_lemma =>
        clear cX lX
        refine wp_region_mix [.take 0, .take 1, .take 2, .take 3, .take 4, .one 5, .take 6, .take 7] 8 (fun W => W.cell? ⟨XB, 0, none⟩ = some (.int .u32 q) ∧ W.cell? ⟨XB, 1, none⟩ = some (.slice A R.length c) ∧ W.cell? ⟨XB, 2, none⟩ = some (.bool true)) (by kernel_rfl) (by kernel_rfl) (fun _ _ _ _ _ h => h) (HS.out _ (Below.refl _ _).drew) ?_
        simp only [List.map_cons, List.map_nil, Ms.fill, List.getD_cons_zero, List.getD_cons_succ]
        iterate 5 (refine mixT_take (by rfl) ?_ (fun w' hw' => ?_) ?_; rotate_left; (focus (go_simp; (try with_reducible rfl))); (try simp only [Act.put, List.setIfInBounds_toArray, List.set_cons_zero, List.set_cons_succ]))
        refine mixT_step (by rfl) fun K hK => ?_
        go_simp
        have hap := apply_in D q hsq true B x A c R hrok w2.drew (hd2.below (Below.refl _ _).drew) hR2 hAB
        rw [HP1.out] at hap
        refine hap.mono ?_
        rintro e w3 ⟨rfl, B3, hd3, hg3⟩
        have gF := ((Grow.of_below B2 B).trans (Grow.of_below (Below.refl _ _).drew B)).trans hg3
        have bX3 := hg3.blk (bX.drew) nX
        have bJ3 := hg3.blk (bJ2.drew) nJ
        have c3 := bX3.cells
        refine hK _ _ (fun _ => ⟨(c3 0).trans rfl, (c3 1).trans rfl, (c3 2).trans rfl⟩) ?_
        clear hK K hap c3
        iterate 2 (refine mixT_take (by rfl) ?_ (fun w' hw' => ?_) ?_; rotate_left; (focus (go_simp; (try with_reducible rfl))); (try simp only [Act.put, List.setIfInBounds_toArray, List.set_cons_zero, List.set_cons_succ]))
        refine mixT_nil ?_
        go_wp2_with fail
        go_meet
        case rel => exact ⟨rfl, rfl, B3, hd3, gF, bJ3⟩
    case rest =>
      obtain ⟨rfl, rfl, B3, hd3, hg3, bJ3⟩ := hcut
      clear bX bJ2 B2 hR2 hd2 cX lX
      have cJ := bJ3.cells
      have lJ := bJ3.lt
      by_cases hp0 : p.1 = 0
      rotate_left
      · have HL : Hid (x.replay F Z = (0, p)) := Lib.hid (by
          have e : x.ac F Z q R = p := by rw [HAC.out, if_pos hp0]
          rw [HL1.out, e, if_pos hp0])
        have d1 : (p.1 == 0) = false := by simpa using hp0
        have d2 : (p.1 != 0) = true := by simpa using hp0
        clear hp0 HL1 HAC
        go_wp2_with fail
        go_ret2
        exact ⟨by rw [HL.out]; rfl, B3, by rw [HL.out]; exact hd3, hg3⟩
      have HL2 : Hid (x.replay F Z = if (p.2.clear F Z).1 ≠ 0 then (0, p.2.clear F Z) else ((R.length : Int), p.2.clear F Z)) := Lib.hid (by
        have e : x.ac F Z q R = p.2.clear F Z := by rw [HAC.out, if_neg (by simpa using hp0)]
        rw [HL1.out, e])
      have d1 : (p.1 == 0) = true := by simpa using hp0
      have hcl := clear_dev D F Z B3 p.2 wc hd3
      obtain ⟨p2, hp2⟩ : ∃ p2, p.2.clear F Z = p2 := ⟨_, rfl⟩
      rw [hp2] at hcl HL2
      clear hp2 hp0 HL1 HAC
      go_wp2_with fail
      refine hcl.mono ?_
      rintro e w4 ⟨rfl, B4, hd4, hg4⟩
      have gF := hg3.trans hg4
      clear hcl cJ lJ
      by_cases hp0 : p2.1 = 0
      · have HP := Lib.hid hp0
        have HL : Hid (x.replay F Z = ((R.length : Int), p2)) := Lib.hid (by rw [HL2.out, if_neg (by simpa using hp0)])
        have d2 : (p2.1 != 0) = false := by simpa using hp0
        clear hp0
        go_wp2_with fail
        go_ret2
        exact ⟨by rw [HL.out, HP.out]; rfl, B4, by rw [HL.out]; exact hd4, gF⟩
      · have HL : Hid (x.replay F Z = (0, p2)) := Lib.hid (by rw [HL2.out, if_pos hp0])
        have d2 : (p2.1 != 0) = true := by simpa using hp0
        clear hp0
        go_wp2_with fail
        go_ret2
        exact ⟨by rw [HL.out]; rfl, B4, by rw [HL.out]; exact hd4, gF⟩
end Go.Proofs.YtloddiipepiocaaGreatDoor
/- Arguments opened: a slice of one-cell elements as a list. -/
namespace Go.Proofs.YtloddiipepiocaaGreatDoor
open Go.ChangeShapes Go.WideShapes Go.ChangeAt Go.RowKit Go.Deep

theorem list_of {α : Type} (q : Nat → α → Prop) (n : Nat) (h : ∀ i, i < n → ∃ a, q i a) : ∃ xs : List α, xs.length = n ∧ ∀ i (hi : i < xs.length), q i xs[i] := by
  induction n with
  | zero => exact ⟨[], rfl, fun i hi => by simp at hi⟩
  | succ n ih =>
    obtain ⟨xs, hl, hx⟩ := ih (fun i hi => h i (by omega))
    obtain ⟨a, ha⟩ := h n (by omega)
    refine ⟨xs ++ [a], by simp [hl], fun i hi => ?_⟩
    by_cases hin : i < xs.length
    · rw [List.getElem_append_left hin]; exact hx i hin
    · have : i = n := by simp at hi; omega
      subst this
      rw [List.getElem_append_right (by omega)]
      simpa [hl] using ha

/-- A slice of one-cell elements that came in. -/
theorem open_cells {H : Type} {enc : TypeId × Value → H} {P : Program} {W : World} {α : Type} (mk : α → Value) {t e : TypeId} {fuel : Nat} {v : Value} {x : DataW H × List MemPlace} (ht : P.underlying t = some (.slice e)) (hC : P.cellsOf e = 1)
    (hel : ∀ n cs x, DataW.trod enc P W 0 (fun _ => true) true n e cs = some x → ∃ a, cs = [mk a])
    (h : DataW.trod enc P W 0 (fun _ => true) true fuel t [v] = some x) :
    ∃ (A : Option Addr) (n c : Nat) (xs : List α), v = .slice A n c ∧ xs.length = n ∧ Reads W A (xs.map mk) ∧ n ≤ c ∧ c ≤ maxLen ∧ (A = none → n = 0 ∧ c = 0) := by
  rcases open_slice ht h with ⟨h0, _⟩ | ⟨a, len, cap, m, n, D, Pl, hcs, hb, hl, hm, hmm, hx, hi⟩
  · simp only [List.cons.injEq, and_true] at h0
    subst h0
    exact ⟨none, 0, 0, [], rfl, rfl, Reads.nil, Nat.le_refl _, Nat.zero_le _, fun _ => ⟨rfl, rfl⟩⟩
  · simp only [List.cons.injEq, and_true] at hcs
    subst hcs
    simp only [if_true] at hmm
    have hat : ∀ i, i < len → ∃ u : α, W.cell? (a.add i) = some (mk u) := by
      intro i hi'
      obtain ⟨cs', hc, ht'⟩ := hi i (by omega)
      rw [hC, Nat.mul_one] at hc
      obtain ⟨u, rfl⟩ := hel n cs' _ ht'
      obtain ⟨_, _, hat⟩ := World.cells?_some hc
      have := hat 0 (by omega)
      refine ⟨u, ?_⟩
      simpa [Addr.add] using this
    obtain ⟨xs, hxl, hxs⟩ := list_of (fun i u => W.cell? (a.add i) = some (mk u)) len hat
    refine ⟨some a, len, cap, xs, rfl, hxl, ?_, hl, hm, fun h => by cases h⟩
    rcases Nat.eq_zero_or_pos len with h0 | h0
    · left
      have : xs = [] := List.eq_nil_of_length_eq_zero (by omega)
      simp [this]
    · right
      obtain ⟨b, off, spot⟩ := a
      have h1 := hxs 0 (by omega)
      have hspot : spot = none := by simpa [Addr.add] using World.cell?_spot h1
      subst hspot
      refine ⟨b, off, rfl, ?_, fun j u hu => ?_⟩
      · have := World.block_lt_of_cell? W _ h1
        simpa [Addr.add] using this
      · rw [List.getElem?_map] at hu
        by_cases hj : j < xs.length
        · rw [List.getElem?_eq_getElem hj, Option.map_some, Option.some.injEq] at hu
          subst hu
          have := hxs j hj
          unfold Addr.add at this
          split at this
          · rename_i hj0; subst hj0; simpa using this
          · exact this
        · rw [List.getElem?_eq_none (by omega)] at hu; simp at hu

end Go.Proofs.YtloddiipepiocaaGreatDoor
/- Arguments opened: a slice of structs as a list. -/
namespace Go.Proofs.YtloddiipepiocaaGreatDoor
open Go.ChangeShapes Go.WideShapes Go.ChangeAt Go.RowKit Go.Deep

/-- A slice of elements of k cells that came in. -/
theorem open_rows {H : Type} {enc : TypeId × Value → H} {P : Program} {W : World} {α : Type} (mk : α → List Value) (good : α → Prop) (k : Nat) (hk : 0 < k) {t e : TypeId} {fuel : Nat} {v : Value} {x : DataW H × List MemPlace} (ht : P.underlying t = some (.slice e)) (hC : P.cellsOf e = k)
    (hel : ∀ n cs x, cs.length = k → DataW.trod enc P W 0 (fun _ => true) true n e cs = some x → ∃ a, cs = mk a ∧ good a)
    (h : DataW.trod enc P W 0 (fun _ => true) true fuel t [v] = some x) :
    ∃ (A : Option Addr) (n c : Nat) (xs : List α), v = .slice A n c ∧ xs.length = n ∧ Reads W A (xs.flatMap mk) ∧ (∀ a ∈ xs, (mk a).length = k ∧ good a) ∧ n ≤ c ∧ c ≤ maxLen ∧ (A = none → n = 0 ∧ c = 0) := by
  rcases open_slice ht h with ⟨h0, _⟩ | ⟨a, len, cap, m, n, D, Pl, hcs, hb, hl, hm, hmm, hx, hi⟩
  · simp only [List.cons.injEq, and_true] at h0
    subst h0
    exact ⟨none, 0, 0, [], rfl, rfl, Reads.nil, fun _ h => (by cases h), Nat.le_refl _, Nat.zero_le _, fun _ => ⟨rfl, rfl⟩⟩
  · simp only [List.cons.injEq, and_true] at hcs
    subst hcs
    simp only [if_true] at hmm
    have hat : ∀ i, i < len → ∃ u : α, (mk u).length = k ∧ good u ∧ ∀ j, j < k → W.cell? (a.add (i * k + j)) = (mk u)[j]? := by
      intro i hi'
      obtain ⟨cs', hc, ht'⟩ := hi i (by omega)
      rw [hC] at hc
      obtain ⟨_, hlen, hat⟩ := World.cells?_some hc
      obtain ⟨u, rfl, hg⟩ := hel n cs' _ hlen ht'
      exact ⟨u, hlen, hg, fun j hj => by rw [← Go.Deep.add_add]; exact hat j hj⟩
    obtain ⟨xs, hxl, hxs⟩ := list_of (fun i u => (mk u).length = k ∧ good u ∧ ∀ j, j < k → W.cell? (a.add (i * k + j)) = (mk u)[j]?) len hat
    have hgd : ∀ u ∈ xs, (mk u).length = k ∧ good u := fun u hu => by
      obtain ⟨i, hi', rfl⟩ := List.mem_iff_getElem.1 hu
      exact ⟨(hxs i hi').1, (hxs i hi').2.1⟩
    refine ⟨some a, len, cap, xs, rfl, hxl, ?_, hgd, hl, hm, fun h => by cases h⟩
    rcases Nat.eq_zero_or_pos len with h0 | h0
    · left
      have : xs = [] := List.eq_nil_of_length_eq_zero (by omega)
      simp [this]
    · right
      obtain ⟨b, off, spot⟩ := a
      have h1 := (hxs 0 (by omega)).2.2 0 hk
      have hv0 : ∃ u, (mk (xs[0]'(by omega)))[0]? = some u := ⟨_, List.getElem?_eq_getElem (by rw [(hxs 0 (by omega)).1]; exact hk)⟩
      obtain ⟨u0, hu0⟩ := hv0
      rw [hu0] at h1
      have hspot : spot = none := by simpa [Addr.add] using World.cell?_spot h1
      subst hspot
      refine ⟨b, off, rfl, ?_, fun j u hu => ?_⟩
      · have := World.block_lt_of_cell? W _ h1
        simpa [Addr.add] using this
      · have hjl : j < xs.length * k := by
          have hlt := (List.getElem?_eq_some_iff.1 hu).1
          have : (xs.flatMap mk).length = xs.length * k := by
            clear hu hlt hxl hxs hu0 h1
            induction xs with
            | nil => simp
            | cons y t ih => rw [List.flatMap_cons, List.length_append, (hgd y (by simp)).1, ih (fun u hu => hgd u (List.mem_cons_of_mem _ hu)), List.length_cons, Nat.add_mul, Nat.one_mul, Nat.add_comm]
          rwa [this] at hlt
        have hq : j / k < xs.length := by rw [Nat.div_lt_iff_lt_mul hk]; exact hjl
        have hr : j % k < k := Nat.mod_lt _ hk
        have e := flat_get (f := mk) (m := k) (fun s hs => (hgd s hs).1) hr hq
        have hj : j / k * k + j % k = j := by rw [Nat.mul_comm]; exact Nat.div_add_mod j k
        rw [hj, hu] at e
        have h2 := (hxs (j / k) hq).2.2 (j % k) hr
        rw [hj, ← e] at h2
        unfold Addr.add at h2
        split at h2
        · rename_i hj0; subst hj0; simpa using h2
        · exact h2

end Go.Proofs.YtloddiipepiocaaGreatDoor
/- The laws of layer 10: calls that came in; long. -/
namespace Go.Proofs.YtloddiipepiocaaGreatDoor
open Go.RowKit Go.Maps

/-- A call as it lies in memory. -/
structure StepV where
  wh : Int
  at_ : Int
  kd : Int
  n : Int
  s : ByteArray
  A : Option Addr
  l : List Int
  c : Nat
def stepC (a : StepV) : Array Value := #[.int .u8 a.wh, .int .i64 a.at_, .int .i64 a.kd, .int .i64 a.n, .string a.s, .slice a.A a.l.length a.c]
def stepL (a : StepV) : List Value := [.int .u8 a.wh, .int .i64 a.at_, .int .i64 a.kd, .int .i64 a.n, .string a.s, .slice a.A a.l.length a.c]
/-- What is known of one that came in. -/
structure StepOk (W : World) (a : StepV) : Prop where
  wh : 0 ≤ a.wh ∧ a.wh ≤ 255
  at_ : -9223372036854775808 ≤ a.at_ ∧ a.at_ ≤ 9223372036854775807
  kd : -9223372036854775808 ≤ a.kd ∧ a.kd ≤ 9223372036854775807
  n : -9223372036854775808 ≤ a.n ∧ a.n ≤ 9223372036854775807
  list : Reads W a.A (a.l.map (.int .i64))
  cap : a.l.length ≤ a.c ∧ a.c ≤ maxLen
  str : a.s.size ≤ maxLen

theorem steps_at {w : World} {A : Option Addr} {xs : List StepV} (h : Reads w A (xs.flatMap stepL)) {k : Nat} (hk : k < xs.length) :
    ∃ b off, A = some ⟨b, off, none⟩ ∧ b < w.heap.size ∧ w.cell? ⟨b, off + k * 6, none⟩ = some (.int .u8 xs[k].wh) ∧ w.cell? ⟨b, off + k * 6 + 1, none⟩ = some (.int .i64 xs[k].at_) ∧ w.cell? ⟨b, off + k * 6 + 2, none⟩ = some (.int .i64 xs[k].kd) ∧
      w.cell? ⟨b, off + k * 6 + 3, none⟩ = some (.int .i64 xs[k].n) ∧ w.cell? ⟨b, off + k * 6 + 4, none⟩ = some (.string xs[k].s) ∧ w.cell? ⟨b, off + k * 6 + 5, none⟩ = some (.slice xs[k].A xs[k].l.length xs[k].c) := by
  have hg : ∀ j, j < 6 → (xs.flatMap stepL)[k * 6 + j]? = (stepL xs[k])[j]? := fun j hj => flat_get (f := stepL) (m := 6) (fun _ _ => rfl) hj hk
  rcases h with h | ⟨b, off, hA, hlt, hc⟩
  · exfalso
    have := hg 0 (by omega)
    rw [h] at this
    simp [stepL] at this
  · have g : ∀ j u, j < 6 → (stepL xs[k])[j]? = some u → w.cell? ⟨b, off + k * 6 + j, none⟩ = some u := fun j u hj hu => by rw [Nat.add_assoc]; exact hc _ _ ((hg j hj).trans hu)
    exact ⟨b, off, hA, hlt, g 0 _ (by omega) rfl, g 1 _ (by omega) rfl, g 2 _ (by omega) rfl, g 3 _ (by omega) rfl, g 4 _ (by omega) rfl, g 5 _ (by omega) rfl⟩

def bigB (a : StepV) : Bool := decide (300 < a.s.size) || decide (300 < a.l.length)
def longB (xs : List StepV) : Bool := xs.any bigB || decide (40 < xs.length)

set_option maxRecDepth 100000 in
set_option maxHeartbeats 2000000 in
theorem long_any (A : Option Addr) (c : Nat) (xs : List StepV) (hl : xs.length ≤ maxLen) (hs : ∀ a ∈ xs, a.s.size ≤ maxLen ∧ a.l.length ≤ maxLen) (w : World) (hR : Reads w A (xs.flatMap stepL)) :
    Calls Tryz.prog 16 #[.slice A xs.length c] w fun e w' => e = .returned (.bool (longB xs)) ∧ Below w.heap.size w w' := by
  unfold maxLen at hl hs
  go_enter Tryz.func16, Tryz.ntmps16
  go_wp2_with fail
  go_loopw [3] (fun q wr => ∃ k : Nat, k ≤ xs.length ∧ q = .int .i64 k ∧ (∀ a ∈ xs.take k, bigB a = false) ∧ Below w.heap.size w wr) (fun q _ => xs.length - (RowKit.intOf q).toNat)
  case atStart => exact ⟨0, Nat.zero_le _, rfl, fun _ h => by simp at h, Below.refl _ _⟩
  case round =>
    obtain ⟨k, hk, rfl, hn, hb⟩ := hrel
    by_cases hlt : k < xs.length
    · obtain ⟨b, off, rfl, hbl, -, -, -, -, c4, c5⟩ := steps_at (hR.below hb) hlt
      have hm := List.getElem_mem hlt
      have hsz := hs _ hm
      have HT : Hid (xs.take (k + 1) = xs.take k ++ [xs[k]]) := Lib.hid (List.take_succ_eq_append_getElem hlt)
      generalize xs[k] = a at *
      obtain ⟨wh, at_, kd, n, s, A, l, ca⟩ := a
      simp only at c4 c5 hsz
      have HM := Lib.hid hm
      have HN := Lib.hid hn
      have HR := Lib.hid hR
      have HS := Lib.hid hs
      clear hm hn hR hs
      by_cases h1 : 300 < s.size
      · have d1 : decide ((300 : Int) < (s.size : Int)) = true := decide_eq_true (by omega)
        have HV : Hid (longB xs = true) := Lib.hid (by unfold longB; rw [List.any_eq_true.2 ⟨_, HM.out, by unfold bigB; simp [h1]⟩]; rfl)
        clear h1
        go_wp2_with fail
        go_ret
        exact ⟨by rw [HV.out]; rfl, hb⟩
      · have d1 : decide ((300 : Int) < (s.size : Int)) = false := decide_eq_false (by omega)
        by_cases h2 : 300 < l.length
        · have d2 : decide ((300 : Int) < (l.length : Int)) = true := decide_eq_true (by omega)
          have HV : Hid (longB xs = true) := Lib.hid (by unfold longB; rw [List.any_eq_true.2 ⟨_, HM.out, by unfold bigB; simp [h2]⟩]; rfl)
          clear h1 h2
          go_wp2_with fail
          go_ret
          exact ⟨by rw [HV.out]; rfl, hb⟩
        · have d2 : decide ((300 : Int) < (l.length : Int)) = false := decide_eq_false (by omega)
          have HB : Hid (bigB ⟨wh, at_, kd, n, s, A, l, ca⟩ = false) := Lib.hid (by unfold bigB; simp [h1, h2])
          clear h1 h2
          go_wp2_with fail
          go_roundw
          case rel => exact ⟨k + 1, by omega, by go_num, fun a ha => by
            rw [HT.out] at ha
            rcases List.mem_append.1 ha with ha | ha
            · exact HN.out a ha
            · simp only [List.mem_singleton] at ha; rw [ha]; exact HB.out, hb⟩
          case measure => simp [RowKit.intOf]; omega
    · obtain rfl : k = xs.length := by omega
      have HV : Hid (longB xs = decide ((40 : Int) < (xs.length : Int))) := Lib.hid (by
        unfold longB
        rw [List.take_length] at hn
        have : xs.any bigB = false := by
          rw [List.any_eq_false]
          intro a ha
          rw [hn a ha]; simp
        rw [this, Bool.false_or]
        by_cases h : 40 < xs.length
        · rw [decide_eq_true h, decide_eq_true (by omega)]
        · rw [decide_eq_false h, decide_eq_false (by omega)])
      clear hn
      go_wp2_with fail
      go_ret
      exact ⟨by rw [HV.out]; rfl, hb⟩
end Go.Proofs.YtloddiipepiocaaGreatDoor
