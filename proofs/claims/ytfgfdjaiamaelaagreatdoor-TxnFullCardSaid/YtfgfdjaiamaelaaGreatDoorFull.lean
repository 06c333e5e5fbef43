/- Parts of the proof, put together by program: TJ, TK, TN. -/
import Derived.Test.YtfgfdjaiamaelaaGreatDoorPart44
import Derived.Test.YtfgfdjaiamaelaaGreatDoorPart45
import Derived.Test.YtfgfdjaiamaelaaGreatDoorPart42
/- The laws of layer 10: TxnFull in plain words, and what it asks of a device. -/
namespace Go.Proofs.YtfgfdjaiamaelaaGreatDoor
open Go.RowKit Go.Maps

set_option maxRecDepth 100000 in
theorem taken_any (D : Nat) (B : List Nat) (x : DevS) (w : World) (h : DevAt w D B x) :
    Calls Tryz.prog 29 #[.pointer (some ⟨D, 0, none⟩)] w fun e w' => e = .returned (.int .i64 x.taken) ∧ w' = w := by
  obtain ⟨S, c, M, cv, m, -⟩ := h.mem
  have bD := m.dev
  have hok := devOk_any D S x.stable.length c cv x.taken x.power x.off M w bD
  unfold devC at bD
  have c2 : w.cell? ⟨D, 2, none⟩ = some (.int .i64 x.taken) := (bD.cells 2).trans rfl
  have lD := bD.lt
  clear bD m
  go_enter Tryz.func29, Tryz.ntmps29
  go_wp2_with fail
  refine hok.mono ?_
  rintro e w1 ⟨rfl, rfl⟩
  go_wp2_with fail
  go_ret
  exact ⟨rfl, rfl⟩

/-- What a round does, in plain words. -/
structure FullAt (j : Nat) (take : Bool) (us : List Bool) : Prop where
  e1 : take = true → ((begTx 64 j 30 us).take 0 1).1 = 0 ∧ ((begTx 64 j 30 us).takeL 0 1).length = 1
  wr : ∀ i, i < fullM j take → ((fullN (fullBeg j take us) i).write (63 - i) 8 bX).1 = 0 ∧ (((fullN (fullBeg j take us) i).write (63 - i) 8 bX).2.write (63 - i) 8 bY).1 = 0
  left : (fullTx j take us).left = 0
  st : (fullTx j take us).stateE = 0
  recs : (fullTx j take us).recs.length = j - 2
  last : ((fullTx j take us).write 0 4 ⟨#[]⟩).1 = 12
  bad : ((fullTx j take us).write 0 4 ⟨#[]⟩).2.stateE = 9
  ch : (fullTx j take us).changed = take
  now : take = false → (fullTx j take us).now = us
  len : us.length = 32 - j
theorem fullAt_of {j : Nat} {take : Bool} {us : List Bool} (h : fullOk j take us = true) : FullAt j take us := by
  unfold fullOk at h
  simp only [Bool.and_eq_true, Bool.or_eq_true, List.all_eq_true, List.mem_range, beq_iff_eq, Bool.not_eq_true'] at h
  obtain ⟨⟨⟨⟨⟨⟨⟨⟨⟨h1, h2⟩, h3⟩, h4⟩, h5⟩, h6⟩, h7⟩, h8⟩, h9⟩, h10⟩ := h
  exact ⟨fun e => h1.resolve_left (by rw [e]; simp), fun i hi => h2 i hi, h3, h4, h5, h6, h7, h8, fun e => h9.resolve_left (by rw [e]; simp), h10⟩
theorem fullN_clean {y : TxS} (h : y.Clean) (n : Nat) : (fullN y n).Clean := by
  induction n with
  | zero => exact h
  | succ n ih => exact (ih.write _ _ _).write _ _ _
theorem fullN_like (y : TxS) (n : Nat) : y.Like (fullN y n) := by
  induction n with
  | zero => exact .refl y
  | succ n ih => exact (ih.trans (write_like _ _ _ _)).trans (write_like _ _ _ _)
theorem fullBeg_clean (j : Nat) (take : Bool) (us : List Bool) : (fullBeg j take us).Clean := by
  unfold fullBeg
  have h : (begTx 64 j 30 us).Clean := begTx_clean (by omega) us
  split
  · exact h.take _ _
  · exact h
theorem fullBeg_like (j : Nat) (take : Bool) (us : List Bool) : (begTx 64 j 30 us).Like (fullBeg j take us) := by
  unfold fullBeg
  split
  · exact take_like _ _ _
  · exact .refl _
theorem fullTx_clean (j : Nat) (take : Bool) (us : List Bool) : (fullTx j take us).Clean := fullN_clean (fullBeg_clean j take us) _
theorem fullTx_like (j : Nat) (take : Bool) (us : List Bool) : (begTx 64 j 30 us).Like (fullTx j take us) := (fullBeg_like j take us).trans (fullN_like _ _)

/-- Commit of the whole transaction. -/
theorem full_commit {j : Nat} {take : Bool} {us : List Bool} {x : DevS} {N : Nat} (hf : FullAt j take us) (hj : 8 ≤ j ∧ j ≤ 12) (ok : (fullTx j take us).Ok) (hl : Live x 64 j 30 us (N + 200)) :
    ∃ x', (fullTx j take us).commit x = (0, x') ∧ Live x' 64 j 30 (fullTx j take us).now N ∧ x'.cache = [] ∧ x'.taken = x.taken + (2 * ((j - 2 : Nat) : Int) + 2) := by
  have hlk := fullTx_like j take us
  have hc := fullTx_clean j take us
  have hs : (fullTx j take us).s = 64 := hlk.s
  have hj' : (fullTx j take us).j = j := hlk.j
  have hi : (fullTx j take us).i = 30 := hlk.i
  have hrc := hf.recs
  obtain ⟨x', e, l, -, -⟩ := commit_live (N := N) (us := us) ok hc (by rw [hs, hj', hi]; exact hl) (fun h => hf.now (by rw [← hf.ch]; exact h))
  rw [hs, hj', hi] at l
  obtain ⟨q, hq⟩ := hl.head
  have hn : (fullTx j take us).recs ≠ [] := fun h => by rw [h] at hrc; simp at hrc; omega
  have hv := recs_valid ok hc
  rw [hs, hj', ← hl.size] at hv
  have hsz := hl.size
  have ht := commit_taken (n := 0) (x := x) (F := 1) (Z := j) (q := q) (by unfold checkE; rw [if_neg (by omega)]) (by omega) hq hv (hl.runs.mono (by omega))
  have e2 : (fullTx j take us).commit x = x.commit 1 j (fullTx j take us).recs := by unfold TxS.commit; rw [if_neg hn, hj']
  rw [← e2, e, hrc] at ht
  exact ⟨x', e, l, ht.2, by have := ht.1; simp only at this; omega⟩
theorem begin_play {w0 w : World} {D : Nat} {B : List Nat} {x : DevS} {s j i : Int} {us : List Bool} {N : Nat} (h : DevAt w D B x) (hb0 : Below w0.heap.size w0 w) (hB : ∀ b ∈ B, w0.heap.size ≤ b) (hr : rgE s j i = 0) (hl : Live x s j i us N) :
    Calls Tryz.prog 17 #[.pointer (some ⟨D, 0, none⟩), .agg #[.int .i64 s, .int .i64 j, .int .i64 i]] w fun e w' => ∃ T F, e = .returned (.tuple #[.pointer (some ⟨T, 0, none⟩), .int .i64 0]) ∧ Play w0 w' T F D (begTx s j i us) B x := by
  obtain ⟨h1, h2, h3⟩ := begin_live hr hl
  refine (begin_dev D s j i B x w h h3).mono ?_
  rintro e w' ⟨hb, E, hE, ⟨h5, -⟩ | ⟨-, T, F, rfl, ht, hF⟩⟩
  · exact absurd ((h1 E).1 hE) h5
  rw [h2] at ht
  exact ⟨T, F, rfl, ⟨ht, h.below hb, fun b hb hm => by have := hF b hb; have := (h.lt b hm).2; omega⟩, hb0.trans (hb.mono hb0.size), fun b hb => Nat.le_trans hb0.size (hF b hb), hB⟩
theorem rgF : ∀ j : Nat, 8 ≤ j ∧ j ≤ 12 → rgE 64 j 30 = 0 ∧ (rgB 64 j 30).toNat = 32 - j := by
  intro j hj
  have : j = 8 ∨ j = 9 ∨ j = 10 ∨ j = 11 ∨ j = 12 := by omega
  rcases this with rfl | rfl | rfl | rfl | rfl <;> decide
theorem fullAt_all (j : Nat) (hj : 8 ≤ j ∧ j ≤ 12) (take : Bool) : FullAt j take (us0 j) ∧ FullAt j take (us1 j take) := by
  have hm : j ∈ [8, 9, 10, 11, 12] := by
    have : j = 8 ∨ j = 9 ∨ j = 10 ∨ j = 11 ∨ j = 12 := by omega
    rcases this with rfl | rfl | rfl | rfl | rfl <;> simp
  have h := full_all j hm take
  exact ⟨fullAt_of h.1, fullAt_of h.2⟩
end Go.Proofs.YtfgfdjaiamaelaaGreatDoor
/- P10.10: TxnFull, walked. -/
namespace Go.Proofs.YtfgfdjaiamaelaaGreatDoor
open Go.RowKit Go.Maps

set_option maxRecDepth 100000 in
set_option maxHeartbeats 8000000 in
theorem txnFull_true (sz : Int) (hsz : 0 ≤ sz ∧ sz ≤ 255) (w : World) (hH : HalfAt w) :
    Calls Tryz.prog 7 #[.int .u8 sz, .bool true] w fun e w' => e = .returned (.bool true) ∧ Below w.heap.size w w' := by
  obtain ⟨j, hj, hjq⟩ : ∃ j : Nat, (8 ≤ j ∧ j ≤ 12) ∧ (8 : Int) + sz % 5 = j := ⟨(8 + sz % 5).toNat, by omega, by omega⟩
  obtain ⟨hrg, hrb⟩ := rgF j hj
  obtain ⟨fa0, fa1⟩ := fullAt_all j hj true
  obtain ⟨y, hy, hF⟩ := format_fresh hrg 1000000 (by omega)
  rw [show ((64 : Int).toNat) = 64 from rfl] at hy
  have hcache : y.cache = [] := by have h := tfmt_cache (x := newDev 64) (s := 64) (j := j) (i := 30) (by rw [hy]); rw [hy] at h; exact h
  have hL := hF.live
  rw [hrb] at hL
  have hL0 : Live y 64 j 30 (us0 j) 2000 := hL.mono (by omega)
  have g1 : sz.tmod 5 = sz % 5 := Int.tmod_eq_emod_of_nonneg hsz.1
  have hq : 0 ≤ sz % 5 ∧ sz % 5 ≤ 4 := by omega
  generalize sz % 5 = q at *
  obtain ⟨wA, hA⟩ : ∃ wA, wA = w.alloc (.cells #[.int .i64 64, .int .i64 j, .int .i64 30] 45) := ⟨_, rfl⟩
  have bA : Blk wA w.heap.size 45 #[.int .i64 64, .int .i64 j, .int .i64 30] := by rw [hA]; exact Blk.new _ _ _
  have BA : Below w.heap.size w wA := by rw [hA]; exact (Below.refl _ _).alloc (Nat.le_refl _) _
  have hHA : HalfAt wA := hH.below BA hH.1
  have hnew := new_dev 64 (by omega) wA hHA
  have hp0 := hH.1
  have HH := Lib.hid hH
  have lA := bA.lt
  obtain ⟨L, hLw⟩ : ∃ L, L = w.heap.size := ⟨_, rfl⟩
  have HLW := Lib.hid hLw
  have hjb : (8 : Int) ≤ j ∧ (j : Int) ≤ 12 := by omega
  have HJ := Lib.hid hj
  have HF := Lib.hid (And.intro fa0 fa1)
  have HC := Lib.hid hcache
  have HL := Lib.hid hL0
  have HRG := Lib.hid hrg
  clear hL hF hrb fa0 fa1 hcache hH hHA hL0 hrg hj
  go_enter Tryz.func7, Tryz.ntmps7
  go_wp2_with fail
  rw [← hA]
  rw [← hLw] at bA lA ⊢
  clear hA hLw
  refine hnew.mono ?_
  rintro e w1 ⟨D, B0, rfl, hd1, hw1, hB0⟩
  have b1 := bA.belowAll hw1
  have c1 := b1.cells
  have l1 := b1.lt
  clear hnew hjq g1 hq
  go_wp2_with fail
  refine (tformat_dev D 64 j 30 B0 (newDev 64) w1 hd1).mono ?_
  rintro e w2 ⟨rfl, B2, hd2, g2⟩
  rw [hy] at hd2 ⊢
  have B02 : Below wA.heap.size wA w2 := hw1.trans (g2.below hw1.size hB0)
  have hB2 := g2.lo hw1.size hB0
  clear hy c1 l1 b1 hd1 hw1 hB0 g2
  obtain ⟨J2, hJ2⟩ : ∃ J2 : Nat, J2 = j - 2 := ⟨_, rfl⟩
  have hj2 : (j : Int) - 2 = J2 := by omega
  have hJb : (6 : Int) ≤ J2 ∧ (J2 : Int) ≤ 10 := by omega
  obtain ⟨m, hm, hm2⟩ : ∃ m : Nat, fullM j true = m ∧ (J2 : Int) - 1 = m := ⟨J2 - 1, by unfold fullM; simp; omega, by omega⟩
  --have hm : fullM j false = J2 := by unfold fullM; simp; omega
  have HM := Lib.hid hm
  have HJ2 := Lib.hid hJ2
  clear hm hJ2
  go_wp2_with fail
  go_loopw [8] (fun q wr => ∃ (k : Nat) (us : List Bool) (B : List Nat) (x : DevS), k ≤ 2 ∧ q = .int .i64 k ∧ DevAt wr D B x ∧ Below wA.heap.size wA wr ∧ (∀ b ∈ B, wA.heap.size ≤ b) ∧ Live x 64 j 30 us (1000 * (2 - k)) ∧ x.cache = [] ∧ FullAt j true us ∧ (k = 0 → us = us0 j)) (fun q _ => 2 - (intOf q).toNat)
  case atStart => exact ⟨0, us0 j, B2, y, by omega, rfl, hd2, B02, hB2, HL.out, HC.out, HF.out.1, fun _ => rfl⟩
  case round =>
    obtain ⟨k, us, B, x, hk, rfl, hd, hBw, hBB, hl, hca, hfa, hus⟩ := hrel
    clear hd2 B02 hB2
    have bL := bA.belowAll hBw
    have cL := bL.cells
    have lL := bL.lt
    by_cases hlt : k < 2
    · have hbeg := begin_play hd hBw hBB HRG.out hl
      have HFA := Lib.hid hfa
      have HUS := Lib.hid hus
      have HLI := Lib.hid hl
      clear hd hBw hfa hus hl
      go_wp2_with fail
      refine hbeg.mono ?_
      rintro e w3 ⟨T, F3, rfl, h3⟩
      have bL3 := bA.belowAll h3.bl
      clear hbeg cL lL bL
      have cL := bL3.cells
      have lL := bL3.lt
      have f4 := play_take h3 0 1
      obtain ⟨ht1, ht2⟩ := HFA.out.e1 rfl
      rw [ht1] at f4
      have HT2 := Lib.hid ht2
      clear ht1 ht2
      go_wp2_with fail
      refine f4.mono ?_
      rintro e w4 ⟨A4, cc4, rfl, F4, h4, -, -⟩
      rw [HT2.out]
      clear f4 h3
      go_wp2_with fail
      --obtain ⟨F4, w4, hw4, h4⟩ : ∃ F4 w4, w4 = w3 ∧ Play wA w4 T F4 D (begTx 64 j 30 us) B x := ⟨F3, w3, rfl, h3⟩
      --subst hw4
      have h4' : Play wA w4 T F4 D (fullN (fullBeg j true us) 0) B x := h4
      go_loopw [14] (fun q wr => ∃ (i : Nat) (F : List Nat), i ≤ m ∧ q = .int .i64 i ∧ Play wA wr T F D (fullN (fullBeg j true us) i) B x) (fun q _ => m - (intOf q).toNat)
      case atStart => exact ⟨0, F4, Nat.zero_le _, rfl, h4'⟩
      case round =>
        obtain ⟨i, F, hi, rfl, hp⟩ := hrel
        clear h4 h4'
        by_cases hilt : i < m
        · have hwr := HFA.out.wr i (by rw [HM.out]; exact hilt)
          have f1 := play_write hp (63 - i) 8 bX (by omega) (by decide)
          rw [hwr.1] at f1
          have HWR := Lib.hid hwr.2
          clear hwr
          unfold bX at f1
          go_wp2_with fail
          refine f1.mono ?_
          rintro e w5 ⟨rfl, F5, h5, -⟩
          have f2 := play_write h5 (63 - i) 8 bY (by omega) (by decide)
          unfold bX at HWR
          have hwr2 := HWR.out
          rw [show (⟨#[120]⟩ : ByteArray) = bX from rfl] at hwr2
          rw [show (⟨#[120]⟩ : ByteArray) = bX from rfl, hwr2] at f2
          unfold bY at f2
          clear f1 hp hwr2
          go_wp2_with fail
          refine f2.mono ?_
          rintro e w6 ⟨rfl, F6, h6, -⟩
          clear f2 h5
          go_wp2_with fail
          go_roundw
          case rel => exact ⟨i + 1, F6, by omega, by go_num, h6⟩
          case measure => simp [intOf]; omega
        · obtain rfl : i = m := by omega
          have hfull : fullN (fullBeg j true us) i = fullTx j true us := by unfold fullTx; rw [HM.out]
          rw [hfull] at hp
          have f5 := left_tx T F D _ _ hp.td.tx HFA.out.st
          rw [HFA.out.left] at f5
          clear hfull
          go_wp2_with fail
          refine f5.mono ?_
          rintro e w6 ⟨rfl, hb6⟩
          have h6 := hp.below hb6
          clear f5 hp hb6
          go_wp2_with fail
          refine (play_save0 h6 hca).mono ?_
          rintro e w7 ⟨a1, a2, c1, c2, rfl, o1, o2, hb7⟩
          obtain ⟨w8, hw8⟩ : ∃ w8, w8 = w7.alloc (.cells #[.slice a1 x.stable.length c1, .slice a2 0 c2, .int .i64 x.taken, .int .i64 x.power, .bool x.off] 61) := ⟨_, rfl⟩
          have s8 := Saved.made h6 o1 o2 hb7 hw8
          have h8 := (h6.below hb7).below (w' := w8) (by rw [hw8]; exact (Below.refl _ _).alloc (Nat.le_refl _) _)
          obtain ⟨S, hS⟩ : ∃ S, S = w7.heap.size := ⟨_, rfl⟩
          rw [← hS] at s8
          have HSW := Lib.hid hS
          have HW := Lib.hid hw8
          clear o1 o2 hb7 h6 hw8 hS
          by_cases hk1 : k = 0
          · subst hk1
            go_wp2_with fail
            rw [← HW.out, ← HSW.out]
            clear HW HSW
            have f9 := taken_any D B x w8 h8.td.dev
            go_wp2_with fail
            refine f9.mono ?_
            rintro e w9 ⟨rfl, rfl⟩
            clear f9
            obtain ⟨x', hcm, hl', hca', htk⟩ := full_commit (N := 1000) HFA.out HJ.out h8.td.tx.ok (HLI.out.mono (by omega))
            have q9 := h8.drewN 1
            have f10 := play_commit q9 (fullTx_clean j true us) HFA.out.st hcm
            have bL9 := bA.belowAll q9.bl
            have htb := HLI.out.runs.tk
            have htb0 := HLI.out.runs.ok.tk
            rw [← HJ2.out] at htk
            have hv1 : IntKind.i64.wrap (J2 : Int) = J2 := by rw [IntKind.wrap_i64]; omega
            have hv2 : IntKind.i64.wrap (2 * (J2 : Int)) = 2 * J2 := by rw [IntKind.wrap_i64]; omega
            have hv3 : IntKind.i64.wrap (2 * (J2 : Int) + 2) = 2 * J2 + 2 := by rw [IntKind.wrap_i64]; omega
            have hv4 : IntKind.i64.wrap (x.taken + (2 * (J2 : Int) + 2)) = x.taken + (2 * J2 + 2) := by rw [IntKind.wrap_i64]; omega
            go_wp2_with fail
            refine wp_region_mix [.take 0, .one 1, .take 2, .take 3, .take 4, .take 6, .take 7, .take 8, .take 9, .take 10, .take 11, .take 12, .one 5, .take 13, .take 14] 15 (fun W => W.cell? ⟨L, 1, none⟩ = some (.int .i64 j)) (by kernel_rfl) (by kernel_rfl) (fun _ _ _ _ _ h => h) ((bL9.cells 1).trans rfl) ?_
            simp only [List.map_cons, List.map_nil, Ms.fill, List.getD_cons_zero, List.getD_cons_succ]
            iterate 1 (refine mixT_take (by rfl) ?_ (fun w' hw' => ?_) ?_; rotate_left; (focus (go_simp; (try with_reducible rfl))); (try simp only [Act.put, List.setIfInBounds_toArray, List.set_cons_zero, List.set_cons_succ]))
            refine mixT_step (by rfl) fun K hK => ?_
            go_simp
            refine f10.mono ?_
            rintro e w10 ⟨rfl, B10, h10, g10⟩
            have bL10 := bA.belowAll h10.bl
            refine hK _ _ (fun _ => (bL10.cells 1).trans rfl) ?_
            clear hK K
            iterate 10 (refine mixT_take (by rfl) ?_ (fun w' hw' => ?_) ?_; rotate_left; (focus (go_simp; (try with_reducible rfl))); (try simp only [Act.put, List.setIfInBounds_toArray, List.set_cons_zero, List.set_cons_succ]))
            refine mixT_step (by rfl) fun K hK => ?_
            go_simp
            refine (taken_any D B10 x' w10 h10.td.dev).mono ?_
            rintro e w11 ⟨rfl, rfl⟩
            refine hK _ _ (fun _ => (bL10.cells 1).trans rfl) ?_
            clear hK K
            iterate 2 (refine mixT_take (by rfl) ?_ (fun w' hw' => ?_) ?_; rotate_left; (focus (go_simp; (try with_reducible rfl))); (try simp only [Act.put, List.setIfInBounds_toArray, List.set_cons_zero, List.set_cons_succ]))
            refine mixT_nil ?_
            go_wp2_with fail
            go_roundw
            case rel => exact ⟨1, us1 j true, B10, x', by omega, by go_num, h10.td.dev, h10.bl, h10.bb, by rw [HUS.out (by simp)] at hl'; exact hl', hca', HF.out.2, fun h => by cases h⟩
            case measure => simp [intOf]
          · obtain rfl : k = 1 := by omega
            go_wp2_with fail
            rw [← HW.out, ← HSW.out]
            clear HW HSW
            have q8 := h8.drewN 1
            have s9 := s8.below (below_drewN' (Below.refl _ _) 1)
            have f9 := play_write q8 0 4 ⟨#[]⟩ (by omega) (by decide)
            have hbad := HFA.out.bad
            have hen : ((fullTx j true us).write 0 4 ⟨#[]⟩).2.ended = false := ((fullTx_like j true us).trans (write_like _ _ _ _)).ended
            rw [HFA.out.last] at f9
            generalize ((fullTx j true us).write 0 4 ⟨#[]⟩).2 = y9 at *
            clear s8 h8
            go_wp2_with fail
            refine wp_region_mix [.take 0, .one 1, .take 2, .take 3, .take 4, .one 5, .take 6, .take 7, .take 8, .take 9, .take 10, .one 11, .one 12, .take 13, .take 14, .take 15, .take 16, .one 17, .take 18, .take 19] 20 (fun W => W.cell? ⟨S, 0, none⟩ = some (.slice a1 x.stable.length c1) ∧ W.cell? ⟨S, 1, none⟩ = some (.slice a2 0 c2) ∧ W.cell? ⟨S, 2, none⟩ = some (.int .i64 x.taken) ∧ W.cell? ⟨S, 3, none⟩ = some (.int .i64 x.power) ∧ W.cell? ⟨S, 4, none⟩ = some (.bool x.off)) (by kernel_rfl) (by kernel_rfl) (fun _ _ _ _ _ h => h) s9.cells ?_
            simp only [List.map_cons, List.map_nil, Ms.fill, List.getD_cons_zero, List.getD_cons_succ]
            iterate 1 (refine mixT_take (by rfl) ?_ (fun w' hw' => ?_) ?_; rotate_left; (focus (go_simp; (try with_reducible rfl))); (try simp only [Act.put, List.setIfInBounds_toArray, List.set_cons_zero, List.set_cons_succ]))
            refine mixT_step (by rfl) fun K hK => ?_
            go_simp
            refine f9.mono ?_
            rintro e w10 ⟨rfl, F10, h10, g10⟩
            have s10 := s9.grow g10
            refine hK _ _ (fun _ => s10.cells) ?_
            clear hK K f9 s9 q8 g10
            iterate 3 (refine mixT_take (by rfl) ?_ (fun w' hw' => ?_) ?_; rotate_left; (focus (go_simp; (try with_reducible rfl))); (try simp only [Act.put, List.setIfInBounds_toArray, List.set_cons_zero, List.set_cons_succ]))
            refine mixT_step (by rfl) fun K hK => ?_
            go_simp
            have f10 := txcommit_bad _ _ w10 h10.td.tx.st (by rw [hbad]; decide)
            rw [hbad] at f10
            refine f10.mono ?_
            rintro e w11 ⟨rfl, hb11⟩
            have h11 := h10.below hb11
            have s11 := s10.below hb11
            refine hK _ _ (fun _ => s11.cells) ?_
            clear hK K f10 s10 h10 hb11
            iterate 5 (refine mixT_take (by rfl) ?_ (fun w' hw' => ?_) ?_; rotate_left; (focus (go_simp; (try with_reducible rfl))); (try simp only [Act.put, List.setIfInBounds_toArray, List.set_cons_zero, List.set_cons_succ]))
            refine mixT_step (by rfl) fun K hK => ?_
            go_simp
            refine (play_save0 h11 hca).mono ?_
            rintro e w12 ⟨e1, e2, d1, d2, rfl, o121, o122, hb12⟩
            have h12 := h11.below hb12
            have s12 := s11.below hb12
            refine hK _ _ (fun _ => s12.cells) ?_
            clear hK K s11 h11 hb12
            refine mixT_step (by rfl) fun K hK => ?_
            go_simp
            refine (same_saved' h12.td.dev.ok s12 o121 o122).mono ?_
            rintro e w13 ⟨rfl, hb13⟩
            have h13 := h12.below hb13
            have s13 := s12.below hb13
            refine hK _ _ (fun _ => s13.cells) ?_
            clear hK K s12 h12 hb13 o121 o122
            iterate 4 (refine mixT_take (by rfl) ?_ (fun w' hw' => ?_) ?_; rotate_left; (focus (go_simp; (try with_reducible rfl))); (try simp only [Act.put, List.setIfInBounds_toArray, List.set_cons_zero, List.set_cons_succ]))
            refine mixT_step (by rfl) fun K hK => ?_
            go_simp
            refine (play_abort h13 hen).mono ?_
            rintro e w14 ⟨rfl, F14, h14, g14⟩
            have s14 := s13.grow g14
            refine hK _ _ (fun _ => s14.cells) ?_
            clear hK K s13 h13 g14
            iterate 2 (refine mixT_take (by rfl) ?_ (fun w' hw' => ?_) ?_; rotate_left; (focus (go_simp; (try with_reducible rfl))); (try simp only [Act.put, List.setIfInBounds_toArray, List.set_cons_zero, List.set_cons_succ]))
            refine mixT_nil ?_
            go_wp2_with fail
            go_roundw
            case rel => exact ⟨2, us, B, x, by omega, by go_num, h14.td.dev, h14.bl, h14.bb, HLI.out.mono (by omega), hca, HFA.out, fun h => by cases h⟩
            case measure => simp [intOf]
    · obtain rfl : k = 2 := by omega
      have BW : Below w.heap.size w wr := BA.trans (hBw.mono BA.size)
      have haw := awake10_any wr (HH.out.below BW hp0)
      go_wp2_with fail
      refine haw.mono ?_
      rintro e w3 ⟨rfl, hb3⟩
      go_wp2_with fail
      go_ret
      exact ⟨rfl, BW.trans (hb3.mono BW.size)⟩
set_option maxRecDepth 100000 in
set_option maxHeartbeats 8000000 in
theorem txnFull_false (sz : Int) (hsz : 0 ≤ sz ∧ sz ≤ 255) (w : World) (hH : HalfAt w) :
    Calls Tryz.prog 7 #[.int .u8 sz, .bool false] w fun e w' => e = .returned (.bool true) ∧ Below w.heap.size w w' := by
  obtain ⟨j, hj, hjq⟩ : ∃ j : Nat, (8 ≤ j ∧ j ≤ 12) ∧ (8 : Int) + sz % 5 = j := ⟨(8 + sz % 5).toNat, by omega, by omega⟩
  obtain ⟨hrg, hrb⟩ := rgF j hj
  obtain ⟨fa0, fa1⟩ := fullAt_all j hj false
  obtain ⟨y, hy, hF⟩ := format_fresh hrg 1000000 (by omega)
  rw [show ((64 : Int).toNat) = 64 from rfl] at hy
  have hcache : y.cache = [] := by have h := tfmt_cache (x := newDev 64) (s := 64) (j := j) (i := 30) (by rw [hy]); rw [hy] at h; exact h
  have hL := hF.live
  rw [hrb] at hL
  have hL0 : Live y 64 j 30 (us0 j) 2000 := hL.mono (by omega)
  have g1 : sz.tmod 5 = sz % 5 := Int.tmod_eq_emod_of_nonneg hsz.1
  have hq : 0 ≤ sz % 5 ∧ sz % 5 ≤ 4 := by omega
  generalize sz % 5 = q at *
  obtain ⟨wA, hA⟩ : ∃ wA, wA = w.alloc (.cells #[.int .i64 64, .int .i64 j, .int .i64 30] 45) := ⟨_, rfl⟩
  have bA : Blk wA w.heap.size 45 #[.int .i64 64, .int .i64 j, .int .i64 30] := by rw [hA]; exact Blk.new _ _ _
  have BA : Below w.heap.size w wA := by rw [hA]; exact (Below.refl _ _).alloc (Nat.le_refl _) _
  have hHA : HalfAt wA := hH.below BA hH.1
  have hnew := new_dev 64 (by omega) wA hHA
  have hp0 := hH.1
  have HH := Lib.hid hH
  have lA := bA.lt
  obtain ⟨L, hLw⟩ : ∃ L, L = w.heap.size := ⟨_, rfl⟩
  have HLW := Lib.hid hLw
  have hjb : (8 : Int) ≤ j ∧ (j : Int) ≤ 12 := by omega
  have HJ := Lib.hid hj
  have HF := Lib.hid (And.intro fa0 fa1)
  have HC := Lib.hid hcache
  have HL := Lib.hid hL0
  have HRG := Lib.hid hrg
  clear hL hF hrb fa0 fa1 hcache hH hHA hL0 hrg hj
  go_enter Tryz.func7, Tryz.ntmps7
  go_wp2_with fail
  rw [← hA]
  rw [← hLw] at bA lA ⊢
  clear hA hLw
  refine hnew.mono ?_
  rintro e w1 ⟨D, B0, rfl, hd1, hw1, hB0⟩
  have b1 := bA.belowAll hw1
  have c1 := b1.cells
  have l1 := b1.lt
  clear hnew hjq g1 hq
  go_wp2_with fail
  refine (tformat_dev D 64 j 30 B0 (newDev 64) w1 hd1).mono ?_
  rintro e w2 ⟨rfl, B2, hd2, g2⟩
  rw [hy] at hd2 ⊢
  have B02 : Below wA.heap.size wA w2 := hw1.trans (g2.below hw1.size hB0)
  have hB2 := g2.lo hw1.size hB0
  clear hy c1 l1 b1 hd1 hw1 hB0 g2
  obtain ⟨J2, hJ2⟩ : ∃ J2 : Nat, J2 = j - 2 := ⟨_, rfl⟩
  have hj2 : (j : Int) - 2 = J2 := by omega
  have hJb : (6 : Int) ≤ J2 ∧ (J2 : Int) ≤ 10 := by omega
  --obtain ⟨m, hm, hm2⟩ : ∃ m : Nat, fullM j true = m ∧ (J2 : Int) - 1 = m := ⟨J2 - 1, by unfold fullM; simp; omega, by omega⟩
  have hm : fullM j false = J2 := by unfold fullM; simp; omega
  have HM := Lib.hid hm
  have HJ2 := Lib.hid hJ2
  clear hm hJ2
  go_wp2_with fail
  go_loopw [8] (fun q wr => ∃ (k : Nat) (us : List Bool) (B : List Nat) (x : DevS), k ≤ 2 ∧ q = .int .i64 k ∧ DevAt wr D B x ∧ Below wA.heap.size wA wr ∧ (∀ b ∈ B, wA.heap.size ≤ b) ∧ Live x 64 j 30 us (1000 * (2 - k)) ∧ x.cache = [] ∧ FullAt j false us ∧ (k = 0 → us = us0 j)) (fun q _ => 2 - (intOf q).toNat)
  case atStart => exact ⟨0, us0 j, B2, y, by omega, rfl, hd2, B02, hB2, HL.out, HC.out, HF.out.1, fun _ => rfl⟩
  case round =>
    obtain ⟨k, us, B, x, hk, rfl, hd, hBw, hBB, hl, hca, hfa, hus⟩ := hrel
    clear hd2 B02 hB2
    have bL := bA.belowAll hBw
    have cL := bL.cells
    have lL := bL.lt
    by_cases hlt : k < 2
    · have hbeg := begin_play hd hBw hBB HRG.out hl
      have HFA := Lib.hid hfa
      have HUS := Lib.hid hus
      have HLI := Lib.hid hl
      clear hd hBw hfa hus hl
      go_wp2_with fail
      refine hbeg.mono ?_
      rintro e w3 ⟨T, F3, rfl, h3⟩
      have bL3 := bA.belowAll h3.bl
      clear hbeg cL lL bL
      have cL := bL3.cells
      have lL := bL3.lt
      --have f4 := play_take h3 0 1
      --obtain ⟨ht1, ht2⟩ := HFA.out.e1 rfl
      --rw [ht1] at f4
      --have HT2 := Lib.hid ht2
      --clear ht1 ht2
      go_wp2_with fail
      --refine f4.mono ?_
      --rintro e w4 ⟨A4, cc4, rfl, F4, h4, -, -⟩
      --rw [HT2.out]
      --clear f4 h3
      --go_wp2_with fail
      obtain ⟨F4, w4, hw4, h4⟩ : ∃ F4 w4, w4 = w3 ∧ Play wA w4 T F4 D (begTx 64 j 30 us) B x := ⟨F3, w3, rfl, h3⟩
      subst hw4
      have h4' : Play wA w4 T F4 D (fullN (fullBeg j false us) 0) B x := h4
      go_loopw [14] (fun q wr => ∃ (i : Nat) (F : List Nat), i ≤ J2 ∧ q = .int .i64 i ∧ Play wA wr T F D (fullN (fullBeg j false us) i) B x) (fun q _ => J2 - (intOf q).toNat)
      case atStart => exact ⟨0, F4, Nat.zero_le _, rfl, h4'⟩
      case round =>
        obtain ⟨i, F, hi, rfl, hp⟩ := hrel
        clear h4 h4'
        by_cases hilt : i < J2
        · have hwr := HFA.out.wr i (by rw [HM.out]; exact hilt)
          have f1 := play_write hp (63 - i) 8 bX (by omega) (by decide)
          rw [hwr.1] at f1
          have HWR := Lib.hid hwr.2
          clear hwr
          unfold bX at f1
          go_wp2_with fail
          refine f1.mono ?_
          rintro e w5 ⟨rfl, F5, h5, -⟩
          have f2 := play_write h5 (63 - i) 8 bY (by omega) (by decide)
          unfold bX at HWR
          have hwr2 := HWR.out
          rw [show (⟨#[120]⟩ : ByteArray) = bX from rfl] at hwr2
          rw [show (⟨#[120]⟩ : ByteArray) = bX from rfl, hwr2] at f2
          unfold bY at f2
          clear f1 hp hwr2
          go_wp2_with fail
          refine f2.mono ?_
          rintro e w6 ⟨rfl, F6, h6, -⟩
          clear f2 h5
          go_wp2_with fail
          go_roundw
          case rel => exact ⟨i + 1, F6, by omega, by go_num, h6⟩
          case measure => simp [intOf]; omega
        · obtain rfl : i = J2 := by omega
          have hfull : fullN (fullBeg j false us) i = fullTx j false us := by unfold fullTx; rw [HM.out]
          rw [hfull] at hp
          have f5 := left_tx T F D _ _ hp.td.tx HFA.out.st
          rw [HFA.out.left] at f5
          clear hfull
          go_wp2_with fail
          refine f5.mono ?_
          rintro e w6 ⟨rfl, hb6⟩
          have h6 := hp.below hb6
          clear f5 hp hb6
          go_wp2_with fail
          refine (play_save0 h6 hca).mono ?_
          rintro e w7 ⟨a1, a2, c1, c2, rfl, o1, o2, hb7⟩
          obtain ⟨w8, hw8⟩ : ∃ w8, w8 = w7.alloc (.cells #[.slice a1 x.stable.length c1, .slice a2 0 c2, .int .i64 x.taken, .int .i64 x.power, .bool x.off] 61) := ⟨_, rfl⟩
          have s8 := Saved.made h6 o1 o2 hb7 hw8
          have h8 := (h6.below hb7).below (w' := w8) (by rw [hw8]; exact (Below.refl _ _).alloc (Nat.le_refl _) _)
          obtain ⟨S, hS⟩ : ∃ S, S = w7.heap.size := ⟨_, rfl⟩
          rw [← hS] at s8
          have HSW := Lib.hid hS
          have HW := Lib.hid hw8
          clear o1 o2 hb7 h6 hw8 hS
          by_cases hk1 : k = 0
          · subst hk1
            go_wp2_with fail
            rw [← HW.out, ← HSW.out]
            clear HW HSW
            have f9 := taken_any D B x w8 h8.td.dev
            go_wp2_with fail
            refine f9.mono ?_
            rintro e w9 ⟨rfl, rfl⟩
            clear f9
            obtain ⟨x', hcm, hl', hca', htk⟩ := full_commit (N := 1000) HFA.out HJ.out h8.td.tx.ok (HLI.out.mono (by omega))
            have q9 := h8.drewN 1
            have f10 := play_commit q9 (fullTx_clean j false us) HFA.out.st hcm
            have bL9 := bA.belowAll q9.bl
            have htb := HLI.out.runs.tk
            have htb0 := HLI.out.runs.ok.tk
            rw [← HJ2.out] at htk
            have hv1 : IntKind.i64.wrap (i : Int) = i := by rw [IntKind.wrap_i64]; omega
            have hv2 : IntKind.i64.wrap (2 * (i : Int)) = 2 * i := by rw [IntKind.wrap_i64]; omega
            have hv3 : IntKind.i64.wrap (2 * (i : Int) + 2) = 2 * i + 2 := by rw [IntKind.wrap_i64]; omega
            have hv4 : IntKind.i64.wrap (x.taken + (2 * (i : Int) + 2)) = x.taken + (2 * i + 2) := by rw [IntKind.wrap_i64]; omega
            go_wp2_with fail
            refine wp_region_mix [.take 0, .one 1, .take 2, .take 3, .take 4, .take 6, .take 7, .take 8, .take 9, .take 10, .take 11, .take 12, .one 5, .take 13, .take 14] 15 (fun W => W.cell? ⟨L, 1, none⟩ = some (.int .i64 j)) (by kernel_rfl) (by kernel_rfl) (fun _ _ _ _ _ h => h) ((bL9.cells 1).trans rfl) ?_
            simp only [List.map_cons, List.map_nil, Ms.fill, List.getD_cons_zero, List.getD_cons_succ]
            iterate 1 (refine mixT_take (by rfl) ?_ (fun w' hw' => ?_) ?_; rotate_left; (focus (go_simp; (try with_reducible rfl))); (try simp only [Act.put, List.setIfInBounds_toArray, List.set_cons_zero, List.set_cons_succ]))
            refine mixT_step (by rfl) fun K hK => ?_
            go_simp
            refine f10.mono ?_
            rintro e w10 ⟨rfl, B10, h10, g10⟩
            have bL10 := bA.belowAll h10.bl
            refine hK _ _ (fun _ => (bL10.cells 1).trans rfl) ?_
            clear hK K
            iterate 10 (refine mixT_take (by rfl) ?_ (fun w' hw' => ?_) ?_; rotate_left; (focus (go_simp; (try with_reducible rfl))); (try simp only [Act.put, List.setIfInBounds_toArray, List.set_cons_zero, List.set_cons_succ]))
            refine mixT_step (by rfl) fun K hK => ?_
            go_simp
            refine (taken_any D B10 x' w10 h10.td.dev).mono ?_
            rintro e w11 ⟨rfl, rfl⟩
            refine hK _ _ (fun _ => (bL10.cells 1).trans rfl) ?_
            clear hK K
            iterate 2 (refine mixT_take (by rfl) ?_ (fun w' hw' => ?_) ?_; rotate_left; (focus (go_simp; (try with_reducible rfl))); (try simp only [Act.put, List.setIfInBounds_toArray, List.set_cons_zero, List.set_cons_succ]))
            refine mixT_nil ?_
            go_wp2_with fail
            go_roundw
            case rel => exact ⟨1, us1 j false, B10, x', by omega, by go_num, h10.td.dev, h10.bl, h10.bb, by rw [HUS.out (by simp)] at hl'; exact hl', hca', HF.out.2, fun h => by cases h⟩
            case measure => simp [intOf]
          · obtain rfl : k = 1 := by omega
            go_wp2_with fail
            rw [← HW.out, ← HSW.out]
            clear HW HSW
            have q8 := h8.drewN 1
            have s9 := s8.below (below_drewN' (Below.refl _ _) 1)
            have f9 := play_write q8 0 4 ⟨#[]⟩ (by omega) (by decide)
            have hbad := HFA.out.bad
            have hen : ((fullTx j false us).write 0 4 ⟨#[]⟩).2.ended = false := ((fullTx_like j false us).trans (write_like _ _ _ _)).ended
            rw [HFA.out.last] at f9
            generalize ((fullTx j false us).write 0 4 ⟨#[]⟩).2 = y9 at *
            clear s8 h8
            go_wp2_with fail
            refine wp_region_mix [.take 0, .one 1, .take 2, .take 3, .take 4, .one 5, .take 6, .take 7, .take 8, .take 9, .take 10, .one 11, .one 12, .take 13, .take 14, .take 15, .take 16, .one 17, .take 18, .take 19] 20 (fun W => W.cell? ⟨S, 0, none⟩ = some (.slice a1 x.stable.length c1) ∧ W.cell? ⟨S, 1, none⟩ = some (.slice a2 0 c2) ∧ W.cell? ⟨S, 2, none⟩ = some (.int .i64 x.taken) ∧ W.cell? ⟨S, 3, none⟩ = some (.int .i64 x.power) ∧ W.cell? ⟨S, 4, none⟩ = some (.bool x.off)) (by kernel_rfl) (by kernel_rfl) (fun _ _ _ _ _ h => h) s9.cells ?_
            simp only [List.map_cons, List.map_nil, Ms.fill, List.getD_cons_zero, List.getD_cons_succ]
            iterate 1 (refine mixT_take (by rfl) ?_ (fun w' hw' => ?_) ?_; rotate_left; (focus (go_simp; (try with_reducible rfl))); (try simp only [Act.put, List.setIfInBounds_toArray, List.set_cons_zero, List.set_cons_succ]))
            refine mixT_step (by rfl) fun K hK => ?_
            go_simp
            refine f9.mono ?_
            rintro e w10 ⟨rfl, F10, h10, g10⟩
            have s10 := s9.grow g10
            refine hK _ _ (fun _ => s10.cells) ?_
            clear hK K f9 s9 q8 g10
            iterate 3 (refine mixT_take (by rfl) ?_ (fun w' hw' => ?_) ?_; rotate_left; (focus (go_simp; (try with_reducible rfl))); (try simp only [Act.put, List.setIfInBounds_toArray, List.set_cons_zero, List.set_cons_succ]))
            refine mixT_step (by rfl) fun K hK => ?_
            go_simp
            have f10 := txcommit_bad _ _ w10 h10.td.tx.st (by rw [hbad]; decide)
            rw [hbad] at f10
            refine f10.mono ?_
            rintro e w11 ⟨rfl, hb11⟩
            have h11 := h10.below hb11
            have s11 := s10.below hb11
            refine hK _ _ (fun _ => s11.cells) ?_
            clear hK K f10 s10 h10 hb11
            iterate 5 (refine mixT_take (by rfl) ?_ (fun w' hw' => ?_) ?_; rotate_left; (focus (go_simp; (try with_reducible rfl))); (try simp only [Act.put, List.setIfInBounds_toArray, List.set_cons_zero, List.set_cons_succ]))
            refine mixT_step (by rfl) fun K hK => ?_
            go_simp
            refine (play_save0 h11 hca).mono ?_
            rintro e w12 ⟨e1, e2, d1, d2, rfl, o121, o122, hb12⟩
            have h12 := h11.below hb12
            have s12 := s11.below hb12
            refine hK _ _ (fun _ => s12.cells) ?_
            clear hK K s11 h11 hb12
            refine mixT_step (by rfl) fun K hK => ?_
            go_simp
            refine (same_saved' h12.td.dev.ok s12 o121 o122).mono ?_
            rintro e w13 ⟨rfl, hb13⟩
            have h13 := h12.below hb13
            have s13 := s12.below hb13
            refine hK _ _ (fun _ => s13.cells) ?_
            clear hK K s12 h12 hb13 o121 o122
            iterate 4 (refine mixT_take (by rfl) ?_ (fun w' hw' => ?_) ?_; rotate_left; (focus (go_simp; (try with_reducible rfl))); (try simp only [Act.put, List.setIfInBounds_toArray, List.set_cons_zero, List.set_cons_succ]))
            refine mixT_step (by rfl) fun K hK => ?_
            go_simp
            refine (play_abort h13 hen).mono ?_
            rintro e w14 ⟨rfl, F14, h14, g14⟩
            have s14 := s13.grow g14
            refine hK _ _ (fun _ => s14.cells) ?_
            clear hK K s13 h13 g14
            iterate 2 (refine mixT_take (by rfl) ?_ (fun w' hw' => ?_) ?_; rotate_left; (focus (go_simp; (try with_reducible rfl))); (try simp only [Act.put, List.setIfInBounds_toArray, List.set_cons_zero, List.set_cons_succ]))
            refine mixT_nil ?_
            go_wp2_with fail
            go_roundw
            case rel => exact ⟨2, us, B, x, by omega, by go_num, h14.td.dev, h14.bl, h14.bb, HLI.out.mono (by omega), hca, HFA.out, fun h => by cases h⟩
            case measure => simp [intOf]
    · obtain rfl : k = 2 := by omega
      have BW : Below w.heap.size w wr := BA.trans (hBw.mono BA.size)
      have haw := awake10_any wr (HH.out.below BW hp0)
      go_wp2_with fail
      refine haw.mono ?_
      rintro e w3 ⟨rfl, hb3⟩
      go_wp2_with fail
      go_ret
      exact ⟨rfl, BW.trans (hb3.mono BW.size)⟩
end Go.Proofs.YtfgfdjaiamaelaaGreatDoor
/- P10.10: TxnFull: the row proved, and its tied card. -/
namespace Go.Proofs.YtfgfdjaiamaelaaGreatDoor
open Go.ChangeShapes Go.WideShapes Go.ChangeAt Go.RowKit Go.Joins

set_option maxRecDepth 100000 in
theorem full_lifted (os : Os) (started : os.Started) (H : Type) (enc : TypeId × Value → H) :
    ReturnsInHanded {} Tryz.checked os 7 .any (fun w args => (Rows.txnFullSpec.pre enc Tryz.prog Tryz.f7 [] false w args ∧ laidMetH Tryz.prog half1 w) ∧ sizedMet enc Tryz.prog Tryz.f7 (OpenSpec.ofChange Rows.txnFullSpec) false w args)
      (Rows.txnFullSpec.post enc Tryz.prog Tryz.f7 false true false false) := by
  refine returnsInHanded_of_change_and (C := Tryz.checked) (X := fun w _ => laidMetH Tryz.prog half1 w) (fun _ _ _ hh h => h.of_heap hh) Tryz.own started (by kernel_rfl) Tryz.func7
    (ChangeSpec.witness_shaped (enc := enc) (C := Tryz.checked) (os := os) (X := fun w _ => laidMetH Tryz.prog half1 w) false (World.doorLaid Tryz.prog 400 os) #[.int .u8 0, .bool false] 8 rfl (World.shaped_of_RefB (by kernel_rfl) (by kernel_rfl)) (by kernel_rfl) (by kernel_rfl) (by kernel_rfl) (door_met os _)) ?_
  intro W base args ds gs before hval0 hW _ _ hL _
  have hval : ∀ (j : Nat) t v, Tryz.f7.params[j]? = some t → args[j]? = some v → Value.okWide Tryz.prog W .any base t v := hval0
  have hW' := hW
  obtain ⟨p, q, hA0, hV, rfl, hfz, hnd⟩ := hW
  have hA : DataW.TrodAll enc Tryz.prog W 0 (fun _ => true) true Tryz.f7.params.toList args.toList ds p := hA0
  rw [Tryz.params7] at hA hval
  obtain ⟨v0, v1, d0, d1, p0, p1, rfl, rfl, rfl, h0, h1⟩ := trodAll_two hA
  obtain ⟨rfl, rfl⟩ := trodVars_none hV
  have hH := half_of_laid hL
  have h0k := h0
  have h1k := h1
  clear hA0 hval0
  simp only [List.append_nil] at hW'
  have hlt0 : ∀ x ∈ p0, x.block < W.heap.size := fun x hx => by simpa using hW'.lt x (by simp [hx])
  have hlt1 : ∀ x ∈ p1, x.block < W.heap.size := fun x hx => by simpa using hW'.lt x (by simp [hx])
  obtain ⟨sz, rfl, rfl, _, hw0⟩ := open_int Tryz.underlying5 (hval 0 5 v0 rfl rfl) h0
  obtain ⟨tk, rfl, rfl, _⟩ := open_bool Tryz.underlying4 (hval 1 4 v1 rfl rfl) h1
  have walk : Calls Tryz.prog 7 #[.int .u8 sz, .bool tk] W fun e w' => e = .returned (.bool true) ∧ Below W.heap.size W w' := by
    cases tk
    · exact txnFull_false sz (wf_u8_iff hw0) W hH
    · exact txnFull_true sz (wf_u8_iff hw0) W hH
  refine walk.mono fun e W' ⟨he, hnx⟩ => ?_
  subst he
  refine ⟨_, rfl, _, _, _, [], p0 ++ p1, [], hW', ?_, ?_, rfl, hnx.frame _, fun h => by cases h⟩
  · exact trodAll_mk1 (shut_bool Tryz.underlying4 true)
  · exact trodAll_mk2 (Below.trod Tryz.laidOut (by kernel_rfl) (of_decide_eq_true (by kernel_rfl)) h0k hnx hlt0) (Below.trod Tryz.laidOut (by kernel_rfl) (of_decide_eq_true (by kernel_rfl)) h1k hnx hlt1)

theorem txnFull_holds : Rows.TxnFullSaid :=
  OpenClaim.holds_of_wide 7 Tryz.f7 rfl rfl rfl rfl rfl rfl rfl ⟨rfl, rfl, rfl, rfl, rfl⟩ rfl rfl rfl rfl rfl (by kernel_rfl) Tryz.func7 (by kernel_rfl)
    (of_decide_eq_true (by kernel_rfl)) (by unfold Func.isWrapper; first | (rw [if_pos (by decide +kernel)]; kernel_rfl) | (rw [if_neg (by decide +kernel)]; exact ⟨rfl, rfl⟩))
    (fun os started H enc _ => full_lifted os started H enc)

theorem txnFullCard_holds : Rows.TxnFullCardSaid :=
  Claim7.holds_tied_plain_at .later [] [.data] true (true, "b7afe181b4b591abc8eba0f6329cadd95c6e57db5f0b149c0081f6ae433a3486") false
    txnFull_holds (fun _ h => by cases h) (by kernel_rfl) (fun _ h => by cases h) txnFull_row_tie rfl ⟨rfl, rfl⟩ (by kernel_rfl) rfl
    (fun f fn hf hfn => by
      obtain rfl : f = 7 := Option.some.inj ((show Tryz.prog.funcNamed "limewash/limewashlaw10.TxnFull" = some 7 by kernel_rfl).symm.trans hf) |>.symm
      obtain rfl : fn = Tryz.f7 := (Option.some.inj (Tryz.func7.symm.trans hfn)).symm
      exact ⟨by kernel_rfl, fun j t ht => by
        rw [Tryz.params7] at ht
        have hm : t ∈ [5, 4] := by simpa using Array.mem_of_getElem? ht
        have hall : ([5, 4].all fun u => !Tryz.prog.wantsStandIn u) = true := by kernel_rfl
        exact (show Tryz.prog.wantsStandIn t = false by simpa using List.all_eq_true.1 hall t hm)⟩)
    (by kernel_rfl)

#print axioms txnFullCard_holds
end Go.Proofs.YtfgfdjaiamaelaaGreatDoor
