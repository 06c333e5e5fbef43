/- Parts of the proof, put together by program: LN, LO, NP, NQ. -/
import Derived.Test.YtjocnooekgnedaaGreatDoorPart49
import Derived.Test.YtjocnooekgnedaaGreatDoorPart01
import Derived.Test.YtjocnooekgnedaaGreatDoorRows
import Derived.Test.YtjocnooekgnedaaGreatDoorCards
import Derived.Test.YtjocnooekgnedaaGreatDoorTie
import Derived.ProofKit
import Derived.Lib.LaidTab
import Derived.Lib.SmallJoins
import Derived.LaidMore
import Derived.OpenShut
import Derived.Stop.Joined
import Derived.SevenTiedAt
import Derived.Test.YtjocnooekgnedaaGreatDoorPart03
import Derived.Test.YtjocnooekgnedaaGreatDoorProg
import Derived.Deep.Slices
import Derived.Test.YtjocnooekgnedaaGreatDoorPart09
set_option linter.unusedVariables false
set_option linter.unusedSimpArgs false
/- Layer 11: the example, walked. -/
namespace Go.Proofs.YtjocnooekgnedaaGreatDoor
open Go.RowKit Go.Maps

attribute [local go_sem] Oper.semAt_some

abbrev smC : Array Value := #[.int .i64 64, .int .i64 8, .int .i64 10]
def SmAt (B : Nat) (W : World) : Prop := Blk W B 23 smC
set_option maxRecDepth 100000 in
set_option maxHeartbeats 4000000 in
theorem shown11_any (w : World) (hH : HalfAt w) : Calls Tryz.prog 11 #[] w fun e w' => e = .returned (.bool true) ∧ Below w.heap.size w w' := by
  have hsm := small11_any w
  go_enter Tryz.func11, Tryz.ntmps11
  go_wp2_with fail
  refine hsm.mono ?_
  rintro e w1 ⟨rfl, hb1⟩
  obtain ⟨w2, hw2⟩ : ∃ w2, w1.alloc (.cells smC 23) = w2 := ⟨_, rfl⟩
  obtain ⟨L, hL⟩ : ∃ L, w1.heap.size = L := ⟨_, rfl⟩
  have bL2 : Blk w2 L 23 smC := by rw [← hw2, ← hL]; exact Blk.new _ _ _
  have B2 : Below w.heap.size w w2 := by rw [← hw2]; exact hb1.alloc hb1.size _
  have hLl : w.heap.size ≤ L := by rw [← hL]; exact hb1.size
  have HW := Lib.hid hw2
  have HL := Lib.hid hL
  clear hsm hb1 hw2 hL
  go_upto_region 2 with fail
  rw [HW.out, HL.out]
  have cL := bL2.cells
  have lL := bL2.lt
  have HC : ∀ W, Blk W L 23 smC → (W.cell? ⟨L, 0, none⟩ = some (.int .i64 64) ∧ W.cell? ⟨L, 1, none⟩ = some (.int .i64 8) ∧ W.cell? ⟨L, 2, none⟩ = some (.int .i64 10)) := fun W h => ⟨(h.cells 0).trans rfl, (h.cells 1).trans rfl, (h.cells 2).trans rfl⟩
  refine wp_region_mix [.take 0, .one 1, .one 2, .one 3, .take 4, .take 5, .take 6, .one 7, .one 8, .one 9, .take 10, .take 11, .take 12, .take 13, .one 14, .one 15, .one 16, .take 17, .take 18] 19 (fun W => W.cell? ⟨L, 0, none⟩ = some (.int .i64 64) ∧ W.cell? ⟨L, 1, none⟩ = some (.int .i64 8) ∧ W.cell? ⟨L, 2, none⟩ = some (.int .i64 10)) (by kernel_rfl) (by kernel_rfl) (fun _ _ _ _ _ h => h) ⟨(cL 0).trans rfl, (cL 1).trans rfl, (cL 2).trans rfl⟩ ?_
  simp only [List.map_cons, List.map_nil, Ms.fill, List.getD_cons_zero, List.getD_cons_succ]
  (refine mixT_take (by rfl) ?_ (fun w' hw' => ?_) ?_; rotate_left; (focus (go_simp; (try with_reducible rfl))); (try simp only [Act.put, List.setIfInBounds_toArray, List.set_cons_zero, List.set_cons_succ]))
  refine mixT_step (by rfl) fun K hK => ?_
  go_simp
  obtain ⟨X1, hX1⟩ : ∃ X, X = (w2.alloc (.cells #[.int .i64 3, .int .i64 4] 3)).drew := ⟨_, rfl⟩
  have nX1 : Blk X1 w2.heap.size 3 #[.int .i64 3, .int .i64 4] := by rw [hX1]; exact (Blk.new _ _ _).drew
  have bX1 : Below w2.heap.size w2 X1 := by rw [hX1]; exact ((Below.refl _ _).alloc (Nat.le_refl _) _).drew
  rw [← hX1]
  clear hX1
  have sX1 := bL2.belowAll bX1
  refine hK _ _ (fun _ => HC _ sX1) ?_
  clear hK K
  refine mixT_step (by rfl) fun K hK => ?_
  go_simp
  refine (file_any 97 (some ⟨w2.heap.size, 0, none⟩) 2 2 X1).mono ?_
  rintro e f1 ⟨rfl, bf1⟩
  have sf1 := sX1.belowAll bf1
  refine hK _ _ (fun _ => HC _ sf1) ?_
  clear hK K
  refine mixT_step (by rfl) fun K hK => ?_
  go_simp
  refine (check_ino 64 8 10 (fileI 97 [3, 4]) (some ⟨w2.heap.size, 0, none⟩) 2 none 0 f1 (inoIn_new (nX1.belowAll bf1) (by simp))).mono ?_
  rintro e g1 ⟨rfl, bg1⟩
  rw [chk_sm.1]
  have sg1 := sf1.belowAll bg1
  have BG1 : Below w2.heap.size w2 g1 := (bX1.trans (bf1.mono bX1.size)).trans (bg1.mono (by have := bX1.size; have := bf1.size; omega))
  refine hK _ _ (fun _ => HC _ sg1) ?_
  clear hK K
  (refine mixT_take (by rfl) ?_ (fun w' hw' => ?_) ?_; rotate_left; (focus (go_simp; (try with_reducible rfl))); (try simp only [Act.put, List.setIfInBounds_toArray, List.set_cons_zero, List.set_cons_succ]))
  (refine mixT_take (by rfl) ?_ (fun w' hw' => ?_) ?_; rotate_left; (focus (go_simp; (try with_reducible rfl))); (try simp only [Act.put, List.setIfInBounds_toArray, List.set_cons_zero, List.set_cons_succ]))
  (refine mixT_take (by rfl) ?_ (fun w' hw' => ?_) ?_; rotate_left; (focus (go_simp; (try with_reducible rfl))); (try simp only [Act.put, List.setIfInBounds_toArray, List.set_cons_zero, List.set_cons_succ]))
  refine mixT_step (by rfl) fun K hK => ?_
  go_simp
  obtain ⟨X2, hX2⟩ : ∃ X, X = (g1.alloc (.cells #[.int .i64 3] 3)) := ⟨_, rfl⟩
  have nX2 : Blk X2 g1.heap.size 3 #[.int .i64 3] := by rw [hX2]; exact (Blk.new _ _ _)
  have bX2 : Below g1.heap.size g1 X2 := by rw [hX2]; exact ((Below.refl _ _).alloc (Nat.le_refl _) _)
  rw [← hX2]
  clear hX2
  have sX2 := sg1.belowAll bX2
  refine hK _ _ (fun _ => HC _ sX2) ?_
  clear hK K
  refine mixT_step (by rfl) fun K hK => ?_
  go_simp
  refine (file_any 97 (some ⟨g1.heap.size, 0, none⟩) 1 1 X2).mono ?_
  rintro e f2 ⟨rfl, bf2⟩
  have sf2 := sX2.belowAll bf2
  refine hK _ _ (fun _ => HC _ sf2) ?_
  clear hK K
  refine mixT_step (by rfl) fun K hK => ?_
  go_simp
  refine (check_ino 64 8 10 (fileI 97 [3]) (some ⟨g1.heap.size, 0, none⟩) 1 none 0 f2 (inoIn_new (nX2.belowAll bf2) (by simp))).mono ?_
  rintro e g2 ⟨rfl, bg2⟩
  rw [chk_sm.2.1]
  have sg2 := sf2.belowAll bg2
  have BG2 : Below g1.heap.size g1 g2 := (bX2.trans (bf2.mono bX2.size)).trans (bg2.mono (by have := bX2.size; have := bf2.size; omega))
  refine hK _ _ (fun _ => HC _ sg2) ?_
  clear hK K
  (refine mixT_take (by rfl) ?_ (fun w' hw' => ?_) ?_; rotate_left; (focus (go_simp; (try with_reducible rfl))); (try simp only [Act.put, List.setIfInBounds_toArray, List.set_cons_zero, List.set_cons_succ]))
  (refine mixT_take (by rfl) ?_ (fun w' hw' => ?_) ?_; rotate_left; (focus (go_simp; (try with_reducible rfl))); (try simp only [Act.put, List.setIfInBounds_toArray, List.set_cons_zero, List.set_cons_succ]))
  (refine mixT_take (by rfl) ?_ (fun w' hw' => ?_) ?_; rotate_left; (focus (go_simp; (try with_reducible rfl))); (try simp only [Act.put, List.setIfInBounds_toArray, List.set_cons_zero, List.set_cons_succ]))
  (refine mixT_take (by rfl) ?_ (fun w' hw' => ?_) ?_; rotate_left; (focus (go_simp; (try with_reducible rfl))); (try simp only [Act.put, List.setIfInBounds_toArray, List.set_cons_zero, List.set_cons_succ]))
  refine mixT_step (by rfl) fun K hK => ?_
  go_simp
  obtain ⟨X3, hX3⟩ : ∃ X, X = (g2.alloc (.cells #[.int .i64 3, .int .i64 3] 3)) := ⟨_, rfl⟩
  have nX3 : Blk X3 g2.heap.size 3 #[.int .i64 3, .int .i64 3] := by rw [hX3]; exact (Blk.new _ _ _)
  have bX3 : Below g2.heap.size g2 X3 := by rw [hX3]; exact ((Below.refl _ _).alloc (Nat.le_refl _) _)
  rw [← hX3]
  clear hX3
  have sX3 := sg2.belowAll bX3
  refine hK _ _ (fun _ => HC _ sX3) ?_
  clear hK K
  refine mixT_step (by rfl) fun K hK => ?_
  go_simp
  refine (file_any 97 (some ⟨g2.heap.size, 0, none⟩) 2 2 X3).mono ?_
  rintro e f3 ⟨rfl, bf3⟩
  have sf3 := sX3.belowAll bf3
  refine hK _ _ (fun _ => HC _ sf3) ?_
  clear hK K
  refine mixT_step (by rfl) fun K hK => ?_
  go_simp
  refine (check_ino 64 8 10 (fileI 97 [3, 3]) (some ⟨g2.heap.size, 0, none⟩) 2 none 0 f3 (inoIn_new (nX3.belowAll bf3) (by simp))).mono ?_
  rintro e g3 ⟨rfl, bg3⟩
  rw [chk_sm.2.2.1]
  have sg3 := sf3.belowAll bg3
  have BG3 : Below g2.heap.size g2 g3 := (bX3.trans (bf3.mono bX3.size)).trans (bg3.mono (by have := bX3.size; have := bf3.size; omega))
  refine hK _ _ (fun _ => HC _ sg3) ?_
  clear hK K
  (refine mixT_take (by rfl) ?_ (fun w' hw' => ?_) ?_; rotate_left; (focus (go_simp; (try with_reducible rfl))); (try simp only [Act.put, List.setIfInBounds_toArray, List.set_cons_zero, List.set_cons_succ]))
  (refine mixT_take (by rfl) ?_ (fun w' hw' => ?_) ?_; rotate_left; (focus (go_simp; (try with_reducible rfl))); (try simp only [Act.put, List.setIfInBounds_toArray, List.set_cons_zero, List.set_cons_succ]))
  refine mixT_nil ?_
  have B3 : Below w.heap.size w g3 := ((B2.trans (BG1.mono B2.size)).trans (BG2.mono (by have := B2.size; have := BG1.size; omega))).trans (BG3.mono (by have := B2.size; have := BG1.size; have := BG2.size; omega))
  clear cL lL HC BG1 BG2 BG3 sX1 sX2 sX3 sf1 sf2 sf3 sg1 sg2 nX1 nX2 nX3 bX1 bX2 bX3 bf1 bf2 bf3 bg1 bg2 bg3 bL2 B2
  have cL := sg3.cells
  have lL := sg3.lt
  go_wp2_with fail
  obtain ⟨w5, hw5⟩ : ∃ W, W = g3.alloc (.cells #[.int .i64 0] 3) := ⟨_, rfl⟩
  have n5 : Blk w5 g3.heap.size 3 #[.int .i64 0] := by rw [hw5]; exact Blk.new _ _ _
  have b5 : Below g3.heap.size g3 w5 := by rw [hw5]; exact (Below.refl _ _).alloc (Nat.le_refl _) _
  rw [← hw5]
  clear hw5
  refine (encode_ino 64 8 10 ⟨1, 1, 1, 0, 0, 1, [0], []⟩ (some ⟨g3.heap.size, 0, none⟩) 1 none 0 w5 ⟨.inr ⟨g3.heap.size, 0, rfl, n5.lt, fun j u hu => by
    rw [Nat.zero_add, n5.cells]
    simpa using hu⟩, .inl rfl, by simp, by simp⟩).mono ?_
  rintro e w6 ⟨Bp, bn, c3, rfl, hb6, hen, -⟩
  obtain ⟨hn6, hRb⟩ := hen enc_sm.1
  rw [enc_sm.2] at hn6 hRb
  subst hn6
  rw [enc_sm.1]
  have hcv := conv_bytes Bp 13 c3 [1, 1, 1, 0, 0, 0, 1, 1, 0, 0, 0, 0, 0] rfl w6 hRb
  rw [show strOfNums [1, 1, 1, 0, 0, 0, 1, 1, 0, 0, 0, 0, 0] = ⟨#[1, 1, 1, 0, 0, 0, 1, 1, 0, 0, 0, 0, 0]⟩ from by rfl] at hcv
  have sL6 := (sg3.belowAll b5).belowAll hb6
  have B6 : Below w.heap.size w w6 := (B3.trans (b5.mono B3.size)).trans (hb6.mono (by have := B3.size; have := b5.size; omega))
  clear cL lL sg3 n5 b5 hb6 hen B3
  have cL := sL6.cells
  have lL := sL6.lt
  have HRB := Lib.hid hRb
  clear hRb
  go_wp2_with fail
  refine (begun11_fresh 64 8 10 rgSm w6 (hH.below B6 hH.1)).mono ?_
  rintro e w7 ⟨D, T, F, Bd, y, rfl, hF, htd, hb7, hFl, hBl⟩
  have sL7 := sL6.belowAll hb7
  have B7 := B6.trans (hb7.mono B6.size)
  clear cL lL sL6 hcv HRB
  have HF := Lib.hid hF
  have HT := Lib.hid htd
  have HFB := Lib.hid (And.intro hFl hBl)
  clear hF htd hFl hBl hb7
  go_wp2_with fail
  obtain ⟨htx, hdv, hdj⟩ := HT.out
  obtain ⟨q1, q2, q3⟩ := get_sm HF.out
  refine (Get_tx decodeAll T F D ySm Bd y 1 w7 htx hdv rfl).mono ?_
  rw [q1]
  rintro e w8 ⟨bv, av, rfl, hob, hoa, hb8⟩
  obtain ⟨Ab, cb, rfl⟩ := own_slice hob
  obtain ⟨Aa, ca, rfl⟩ := own_slice hoa
  simp only at hob hoa ⊢
  have ht8 := htx.below hb8
  have hd8 := hdv.below hb8
  obtain ⟨v8, hv8⟩ : ∃ W, w8.alloc (.cells (inoC ino0 (.slice Ab ino0.blocks.length cb) (.slice Aa ino0.attrs.length ca)) 26) = W := ⟨_, rfl⟩
  have b8 : Below w8.heap.size w8 v8 := by rw [← hv8]; exact (Below.refl _ _).alloc (Nat.le_refl _) _
  have bX8 : Blk v8 w8.heap.size 26 (inoC ino0 (.slice Ab ino0.blocks.length cb) (.slice Aa ino0.attrs.length ca)) := by rw [← hv8]; exact Blk.new _ _ _
  have HV8 := Lib.hid hv8
  have hob8 := own_below hob b8
  have hoa8 := own_below hoa b8
  clear htx hdv hv8 hob hoa
  go_upto_region 11 with fail
  have e8 := HV8.out
  simp only [inoC] at e8
  rw [e8]
  clear e8
  have hq2 := Get_tx decodeAll T F D ySm Bd y 0 v8 (ht8.below b8) (hd8.below b8) rfl
  rw [q2] at hq2
  go_wp2_with fail
  refine hq2.mono ?_
  rintro e w9 ⟨bv, av, rfl, hob, hoa, hb9⟩
  obtain ⟨Ab9, cb9, rfl⟩ := own_slice hob
  obtain ⟨Aa9, ca9, rfl⟩ := own_slice hoa
  simp only at hob hoa ⊢
  have ht9 := (ht8.below b8).below hb9
  have hd9 := (hd8.below b8).below hb9
  have bX9 := bX8.belowAll hb9
  have hob9 := own_below hob8 (hb9.mono (by have := b8.size; omega))
  have hoa9 := own_below hoa8 (hb9.mono (by have := b8.size; omega))
  obtain ⟨v9, hv9⟩ : ∃ W, w9.alloc (.cells (inoC ino0 (.slice Ab9 ino0.blocks.length cb9) (.slice Aa9 ino0.attrs.length ca9)) 26) = W := ⟨_, rfl⟩
  have b9 : Below w9.heap.size w9 v9 := by rw [← hv9]; exact (Below.refl _ _).alloc (Nat.le_refl _) _
  have HV9 := Lib.hid hv9
  have B9 : Below w.heap.size w v9 := (((B7.trans (hb8.mono B7.size)).trans (b8.mono (by have := B7.size; have := hb8.size; omega))).trans (hb9.mono (by have := B7.size; have := hb8.size; have := b8.size; omega))).trans (b9.mono (by have := B7.size; have := hb8.size; have := b8.size; have := hb9.size; omega))
  clear hv9 hob hoa hq2
  go_upto_region 12 with fail
  have e9 := HV9.out
  simp only [inoC] at e9
  rw [e9]
  clear e9
  have hq3 := Get_tx decodeAll T F D ySm Bd y 11 v9 (ht9.below b9) (hd9.below b9) rfl
  rw [q3] at hq3
  go_wp2_with fail
  refine hq3.mono ?_
  rintro e w10 ⟨bv, av, rfl, hob, hoa, hb10⟩
  obtain ⟨Ab10, cb10, rfl⟩ := own_slice hob
  obtain ⟨Aa10, ca10, rfl⟩ := own_slice hoa
  simp only at hob hoa ⊢
  have ht10 := (ht9.below b9).below hb10
  have hd10 := (hd9.below b9).below hb10
  have bX10 := (bX9.belowAll b9).belowAll hb10
  obtain ⟨v10, hv10⟩ : ∃ W, w10.alloc (.cells (inoC ino0 (.slice Ab10 ino0.blocks.length cb10) (.slice Aa10 ino0.attrs.length ca10)) 26) = W := ⟨_, rfl⟩
  have b10 : Below w10.heap.size w10 v10 := by rw [← hv10]; exact (Below.refl _ _).alloc (Nat.le_refl _) _
  have HV10 := Lib.hid hv10
  have B10 : Below w.heap.size w v10 := (B9.trans (hb10.mono B9.size)).trans (b10.mono (by have := B9.size; have := hb10.size; omega))
  clear hv10 hob hoa hq3
  go_upto_region 13 with fail
  have e10 := HV10.out
  simp only [inoC] at e10
  rw [e10]
  clear e10
  have bXv := bX10.belowAll b10
  have cX := bXv.cells
  have lX := bXv.lt
  have hsame := same_ino ino0 ino0 Ab cb Aa ca none 0 none 0 v10 ⟨.inl rfl, .inl rfl, by simp [ino0], by simp [ino0]⟩ ⟨.inl rfl, .inl rfl, by simp [ino0], by simp [ino0]⟩ (by simp [ino0]) (by simp [ino0]) (by simp [ino0]) (by simp [ino0])
  rw [show sameIno ino0 ino0 = true from rfl] at hsame
  go_wp2_with fail
  refine hsame.mono ?_
  rintro e w11 ⟨rfl, hb11⟩
  have B11 := B10.trans (hb11.mono B10.size)
  have ht11 := (ht10.below b10).below hb11
  have hd11 := (hd10.below b10).below hb11
  have bX11 := bXv.belowAll hb11
  clear hsame cX lX
  go_wp2_with fail
  refine (file_any 0 none 0 0 w11).mono ?_
  rintro e w12 ⟨rfl, hb12⟩
  have B12 := B11.trans (hb12.mono B11.size)
  have hal := Alloc_tx decodeAll encodeAll T F D ySm Bd y (fileI 0 []) none 0 none 0 w12 (ht11.below hb12) (hd11.below hb12) rfl (inoIn_nil w12 0)
  rw [alloc_sm1 HF.out] at hal
  go_wp2_with fail
  refine hal.mono ?_
  rintro e w13 ⟨rfl, F13, ht13, hg13⟩
  have h13 : TD w13 T F13 D (ySm.iput 1 (fileI 0 [])).2 Bd y := (TD.mk (ht11.below hb12) (hd11.below hb12) hdj).grow ht13 hg13
  have hFw : ∀ b ∈ F, w.heap.size ≤ b := fun b hb => Nat.le_trans B6.size (HFB.out.1 b hb)
  have hXF : w8.heap.size ∉ F := fun hm => by have := (HT.out.tx.lt _ hm).2; have := hb8.size; omega
  obtain ⟨bX13, hXF13⟩ := hg13.blk' (bX11.belowAll hb12) hXF
  have B13 := B12.trans (hg13.below B12.size hFw)
  have HOK := Lib.hid (And.intro HT.out.tx.ok h13.tx.ok)
  have hF13w : ∀ b ∈ F13, w.heap.size ≤ b := fun b hb => by
    rcases hg13.new b hb with h | h
    · exact hFw b h
    · have := B12.size; omega
  clear hal ht13 hg13 ht11 hd11 hb12 bX11 hdj hFw hXF
  obtain ⟨w14, hw14⟩ : ∃ W, W = w13.alloc (.cells #[.int .i64 7] 3) := ⟨_, rfl⟩
  have n14 : Blk w14 w13.heap.size 3 #[.int .i64 7] := by rw [hw14]; exact Blk.new _ _ _
  have b14 : Below w13.heap.size w13 w14 := by rw [hw14]; exact (Below.refl _ _).alloc (Nat.le_refl _) _
  have HW14 := Lib.hid hw14
  clear hw14
  go_wp2_with fail
  rw [← HW14.out]
  refine (file_any 5 (some ⟨w13.heap.size, 0, none⟩) 1 1 w14).mono ?_
  rintro e w15 ⟨rfl, hb15⟩
  have bb15 := b14.trans (hb15.mono b14.size)
  have h15 := h13.below bb15
  have bX15 := bX13.belowAll bb15
  have B15 := B13.trans (bb15.mono B13.size)
  have hal := Alloc_tx decodeAll encodeAll T F13 D _ Bd y (fileI 5 [7]) (some ⟨w13.heap.size, 0, none⟩) 1 none 0 w15 h15.tx h15.dev (by decide +kernel) (inoIn_new (n14.belowAll hb15) (by simp))
  rw [alloc_sm2 HF.out HOK.out.1] at hal
  clear h13 bX13 bb15 n14 b14 hb15 HW14
  go_wp2_with fail
  refine hal.mono ?_
  rintro e w16 ⟨rfl, F16, ht16, hg16⟩
  have h16 := h15.grow ht16 hg16
  obtain ⟨bX16, hXF16⟩ := hg16.blk' bX15 hXF13
  have B16 := B15.trans (hg16.below B15.size hF13w)
  clear hal ht16 hg16 h15 bX15 hXF13 hF13w
  have hq4 := Get_tx decodeAll T F16 D _ Bd y 2 w16 h16.tx h16.dev (by decide +kernel)
  rw [get_sm2 HF.out HOK.out.1 HOK.out.2] at hq4
  go_wp2_with fail
  refine hq4.mono ?_
  rintro e w17 ⟨bv, av, rfl, hob, hoa, hb17⟩
  obtain ⟨Ab17, cb17, rfl⟩ := own_slice hob
  obtain ⟨Aa17, ca17, rfl⟩ := own_slice hoa
  simp only at hob hoa ⊢
  have bX17 := bX16.belowAll hb17
  have B17 := B16.trans (hb17.mono B16.size)
  have cX := bX17.cells
  have lX := bX17.lt
  have fX := bX17.free
  clear hq4 h16
  go_upto_region 18 with fail
  obtain ⟨w18, hw18⟩ : ∃ W, W = ((((((((w17.setCell ⟨w8.heap.size, 0, none⟩ (.int .i64 (fileI 5 [7]).kind)).setCell ⟨w8.heap.size, 1, none⟩ (.int .i64 (fileI 5 [7]).links)).setCell ⟨w8.heap.size, 2, none⟩ (.int .i64 (fileI 5 [7]).size)).setCell ⟨w8.heap.size, 3, none⟩ (.int .i64 (fileI 5 [7]).major)).setCell ⟨w8.heap.size, 4, none⟩ (.int .i64 (fileI 5 [7]).minor)).setCell ⟨w8.heap.size, 5, none⟩ (.int .i64 (fileI 5 [7]).parent)).setCell ⟨w8.heap.size, 6, none⟩ (.slice Ab17 (fileI 5 [7]).blocks.length cb17)).setCell ⟨w8.heap.size, 7, none⟩ (.slice Aa17 (fileI 5 [7]).attrs.length ca17)) := ⟨_, rfl⟩
  have hXg : w.heap.size ≤ w8.heap.size := by have := B7.size; have := hb8.size; omega
  have b18 : Blk w18 w8.heap.size 26 (inoC (fileI 5 [7]) (.slice Ab17 (fileI 5 [7]).blocks.length cb17) (.slice Aa17 (fileI 5 [7]).attrs.length ca17)) := by rw [hw18]; exact ((((((((bX17.set_ 0 (.int .i64 (fileI 5 [7]).kind)).set_ 1 (.int .i64 (fileI 5 [7]).links)).set_ 2 (.int .i64 (fileI 5 [7]).size)).set_ 3 (.int .i64 (fileI 5 [7]).major)).set_ 4 (.int .i64 (fileI 5 [7]).minor)).set_ 5 (.int .i64 (fileI 5 [7]).parent)).set_ 6 (.slice Ab17 (fileI 5 [7]).blocks.length cb17)).set_ 7 (.slice Aa17 (fileI 5 [7]).attrs.length ca17))
  have B18 : Below w.heap.size w w18 := by rw [hw18]; exact ((((((((B17.setCell (p := ⟨w8.heap.size, 0, none⟩) hXg _).setCell (p := ⟨w8.heap.size, 1, none⟩) hXg _).setCell (p := ⟨w8.heap.size, 2, none⟩) hXg _).setCell (p := ⟨w8.heap.size, 3, none⟩) hXg _).setCell (p := ⟨w8.heap.size, 4, none⟩) hXg _).setCell (p := ⟨w8.heap.size, 5, none⟩) hXg _).setCell (p := ⟨w8.heap.size, 6, none⟩) hXg _).setCell (p := ⟨w8.heap.size, 7, none⟩) hXg _)
  have hsz : w8.heap.size < w16.heap.size := by have := bX16.lt; exact this
  have hhp : ∀ q, w16.heap.size ≤ q → w18.heap[q]? = w17.heap[q]? := fun q hq => by
    rw [hw18]
    iterate 8 rw [Below.heap_setCell _ _ _ q (by show q ≠ w8.heap.size; omega)]
  have hob18 := Reads.of_own (own_block hob fun q hq => hhp q (own_lt hob q hq).1)
  have hoa18 := Reads.of_own (own_block hoa fun q hq => hhp q (own_lt hoa q hq).1)
  have hin18 : InoIn w18 (fileI 5 [7]) Ab17 cb17 Aa17 ca17 := ⟨hob18, hoa18, by simp [fileI], by simp [fileI]⟩
  rw [← hw18]
  have HC : ∀ W, Blk W w8.heap.size 26 (inoC (fileI 5 [7]) (.slice Ab17 (fileI 5 [7]).blocks.length cb17) (.slice Aa17 (fileI 5 [7]).attrs.length ca17)) → (W.cell? ⟨w8.heap.size, 0, none⟩ = some (.int .i64 2) ∧ W.cell? ⟨w8.heap.size, 1, none⟩ = some (.int .i64 1) ∧ W.cell? ⟨w8.heap.size, 2, none⟩ = some (.int .i64 5) ∧ W.cell? ⟨w8.heap.size, 3, none⟩ = some (.int .i64 0) ∧ W.cell? ⟨w8.heap.size, 4, none⟩ = some (.int .i64 0) ∧ W.cell? ⟨w8.heap.size, 5, none⟩ = some (.int .i64 0) ∧ W.cell? ⟨w8.heap.size, 6, none⟩ = some (.slice Ab17 1 cb17) ∧ W.cell? ⟨w8.heap.size, 7, none⟩ = some (.slice Aa17 0 ca17)) := fun W h => ⟨(h.cells 0).trans rfl, (h.cells 1).trans rfl, (h.cells 2).trans rfl, (h.cells 3).trans rfl, (h.cells 4).trans rfl, (h.cells 5).trans rfl, (h.cells 6).trans rfl, (h.cells 7).trans rfl⟩
  have HCC := Lib.hid HC
  clear hw18 hhp hob18 hoa18 hob hoa cX lX fX bX17 B17 HC
  refine wp_region_mix [.take 0, .take 1, .take 2, .take 3, .take 4, .take 5, .take 6, .take 7, .take 8, .take 9, .take 10, .take 11, .take 12, .take 13, .take 14, .take 15, .take 16, .take 17, .take 18, .take 19, .one 20, .one 21, .one 22, .take 23, .take 24] 25 (fun W => W.cell? ⟨w8.heap.size, 0, none⟩ = some (.int .i64 2) ∧ W.cell? ⟨w8.heap.size, 1, none⟩ = some (.int .i64 1) ∧ W.cell? ⟨w8.heap.size, 2, none⟩ = some (.int .i64 5) ∧ W.cell? ⟨w8.heap.size, 3, none⟩ = some (.int .i64 0) ∧ W.cell? ⟨w8.heap.size, 4, none⟩ = some (.int .i64 0) ∧ W.cell? ⟨w8.heap.size, 5, none⟩ = some (.int .i64 0) ∧ W.cell? ⟨w8.heap.size, 6, none⟩ = some (.slice Ab17 1 cb17) ∧ W.cell? ⟨w8.heap.size, 7, none⟩ = some (.slice Aa17 0 ca17)) (by kernel_rfl) (by kernel_rfl) (fun _ _ _ _ _ h => h) (HCC.out w18 b18) ?_
  simp only [List.map_cons, List.map_nil, Ms.fill, List.getD_cons_zero, List.getD_cons_succ]
  iterate 20 (refine mixT_take (by rfl) ?_ (fun w' hw' => ?_) ?_; rotate_left; (focus (go_simp; (try with_reducible rfl))); (try simp only [Act.put, List.setIfInBounds_toArray, List.set_cons_zero, List.set_cons_succ]))
  refine mixT_step (by rfl) fun K hK => ?_
  go_simp
  obtain ⟨X4, hX4⟩ : ∃ X, X = (w18.alloc (.cells #[.int .i64 7] 3)).drew := ⟨_, rfl⟩
  have nX4 : Blk X4 w18.heap.size 3 #[.int .i64 7] := by rw [hX4]; exact (Blk.new _ _ _).drew
  have bX4 : Below w18.heap.size w18 X4 := by rw [hX4]; exact ((Below.refl _ _).alloc (Nat.le_refl _) _).drew
  rw [← hX4]
  clear hX4
  have sX4 := b18.belowAll bX4
  refine hK _ _ (fun _ => HCC.out _ sX4) ?_
  clear hK K
  refine mixT_step (by rfl) fun K hK => ?_
  go_simp
  refine (file_any 5 (some ⟨w18.heap.size, 0, none⟩) 1 1 X4).mono ?_
  rintro e f4 ⟨rfl, bf4⟩
  have sf4 := sX4.belowAll bf4
  refine hK _ _ (fun _ => HCC.out _ sf4) ?_
  clear hK K
  refine mixT_step (by rfl) fun K hK => ?_
  go_simp
  have B4f : Below w18.heap.size w18 f4 := bX4.trans (bf4.mono bX4.size)
  have hsm2 := same_ino (fileI 5 [7]) (fileI 5 [7]) Ab17 cb17 Aa17 ca17 (some ⟨w18.heap.size, 0, none⟩) 1 none 0 f4 (hin18.below B4f) (inoIn_new (nX4.belowAll bf4) (by simp)) (by simp [fileI]) (by simp [fileI]) (by simp [fileI]) (by simp [fileI])
  rw [show sameIno (fileI 5 [7]) (fileI 5 [7]) = true from by decide] at hsm2
  refine hsm2.mono ?_
  rintro e g4 ⟨rfl, bg4⟩
  refine hK _ _ (fun _ => HCC.out _ (sf4.belowAll bg4)) ?_
  clear hK K
  have B19 : Below w.heap.size w g4 := (B18.trans (B4f.mono B18.size)).trans (bg4.mono (Nat.le_trans B18.size B4f.size))
  iterate 2 (refine mixT_take (by rfl) ?_ (fun w' hw' => ?_) ?_; rotate_left; (focus (go_simp; (try with_reducible rfl))); (try simp only [Act.put, List.setIfInBounds_toArray, List.set_cons_zero, List.set_cons_succ]))
  refine mixT_nil ?_
  go_wp2_with fail
  go_ret
  exact ⟨rfl, B19⟩
end Go.Proofs.YtjocnooekgnedaaGreatDoor
/- The laws of layer 11: what all their rows share. -/
namespace Go.Proofs.YtjocnooekgnedaaGreatDoor
open Go.ChangeShapes Go.WideShapes Go.ChangeAt Go.RowKit Go.Joins

theorem Tryz.own : ownKnob Tryz.prog.godebug = none := by kernel_rfl
theorem Tryz.laidOut : laidOutB Tryz.prog = true := by kernel_rfl
theorem gHalf : Tryz.prog.globalNamed "limewash/sums.half" = some 0 := by kernel_rfl
def half1 : List (String × DataW Unit) := [("limewash/sums.half", Rows.laid_limewash_sums_half)]

/-- The heap that the program's start leaves meets the condition. -/
theorem door_met (os : Os) (args : Array Value) : laidMetH Tryz.prog half1 ((World.doorLaid Tryz.prog 400 os).forCall (fun _ _ => 0) ⟨#[], args, []⟩).memory :=
  laidMetH_of_parts3 (fuel := 8) (laidMet_of_run' 8 (by kernel_rfl) (by kernel_rfl)) (by kernel_rfl) (by kernel_rfl)

theorem gHalfType : (Tryz.prog.globals[0]?).map (·.type) = some 287 := by kernel_rfl
theorem half_of_laid {W : World} (h : laidMetH Tryz.prog half1 W) : HalfAt W := by
  rw [MakeChecks.laidMetH_plain _ _ _ (by kernel_rfl)] at h
  have hT : Lib.TabIs Tryz.prog W "limewash/sums.half" .u32 halfL := Lib.tabIs_of_head (n := 16) (e := 81) gHalf gHalfType (by kernel_rfl) (by kernel_rfl) (by kernel_rfl) (by kernel_rfl) h
  have hc : ∀ j, j < 16 → W.cell? ⟨0, j, none⟩ = some (.int .u32 (halfL.getD j 0)) := fun j hj => hT.cell gHalf j hj
  exact ⟨block_lt_of_cell (hc 0 (by omega)), hc⟩
end Go.Proofs.YtjocnooekgnedaaGreatDoor
/- Arguments opened: a slice of one-cell elements as a list. -/
namespace Go.Proofs.YtjocnooekgnedaaGreatDoor
open Go.ChangeShapes Go.WideShapes Go.ChangeAt Go.RowKit Go.Deep

theorem list_of {α : Type} (q : Nat → α → Prop) (n : Nat) (h : ∀ i, i < n → ∃ a, q i a) : ∃ xs : List α, xs.length = n ∧ ∀ i (hi : i < xs.length), q i xs[i] := by
  induction n with
  | zero => exact ⟨[], rfl, fun i hi => by simp at hi⟩
  | succ n ih =>
    obtain ⟨xs, hl, hx⟩ := ih (fun i hi => h i (by omega))
    obtain ⟨a, ha⟩ := h n (by omega)
    refine ⟨xs ++ [a], by simp [hl], fun i hi => ?_⟩
    by_cases hin : i < xs.length
    · rw [List.getElem_append_left hin]; exact hx i hin
    · have : i = n := by simp at hi; omega
      subst this
      rw [List.getElem_append_right (by omega)]
      simpa [hl] using ha

/-- A slice of one-cell elements that came in. -/
theorem open_cells {H : Type} {enc : TypeId × Value → H} {P : Program} {W : World} {α : Type} (mk : α → Value) {t e : TypeId} {fuel : Nat} {v : Value} {x : DataW H × List MemPlace} (ht : P.underlying t = some (.slice e)) (hC : P.cellsOf e = 1)
    (hel : ∀ n cs x, DataW.trod enc P W 0 (fun _ => true) true n e cs = some x → ∃ a, cs = [mk a])
    (h : DataW.trod enc P W 0 (fun _ => true) true fuel t [v] = some x) :
    ∃ (A : Option Addr) (n c : Nat) (xs : List α), v = .slice A n c ∧ xs.length = n ∧ Reads W A (xs.map mk) ∧ n ≤ c ∧ c ≤ maxLen ∧ (A = none → n = 0 ∧ c = 0) := by
  rcases open_slice ht h with ⟨h0, _⟩ | ⟨a, len, cap, m, n, D, Pl, hcs, hb, hl, hm, hmm, hx, hi⟩
  · simp only [List.cons.injEq, and_true] at h0
    subst h0
    exact ⟨none, 0, 0, [], rfl, rfl, Reads.nil, Nat.le_refl _, Nat.zero_le _, fun _ => ⟨rfl, rfl⟩⟩
  · simp only [List.cons.injEq, and_true] at hcs
    subst hcs
    simp only [if_true] at hmm
    have hat : ∀ i, i < len → ∃ u : α, W.cell? (a.add i) = some (mk u) := by
      intro i hi'
      obtain ⟨cs', hc, ht'⟩ := hi i (by omega)
      rw [hC, Nat.mul_one] at hc
      obtain ⟨u, rfl⟩ := hel n cs' _ ht'
      obtain ⟨_, _, hat⟩ := World.cells?_some hc
      have := hat 0 (by omega)
      refine ⟨u, ?_⟩
      simpa [Addr.add] using this
    obtain ⟨xs, hxl, hxs⟩ := list_of (fun i u => W.cell? (a.add i) = some (mk u)) len hat
    refine ⟨some a, len, cap, xs, rfl, hxl, ?_, hl, hm, fun h => by cases h⟩
    rcases Nat.eq_zero_or_pos len with h0 | h0
    · left
      have : xs = [] := List.eq_nil_of_length_eq_zero (by omega)
      simp [this]
    · right
      obtain ⟨b, off, spot⟩ := a
      have h1 := hxs 0 (by omega)
      have hspot : spot = none := by simpa [Addr.add] using World.cell?_spot h1
      subst hspot
      refine ⟨b, off, rfl, ?_, fun j u hu => ?_⟩
      · have := World.block_lt_of_cell? W _ h1
        simpa [Addr.add] using this
      · rw [List.getElem?_map] at hu
        by_cases hj : j < xs.length
        · rw [List.getElem?_eq_getElem hj, Option.map_some, Option.some.injEq] at hu
          subst hu
          have := hxs j hj
          unfold Addr.add at this
          split at this
          · rename_i hj0; subst hj0; simpa using this
          · exact this
        · rw [List.getElem?_eq_none (by omega)] at hu; simp at hu

end Go.Proofs.YtjocnooekgnedaaGreatDoor
/- Arguments opened: a slice of structs as a list. -/
namespace Go.Proofs.YtjocnooekgnedaaGreatDoor
open Go.ChangeShapes Go.WideShapes Go.ChangeAt Go.RowKit Go.Deep

/-- A slice of elements of k cells that came in. -/
theorem open_rows {H : Type} {enc : TypeId × Value → H} {P : Program} {W : World} {α : Type} (mk : α → List Value) (good : α → Prop) (k : Nat) (hk : 0 < k) {t e : TypeId} {fuel : Nat} {v : Value} {x : DataW H × List MemPlace} (ht : P.underlying t = some (.slice e)) (hC : P.cellsOf e = k)
    (hel : ∀ n cs x, cs.length = k → DataW.trod enc P W 0 (fun _ => true) true n e cs = some x → ∃ a, cs = mk a ∧ good a)
    (h : DataW.trod enc P W 0 (fun _ => true) true fuel t [v] = some x) :
    ∃ (A : Option Addr) (n c : Nat) (xs : List α), v = .slice A n c ∧ xs.length = n ∧ Reads W A (xs.flatMap mk) ∧ (∀ a ∈ xs, (mk a).length = k ∧ good a) ∧ n ≤ c ∧ c ≤ maxLen ∧ (A = none → n = 0 ∧ c = 0) := by
  rcases open_slice ht h with ⟨h0, _⟩ | ⟨a, len, cap, m, n, D, Pl, hcs, hb, hl, hm, hmm, hx, hi⟩
  · simp only [List.cons.injEq, and_true] at h0
    subst h0
    exact ⟨none, 0, 0, [], rfl, rfl, Reads.nil, fun _ h => (by cases h), Nat.le_refl _, Nat.zero_le _, fun _ => ⟨rfl, rfl⟩⟩
  · simp only [List.cons.injEq, and_true] at hcs
    subst hcs
    simp only [if_true] at hmm
    have hat : ∀ i, i < len → ∃ u : α, (mk u).length = k ∧ good u ∧ ∀ j, j < k → W.cell? (a.add (i * k + j)) = (mk u)[j]? := by
      intro i hi'
      obtain ⟨cs', hc, ht'⟩ := hi i (by omega)
      rw [hC] at hc
      obtain ⟨_, hlen, hat⟩ := World.cells?_some hc
      obtain ⟨u, rfl, hg⟩ := hel n cs' _ hlen ht'
      exact ⟨u, hlen, hg, fun j hj => by rw [← Go.Deep.add_add]; exact hat j hj⟩
    obtain ⟨xs, hxl, hxs⟩ := list_of (fun i u => (mk u).length = k ∧ good u ∧ ∀ j, j < k → W.cell? (a.add (i * k + j)) = (mk u)[j]?) len hat
    have hgd : ∀ u ∈ xs, (mk u).length = k ∧ good u := fun u hu => by
      obtain ⟨i, hi', rfl⟩ := List.mem_iff_getElem.1 hu
      exact ⟨(hxs i hi').1, (hxs i hi').2.1⟩
    refine ⟨some a, len, cap, xs, rfl, hxl, ?_, hgd, hl, hm, fun h => by cases h⟩
    rcases Nat.eq_zero_or_pos len with h0 | h0
    · left
      have : xs = [] := List.eq_nil_of_length_eq_zero (by omega)
      simp [this]
    · right
      obtain ⟨b, off, spot⟩ := a
      have h1 := (hxs 0 (by omega)).2.2 0 hk
      have hv0 : ∃ u, (mk (xs[0]'(by omega)))[0]? = some u := ⟨_, List.getElem?_eq_getElem (by rw [(hxs 0 (by omega)).1]; exact hk)⟩
      obtain ⟨u0, hu0⟩ := hv0
      rw [hu0] at h1
      have hspot : spot = none := by simpa [Addr.add] using World.cell?_spot h1
      subst hspot
      refine ⟨b, off, rfl, ?_, fun j u hu => ?_⟩
      · have := World.block_lt_of_cell? W _ h1
        simpa [Addr.add] using this
      · have hjl : j < xs.length * k := by
          have hlt := (List.getElem?_eq_some_iff.1 hu).1
          have : (xs.flatMap mk).length = xs.length * k := by
            clear hu hlt hxl hxs hu0 h1
            induction xs with
            | nil => simp
            | cons y t ih => rw [List.flatMap_cons, List.length_append, (hgd y (by simp)).1, ih (fun u hu => hgd u (List.mem_cons_of_mem _ hu)), List.length_cons, Nat.add_mul, Nat.one_mul, Nat.add_comm]
          rwa [this] at hlt
        have hq : j / k < xs.length := by rw [Nat.div_lt_iff_lt_mul hk]; exact hjl
        have hr : j % k < k := Nat.mod_lt _ hk
        have e := flat_get (f := mk) (m := k) (fun s hs => (hgd s hs).1) hr hq
        have hj : j / k * k + j % k = j := by rw [Nat.mul_comm]; exact Nat.div_add_mod j k
        rw [hj, hu] at e
        have h2 := (hxs (j / k) hq).2.2 (j % k) hr
        rw [hj, ← e] at h2
        unfold Addr.add at h2
        split at h2
        · rename_i hj0; subst hj0; simpa using h2
        · exact h2

end Go.Proofs.YtjocnooekgnedaaGreatDoor
