/- Parts of the proof, put together by program: LC, Z0. -/
import Derived.Test.YtjocnooekgnedaaGreatDoorPart42
import Derived.Test.YtjocnooekgnedaaGreatDoorPart04
set_option linter.unusedVariables false
set_option linter.unusedSimpArgs false
/- Layer 11: Decode of inodes. -/
namespace Go.Proofs.YtjocnooekgnedaaGreatDoor
open Go.RowKit Go.Maps

theorem vals_bds : ∀ l : List Int, (∀ b ∈ l, 0 ≤ b ∧ b < 256) → (∀ n ∈ vals l, 0 ≤ n ∧ n < 4294967296) ∧ (vals l).length ≤ l.length
  | [], _ => ⟨fun n hn => (by cases hn), Nat.le_refl _⟩
  | [_], _ => ⟨fun n hn => (by cases hn), Nat.zero_le _⟩
  | [_, _], _ => ⟨fun n hn => (by cases hn), Nat.zero_le _⟩
  | [_, _, _], _ => ⟨fun n hn => (by cases hn), Nat.zero_le _⟩
  | a :: b :: c :: d :: t, h => by
    have h1 := h a (by simp)
    have h2 := h b (by simp)
    have h3 := h c (by simp)
    have h4 := h d (by simp)
    obtain ⟨i1, i2⟩ := vals_bds t (fun e he => h e (by simp [he]))
    refine ⟨fun n hn => ?_, ?_⟩
    · have hn : n ∈ (a + 256 * b + 65536 * c + 16777216 * d) :: vals t := hn
      rcases List.mem_cons.1 hn with rfl | hn
      · omega
      · exact i1 n hn
    · show (vals t).length + 1 ≤ t.length + 1 + 1 + 1 + 1
      omega
theorem lisB_bds {bs : List Int} (hnn : ∀ b ∈ bs, 0 ≤ b ∧ b < 256) (hl : bs.length ≤ 1000) (k : Nat) : (∀ n ∈ lisB bs k, 0 ≤ n ∧ n < 4294967296) ∧ (lisB bs k).length ≤ 1000 := by
  obtain ⟨h1, h2⟩ := vals_bds ((bs.drop (pl bs k + 1)).take (4 * (bs.getD (pl bs k) 0).toNat)) (fun b hb => hnn b (List.mem_of_mem_drop (List.mem_of_mem_take hb)))
  refine ⟨h1, Nat.le_trans h2 ?_⟩
  rw [List.length_take, List.length_drop]; omega
theorem numB_bds {bs : List Int} (hnn : ∀ b ∈ bs, 0 ≤ b ∧ b < 256) (k : Nat) : 0 ≤ numB bs k ∧ numB bs k < 65536 := by
  have h := valL_bds ((bs.drop (pl bs k)).take (wid k)) (fun b hb => hnn b (List.mem_of_mem_drop (List.mem_of_mem_take hb)))
  refine ⟨h.1, Int.lt_of_lt_of_le h.2 ?_⟩
  have h2 : ((bs.drop (pl bs k)).take (wid k)).length ≤ 2 := by rw [List.length_take]; unfold wid; split <;> omega
  have h3 : (256 : Int) ^ ((bs.drop (pl bs k)).take (wid k)).length ≤ 256 ^ 2 := by
    have hc : ((bs.drop (pl bs k)).take (wid k)).length = 0 ∨ ((bs.drop (pl bs k)).take (wid k)).length = 1 ∨ ((bs.drop (pl bs k)).take (wid k)).length = 2 := by omega
    rcases hc with e | e | e <;> rw [e] <;> decide
  exact Int.le_trans h3 (by decide)
/-- The inode's cells, the first k numbers being there. -/
def inK (bs : List Int) (k : Nat) : Array Value := (((List.range 6).map fun j => Value.int .i64 (if j < k then numB bs j else 0)) ++ [Value.slice none 0 0, Value.slice none 0 0]).toArray
theorem inK_cell (bs : List Int) (k : Nat) (hk : k < 6) : (inK bs k)[k]? = some (.int .i64 0) := by
  have h1 : k = 0 ∨ k = 1 ∨ k = 2 ∨ k = 3 ∨ k = 4 ∨ k = 5 := by omega
  rcases h1 with rfl | rfl | rfl | rfl | rfl | rfl
  all_goals rfl
theorem inK_succ (bs : List Int) (k : Nat) (hk : k < 6) : (inK bs k).setIfInBounds k (.int .i64 (numB bs k)) = inK bs (k + 1) := by
  have h1 : k = 0 ∨ k = 1 ∨ k = 2 ∨ k = 3 ∨ k = 4 ∨ k = 5 := by omega
  rcases h1 with rfl | rfl | rfl | rfl | rfl | rfl
  all_goals rfl
theorem inK_6 (bs : List Int) : inK bs 6 = inoC (inoB bs) (.slice none 0 0) (.slice none 0 0) := rfl
theorem inK_0 (bs : List Int) : inK bs 0 = inoZ := rfl
theorem inC_6 (v : Ino) (s6 s7 s : Value) : (inoC v s6 s7).setIfInBounds 6 s = inoC v s s7 := rfl
theorem inC_7 (v : Ino) (s6 s7 s : Value) : (inoC v s6 s7).setIfInBounds 7 s = inoC v s6 s := rfl
set_option maxRecDepth 100000 in
theorem rcvL_num (bs : List Int) (v6 v7 : Value) (k : Nat) (hk : k < 6) : (rcvL bs v6 v7 8)[k * 3]? = some (.int .u64 (numB bs k)) := by
  have h1 : k = 0 ∨ k = 1 ∨ k = 2 ∨ k = 3 ∨ k = 4 ∨ k = 5 := by omega
  rcases h1 with rfl | rfl | rfl | rfl | rfl | rfl
  all_goals rfl
set_option maxRecDepth 100000 in
theorem ptr_at (X k : Nat) (hk : k < 6) (W : World) : Sem.run Tryz.prog (Instr.index 101 (.agg #[.pointer (some ⟨X, 0, none⟩), .pointer (some ⟨X, 1, none⟩), .pointer (some ⟨X, 2, none⟩), .pointer (some ⟨X, 3, none⟩), .pointer (some ⟨X, 4, none⟩), .pointer (some ⟨X, 5, none⟩)]) (.int .i64 k)) W = .ok (.pointer (some ⟨X, k, none⟩)) W := by
  have h1 : k = 0 ∨ k = 1 ∨ k = 2 ∨ k = 3 ∨ k = 4 ∨ k = 5 := by omega
  rcases h1 with rfl | rfl | rfl | rfl | rfl | rfl
  all_goals rfl

def decR (s j i : Int) (b : List Int) : Ino × Int := if rgE s j i ≠ 0 then (ino0, rgE s j i) else decE s j i b
set_option maxRecDepth 100000 in
set_option maxHeartbeats 4000000 in
theorem decode_ino (s j i : Int) (A : Option Addr) (c : Nat) (bs : List Int) (hl : bs.length ≤ 1000) (hcap : bs.length ≤ c) (hnn : ∀ b ∈ bs, 0 ≤ b ∧ b < 256) (w : World) (hR : Reads w A (bs.map (.int .u8))) :
    Calls Tryz.prog 16 #[.agg #[.int .i64 s, .int .i64 j, .int .i64 i], .slice A bs.length c] w (InoPost w (decR s j i bs)) := by
  obtain ⟨wA, hA⟩ : ∃ wA, wA = (w.alloc (.cells #[.int .i64 s, .int .i64 j, .int .i64 i] 23)).alloc (.cells inoZ 26) := ⟨_, rfl⟩
  have bL : Blk wA w.heap.size 23 #[.int .i64 s, .int .i64 j, .int .i64 i] := by rw [hA]; exact (by (repeat' (first | (with_reducible assumption) | exact Blk.new' (by simp) | refine Blk.alloc ?_ _)))
  have bZ : Blk wA (w.heap.size + 1) 26 inoZ := by rw [hA]; exact (by (repeat' (first | (with_reducible assumption) | exact Blk.new' (by simp) | refine Blk.alloc ?_ _)))
  have BA : Below w.heap.size w wA := by rw [hA]; (repeat' (first | (with_reducible exact Below.refl _ _) | (with_reducible assumption) | (with_reducible refine Below.alloc ?_ ?_ _) | (with_reducible refine Below.drew ?_) | (with_reducible refine below_drewN' ?_ _) | (with_reducible refine Below.setCell ?_ ?_ _) | (with_reducible exact Nat.le_refl _) | omega | (simp; done) | (simp; omega)))
  have hrc := regions_any s j i wA
  unfold RgPost rgV at hrc
  have HR := Lib.hid hR
  have HNN := Lib.hid hnn
  have HLE := Lib.hid hl
  have HCP := Lib.hid hcap
  clear hR hnn hl hcap
  have cL := bL.cells
  have lL := bL.lt
  go_enter Tryz.func16, Tryz.ntmps16
  go_wp2_with fail
  rw [← hA]
  clear hA
  go_wp2_with fail
  refine hrc.mono ?_
  rintro e w1 ⟨rfl, hb1⟩
  obtain ⟨w2, hw2⟩ : ∃ w2, w1.alloc (.cells #[.int .i64 (rgJ s j i), .int .i64 (rgM s j i), .int .i64 (rgT s j i), .int .i64 (rgD s j i), .int .i64 (rgB s j i)] 53) = w2 := ⟨_, rfl⟩
  have b12 : Below w1.heap.size w1 w2 := by rw [← hw2]; exact (Below.refl _ _).alloc (Nat.le_refl _) _
  have B1 := BA.trans (hb1.mono BA.size)
  have B2 := B1.trans (b12.mono B1.size)
  have bL2 := (bL.belowAll hb1).belowAll b12
  have bZ2 := (bZ.belowAll hb1).belowAll b12
  have HW := Lib.hid hw2
  clear hw2 hrc cL lL bL bZ BA hb1 b12 B1
  go_upto_region 2 with fail
  rw [HW.out]
  by_cases hrg : rgE s j i = 0
  rotate_left
  · have HG : Hid (decR s j i bs = (ino0, rgE s j i)) := Lib.hid (if_pos hrg)
    have hE' : (rgE s j i != 0) = true := by simpa using hrg
    have hst := storeRow (ty := 26) (vs := inoZ) bZ2 rfl (by simp [Value.oneCell']) (by kernel_rfl)
    clear hrg bL2
    go_wp2_with (refine wpList_storeBy rfl _ _ _ rfl _ _ rfl rfl hst ?_)
    have cF := (bZ2.setRow (cs' := inoZ)).cells
    rw [HG.out]
    refine bodyPost_ret (v := .tuple #[.agg inoZ, .int .i64 (rgE s j i)]) (by simp [results, Tryz.results16, go_sem, cF]) rfl ?_
    exact ino_none _ (Below.setRow B2 (by omega) _)
  have HG : Hid (decR s j i bs = decE s j i bs) := Lib.hid (if_neg (by simpa using hrg))
  rw [hrg]
  have hwh := rwhole_form A c bs HLE.out HCP.out HNN.out w2 (HR.out.below B2)
  have HRG := Lib.hid hrg
  clear hrg
  go_wp2_with fail
  refine hwh.mono ?_
  rintro x w3 ⟨hb3, ⟨hok, g, gc, v6, v7, rfl, ho, h6, h7⟩ | ⟨hno, e, he, rfl⟩⟩
  rotate_left
  · as_aux_lemma =>
      have B3 := B2.trans (hb3.mono B2.size)
      have bZ3 := bZ2.belowAll hb3
      have HG2 : Hid (decE s j i bs = (ino0, 6)) := Lib.hid (by unfold decE; rw [decI_no hno])
      have d1 : (e != 0) = true := by simpa using he
      have hst := storeRow (ty := 26) (vs := inoZ) bZ3 rfl (by simp [Value.oneCell']) (by kernel_rfl)
      clear hwh hno he bL2
      go_wp2_with (refine wpList_storeBy rfl _ _ _ rfl _ _ rfl rfl hst ?_)
      have cF := (bZ3.setRow (cs' := inoZ)).cells
      rw [HG.out, HG2.out]
      refine bodyPost_ret (v := .tuple #[.agg inoZ, .int .i64 6]) (by simp [results, Tryz.results16, go_sem, cF]) rfl ?_
      exact ino_none _ (Below.setRow B3 (by omega) _)
  have B3 := B2.trans (hb3.mono B2.size)
  have bZ3 := bZ2.belowAll hb3
  have bL3 := bL2.belowAll hb3
  have hgw : g < w3.heap.size := (own_lt ho g (by simp [Value.ownBlock])).2
  obtain ⟨w4, hw4⟩ : ∃ w4, w3.alloc (.cells inoZ 26) = w4 := ⟨_, rfl⟩
  obtain ⟨X, hX⟩ : ∃ X, w3.heap.size = X := ⟨_, rfl⟩
  have bX : Blk w4 X 26 (inK bs 0) := by rw [inK_0, ← hw4, ← hX]; exact Blk.new _ _ _
  have b34 : Below w3.heap.size w3 w4 := by rw [← hw4]; exact (Below.refl _ _).alloc (Nat.le_refl _) _
  have B4 := B3.trans (b34.mono B3.size)
  have ho4 := own_below ho b34
  have hgX : g < X := by omega
  have hZX : w.heap.size + 1 < X := by have := bZ3.lt; omega
  have hz4 : w4.heap.size = X + 1 := by rw [← hw4, ← hX]; simp
  have LR4 : ∀ v l, LR w3 [] v l → LR w4 [X] v l := fun v l h => by
    obtain ⟨A9, c9, rfl, hr9, -⟩ := h
    refine ⟨A9, c9, rfl, hr9.below b34, fun a e h0 => ?_⟩
    have := hr9.blk_lt (by rw [List.length_map]; exact h0) a e
    simp; omega
  have H6 := Lib.hid (LR4 _ _ h6)
  have H7 := Lib.hid (LR4 _ _ h7)
  have HO4 := Lib.hid ho4
  have HW4 := Lib.hid hw4
  have HXX := Lib.hid hX
  have HZ4 := Lib.hid (bZ3.belowAll b34)
  have HL4 := Lib.hid (bL3.belowAll b34)
  have HOK := Lib.hid hok
  clear hwh hok ho h6 h7 bL2 bZ2 hb3 bZ3 bL3 hw4 hX b34 B3 ho4 LR4 hgw
  go_upto_region 8 with fail
  rw [HW4.out, HXX.out]
  go_wp2_with fail
  go_loopw [41] (fun s41 wr => ∃ k : Nat, k ≤ 6 ∧ s41 = .int .i64 k ∧ Blk wr X 26 (inK bs k) ∧ Grow w4 [X] wr [X]) (fun s41 _ => 6 - (intOf s41).toNat)
  case atStart => exact ⟨0, by omega, rfl, bX, Grow.refl _ _⟩
  case round =>
    obtain ⟨k, hk, rfl, bk, hg⟩ := hrel
    by_cases hlt : k < 6
    · have hltI : (k : Int) < 6 := by omega
      have hlt8 : (k : Int) < 8 := by omega
      have ix := ptr_at X k hlt wr
      have hn := numB_bds HNN.out k
      have m1 : IntKind.i64.wrap (numB bs k) = numB bs k := by rw [IntKind.wrap_i64]; omega
      have hog : wr.ownsRow 0 79 3 (.slice (some ⟨g, 0, none⟩) 8 gc) 8 (rcvL bs v6 v7 8) := own_block HO4.out (fun q e => by cases e; exact hg.keep.block g (by omega) (by simp; omega))
      have cG : wr.cell? ⟨g, k * 3, none⟩ = some (.int .u64 (numB bs k)) := own_cell hog (rcvL_num bs v6 v7 k hlt)
      have lG : g < wr.heap.size := by have := hg.keep.size; omega
      have cV : wr.cell? ⟨X, k, none⟩ = some (.int .i64 0) := (bk.cells _).trans (inK_cell bs k hlt)
      have lV := bk.lt
      have fV := bk.free k
      have hb2 : Blk (wr.setCell ⟨X, k, none⟩ (.int .i64 (numB bs k))) X 26 (inK bs (k + 1)) := by rw [← inK_succ bs k hlt]; exact bk.set_ _ _
      have hg2 : Grow w4 [X] (wr.setCell ⟨X, k, none⟩ (.int .i64 (numB bs k))) [X] := ⟨hg.keep.trans (KeepEx.setCell wr (.inl (by simp)) _), fun b hb => .inl hb⟩
      have HB2 := Lib.hid hb2
      have HG2 := Lib.hid hg2
      clear hb2 hg2 bk hg hn hog
      go_wp2_with fail
      go_roundw
      case rel => exact ⟨k + 1, by omega, by go_num, HB2.out, HG2.out⟩
      case measure => simp [intOf]; omega
    · have bk6 : Blk wr X 26 (inoC (inoB bs) (.slice none 0 0) (.slice none 0 0)) := by
        have e : k = 6 := by omega
        subst e
        exact bk
      have hltI : ¬ (k : Int) < 6 := by omega
      clear bk
      have bk := bk6
      obtain ⟨i0, hi, hz0, hz1, hz2⟩ := info_parts Tryz.infoI
      obtain ⟨A6, q6, rfl, hr6, hn6⟩ := H6.out
      obtain ⟨A7, q7, rfl, hr7, hn7⟩ := H7.out
      have hog : wr.ownsRow 0 79 3 (.slice (some ⟨g, 0, none⟩) 8 gc) 8 (rcvL bs (.slice A6 (lisB bs 6).length q6) (.slice A7 (lisB bs 7).length q7) 8) := own_block HO4.out (fun q e => by cases e; exact hg.keep.block g (by omega) (by simp; omega))
      have hgr : g < wr.heap.size := by have := hg.keep.size; omega
      have g20 : wr.cell? ⟨g, 20, none⟩ = some (.slice A6 (lisB bs 6).length q6) := own_cell hog (by rfl)
      have g23 : wr.cell? ⟨g, 23, none⟩ = some (.slice A7 (lisB bs 7).length q7) := own_cell hog (by rfl)
      have u1 : wrap64 1 = 1 := by unfold wrap64; decide
      have u2 : wrap64 2 = 2 := by unfold wrap64; decide
      have u6 : wrap64 6 = 6 := by unfold wrap64; decide
      have u7 : wrap64 7 = 7 := by unfold wrap64; decide
      have hd6 : Reads wr A6 ((lisB bs 6).map (.int .u32)) ∧ ∀ a, A6 = some a → 0 < (lisB bs 6).length → a.block ∉ [X] := by
        refine ⟨?_, hn6⟩
        rcases Nat.eq_zero_or_pos (lisB bs 6).length with h0 | h0
        · rw [List.length_eq_zero_iff.1 h0]; exact .inl rfl
        · exact hr6.growF hg (fun a e => hn6 a e h0)
      have hd7 : Reads wr A7 ((lisB bs 7).map (.int .u32)) ∧ ∀ a, A7 = some a → 0 < (lisB bs 7).length → a.block ∉ [X] := by
        refine ⟨?_, hn7⟩
        rcases Nat.eq_zero_or_pos (lisB bs 7).length with h0 | h0
        · rw [List.length_eq_zero_iff.1 h0]; exact .inl rfl
        · exact hr7.growF hg (fun a e => hn7 a e h0)
      have hwS : X < wr.heap.size := bk.lt
      have HBS : Hid (Below w.heap.size w wr) := Lib.hid (B4.trans (hg.below (by omega) (fun b hb => by simp at hb; omega)))
      have HZS := Lib.hid (hg.blk HZ4.out (by simp; omega))
      have HLS := Lib.hid (hg.blk HL4.out (by simp; omega))
      have HRD := Lib.hid hd6.1
      have HND := Lib.hid hd6.2
      have HD7 := Lib.hid hd7
      have hX6 : (lisB bs 6).length ≤ 1000 := (lisB_bds HNN.out HLE.out 6).2
      have hX7 : (lisB bs 7).length ≤ 1000 := (lisB_bds HNN.out HLE.out 7).2
      have ix0 : Sem.run Tryz.prog (Instr.index 103 (.agg #[.pointer (some ⟨X, 6, none⟩), .pointer (some ⟨X, 7, none⟩)]) (.int .i64 0)) wr = .ok (.pointer (some ⟨X, 6, none⟩)) wr := rfl
      have HOG := Lib.hid hog
      clear hog hr6 hn6 hr7 hn7 hd6 hd7 hg hlt hk bX
      go_upto_region 14 with fail
      refine wp_loop_rounds 3 ?_
      rw [rounds_succ]
      go_upto_region 17 with fail
      clear ix0
      generalize hSS : wr = wS at *
      clear hSS g20
      go_loopw [68] (fun s68 wr => ∃ (k : Nat) (ga : Option Addr) (gq : Nat), k ≤ (lisB bs 6).length ∧ s68 = .int .i64 k ∧ Blk wr X 26 (inoC (inoB bs) (.slice ga k gq) (.slice none 0 0)) ∧ wr.ownsRow (X + 1) 3 1 (.slice ga k gq) k (((lisB bs 6).take k).map (.int .i64)) ∧ (Value.slice ga k gq).ownBlock ≠ some X ∧ Grow wS [X] wr (X :: (Value.slice ga k gq).ownBlock.toList)) (fun s68 _ => (lisB bs 6).length - (intOf s68).toNat)
      case atStart => exact ⟨0, none, 0, by omega, rfl, bk, World.ownsRow_nil _ _ _ _, by simp [Value.ownBlock], Grow.refl _ _⟩
      case round =>
        obtain ⟨k, ga, gq, hk, rfl, bk, ho, hfar, hg⟩ := hrel
        by_cases hlt : k < (lisB bs 6).length
        · have hltI : (k : Int) < (lisB bs 6).length := by omega
          have hnr := (lisB_bds HNN.out HLE.out 6).1 (lisB bs 6)[k] (List.getElem_mem hlt)
          obtain ⟨ab, ao, hAe, hab, hc⟩ := (HRD.out.growF hg (fun a e => HND.out a e (by omega))).at_ (k := k) (by rw [List.length_map]; exact hlt)
          simp only [List.getElem_map] at hc
          have HT := Lib.hid (take_map hlt (Value.int .i64))
          have hl9 := (lisB_bds HNN.out HLE.out 6).2
          obtain ⟨n, hn⟩ : ∃ n, n = (lisB bs 6)[k] := ⟨_, rfl⟩
          rw [← hn] at hc hnr HT
          clear hn
          have m3 : IntKind.i64.wrap n = n := by rw [IntKind.wrap_i64]; omega
          obtain ⟨Y, hY⟩ : ∃ Y, Y = wr.alloc (.cells #[.int .i64 n] 3) := ⟨_, rfl⟩
          have bY : Below wr.heap.size wr Y := by rw [hY]; exact (Below.refl _ _).alloc (Nat.le_refl _) _
          have rY : Reads Y (some ⟨wr.heap.size, 0, none⟩) [.int .i64 n] := .inr ⟨wr.heap.size, 0, rfl, by rw [hY]; simp, fun j u hu => by
            rw [hY, Nat.zero_add]
            rcases j with _ | j
            · refine ((Blk.new wr 3 #[.int .i64 n]).cells 0).trans ?_; simpa using hu
            · simp at hu⟩
          have hoY := own_below ho bY
          have bkY := bk.belowAll bY
          have HY := Lib.hid hY
          have HBK := Lib.hid bk
          have HO := Lib.hid ho
          have HF := Lib.hid hfar
          have HGG := Lib.hid hg
          have cV : wr.cell? ⟨X, 6, none⟩ = some (.slice ga k gq) := (bk.cells 6).trans rfl
          have lV := bk.lt
          have lA : ab < wr.heap.size := hab
          have hYs := bY.size
          clear hY bk ho hg hab
          subst hAe
          go_wp2_with (at_builtin; rw [← HY.out]; refine wpList_append_any _ rfl (.tmp 75) (.tmp 78) _ rfl (X + 1) 3 i0 (.int .i64 0) 8 Tryz.underlying24 hi hz0 hz1 hz2 rfl (.slice ga k gq) _ _ rfl hoY (some ⟨wr.heap.size, 0, none⟩) 1 1 [.int .i64 n] rfl rfl (fun h => by cases h) rY (by simp [Value.oneCell']) (by simp only [maxLen]; omega) (by omega) (by omega) ?_; intro v' w8 hown hgrow hat; obtain ⟨hs1, hs2, hs3, hs4⟩ := row_step (p := 6) HBK.out HF.out bY hown hgrow hat; obtain ⟨av, cv, e⟩ := own_slice hown; subst e; have b8 : Blk w8 X 26 _ := bkY.grown hgrow (fun e => HF.out e.symm); have c8 : w8.cell? ⟨X, 6, none⟩ = some (.slice ga k gq) := (b8.cells 6).trans rfl; have l8 := b8.lt; have f8 := b8.free 6)
          rw [HT.out] at hs2
          have hg5 := HGG.out.trans hs4
          go_roundw
          case rel => exact ⟨k + 1, av, cv, by omega, by go_num, hs1, hs2, hs3, hg5⟩
          case measure => simp [intOf]; omega
        · obtain rfl : k = (lisB bs 6).length := by omega
          rw [List.take_length] at ho
          have hgs : ∀ b, b < X → b ∉ X :: (Value.slice ga (lisB bs 6).length gq).ownBlock.toList := fun b hb hm => by
            rcases List.mem_cons.1 hm with e | e
            · omega
            · have := (own_lt ho b (by simpa using e)).1; omega
          have hog2 : wr.ownsRow 0 79 3 (.slice (some ⟨g, 0, none⟩) 8 gc) 8 (rcvL bs (.slice A6 (lisB bs 6).length q6) (.slice A7 (lisB bs 7).length q7) 8) := own_block HOG.out (fun q e => by cases e; exact hg.keep.block g hgr (by simp; omega))
          have g23 : wr.cell? ⟨g, 23, none⟩ = some (.slice A7 (lisB bs 7).length q7) := own_cell hog2 (by rfl)
          have hgr2 : g < wr.heap.size := by have := hg.keep.size; omega
          have ix1 : Sem.run Tryz.prog (Instr.index 103 (.agg #[.pointer (some ⟨X, 6, none⟩), .pointer (some ⟨X, 7, none⟩)]) (.int .i64 1)) wr = .ok (.pointer (some ⟨X, 7, none⟩)) wr := rfl
          have hd7 : Reads wr A7 ((lisB bs 7).map (.int .u32)) := by
            rcases Nat.eq_zero_or_pos (lisB bs 7).length with h0 | h0
            · rw [List.length_eq_zero_iff.1 h0]; exact .inl rfl
            · exact HD7.out.1.growF hg (fun a e => HD7.out.2 a e h0)
          have hbw : Below w.heap.size w wr := HBS.out.trans (hg.below (by omega) (fun b hb => by simp at hb; omega))
          have HBT := Lib.hid hbw
          have HZT := Lib.hid (hg.blk HZS.out (by simp; omega))
          have HLT := Lib.hid (hg.blk HLS.out (by simp; omega))
          have HO6 := Lib.hid ho
          have HF6 := Lib.hid hfar
          have hwT : X < wr.heap.size := bk.lt
          clear hog2 hg ho hfar hgs hlt hk HBS HZS HLS HOG HRD HND
          have HRD := Lib.hid hd7
          have HND := Lib.hid HD7.out.2
          clear hd7 HD7
          go_wp2_with fail
          rw [rounds_succ]
          go_upto_region 17 with fail
          clear ix1
          generalize ga = g6 at *
          generalize gq = p6 at *
          generalize hTT : wr = wT at *
          clear hTT
          go_loopw [68] (fun s68 wr => ∃ (k : Nat) (ga : Option Addr) (gq : Nat), k ≤ (lisB bs 7).length ∧ s68 = .int .i64 k ∧ Blk wr X 26 (inoC (inoB bs) (.slice g6 (lisB bs 6).length p6) (.slice ga k gq)) ∧ wr.ownsRow (X + 1) 3 1 (.slice ga k gq) k (((lisB bs 7).take k).map (.int .i64)) ∧ (Value.slice ga k gq).ownBlock ≠ some X ∧ Grow wT [X] wr (X :: (Value.slice ga k gq).ownBlock.toList)) (fun s68 _ => (lisB bs 7).length - (intOf s68).toNat)
          case atStart => exact ⟨0, none, 0, by omega, rfl, bk, World.ownsRow_nil _ _ _ _, by simp [Value.ownBlock], Grow.refl _ _⟩
          case round =>
            obtain ⟨k, ga, gq, hk, rfl, bk, ho, hfar, hg⟩ := hrel
            by_cases hlt : k < (lisB bs 7).length
            · have hltI : (k : Int) < (lisB bs 7).length := by omega
              have hnr := (lisB_bds HNN.out HLE.out 7).1 (lisB bs 7)[k] (List.getElem_mem hlt)
              obtain ⟨ab, ao, hAe, hab, hc⟩ := (HRD.out.growF hg (fun a e => HND.out a e (by omega))).at_ (k := k) (by rw [List.length_map]; exact hlt)
              simp only [List.getElem_map] at hc
              have HT := Lib.hid (take_map hlt (Value.int .i64))
              have hl9 := (lisB_bds HNN.out HLE.out 7).2
              obtain ⟨n, hn⟩ : ∃ n, n = (lisB bs 7)[k] := ⟨_, rfl⟩
              rw [← hn] at hc hnr HT
              clear hn
              have m3 : IntKind.i64.wrap n = n := by rw [IntKind.wrap_i64]; omega
              obtain ⟨Y, hY⟩ : ∃ Y, Y = wr.alloc (.cells #[.int .i64 n] 3) := ⟨_, rfl⟩
              have bY : Below wr.heap.size wr Y := by rw [hY]; exact (Below.refl _ _).alloc (Nat.le_refl _) _
              have rY : Reads Y (some ⟨wr.heap.size, 0, none⟩) [.int .i64 n] := .inr ⟨wr.heap.size, 0, rfl, by rw [hY]; simp, fun j u hu => by
                rw [hY, Nat.zero_add]
                rcases j with _ | j
                · refine ((Blk.new wr 3 #[.int .i64 n]).cells 0).trans ?_; simpa using hu
                · simp at hu⟩
              have hoY := own_below ho bY
              have bkY := bk.belowAll bY
              have HY := Lib.hid hY
              have HBK := Lib.hid bk
              have HO := Lib.hid ho
              have HF := Lib.hid hfar
              have HGG := Lib.hid hg
              have cV : wr.cell? ⟨X, 7, none⟩ = some (.slice ga k gq) := (bk.cells 7).trans rfl
              have lV := bk.lt
              have lA : ab < wr.heap.size := hab
              have hYs := bY.size
              clear hY bk ho hg hab
              subst hAe
              go_wp2_with (at_builtin; rw [← HY.out]; refine wpList_append_any _ rfl (.tmp 75) (.tmp 78) _ rfl (X + 1) 3 i0 (.int .i64 0) 8 Tryz.underlying24 hi hz0 hz1 hz2 rfl (.slice ga k gq) _ _ rfl hoY (some ⟨wr.heap.size, 0, none⟩) 1 1 [.int .i64 n] rfl rfl (fun h => by cases h) rY (by simp [Value.oneCell']) (by simp only [maxLen]; omega) (by omega) (by omega) ?_; intro v' w8 hown hgrow hat; obtain ⟨hs1, hs2, hs3, hs4⟩ := row_step (p := 7) HBK.out HF.out bY hown hgrow hat; obtain ⟨av, cv, e⟩ := own_slice hown; subst e; have b8 : Blk w8 X 26 _ := bkY.grown hgrow (fun e => HF.out e.symm); have c8 : w8.cell? ⟨X, 7, none⟩ = some (.slice ga k gq) := (b8.cells 7).trans rfl; have l8 := b8.lt; have f8 := b8.free 7)
              rw [HT.out] at hs2
              have hg5 := HGG.out.trans hs4
              go_roundw
              case rel => exact ⟨k + 1, av, cv, by omega, by go_num, hs1, hs2, hs3, hg5⟩
              case measure => simp [intOf]; omega
            · obtain rfl : k = (lisB bs 7).length := by omega
              rw [List.take_length] at ho
              have h6b : ∀ q, (Value.slice g6 (lisB bs 6).length p6).ownBlock = some q → q < wT.heap.size ∧ q ≠ X := fun q e => ⟨(own_lt HO6.out q e).2, fun h => HF6.out (by rw [e, h])⟩
              have ho6 : wr.ownsRow (X + 1) 3 1 (.slice g6 (lisB bs 6).length p6) (lisB bs 6).length ((lisB bs 6).map (.int .i64)) := own_block HO6.out (fun q e => hg.keep.block q (h6b q e).1 (by simp; exact (h6b q e).2))
              have hbw : Below w.heap.size w wr := HBT.out.trans (hg.below (by omega) (fun b hb => by simp at hb; omega))
              have hbZ := hg.blk HZT.out (by simp; omega)
              have hbL := hg.blk HLT.out (by simp; omega)
              have hin : InoIn wr (inoB bs) g6 p6 ga gq := ⟨Reads.of_own ho6, Reads.of_own ho, hX6, hX7⟩
              have hck := check_ino s j i (inoB bs) g6 p6 ga gq wr hin
              have cX := bk.cells
              have lX := bk.lt
              have cL := hbL.cells
              have lL := hbL.lt
              have HBK := Lib.hid bk
              have HZF := Lib.hid hbZ
              have HBF := Lib.hid hbw
              have HO7 := Lib.hid ho
              have HO6' := Lib.hid ho6
              clear ho ho6 hfar hg hin hbZ hbL bk hlt hk h6b HZT HLT HBT HO6 HF6
              go_wp2_with fail
              rw [rounds_succ]
              go_wp2_with fail
              refine hck.mono ?_
              rintro x w9 ⟨rfl, hb9⟩
              have hX9 := HBK.out.belowAll hb9
              have hZ9 := HZF.out.belowAll hb9
              have hB9 := HBF.out.trans (hb9.mono HBF.out.size)
              have h69 := own_below HO6'.out hb9
              have h79 := own_below HO7.out hb9
              clear hck cX lX cL lL
              by_cases hE : inoE s j i (inoB bs) = 0
              rotate_left
              · as_aux_lemma =>
                  have HG2 : Hid (decE s j i bs = (ino0, 6)) := Lib.hid (by unfold decE; rw [decI_yes HOK.out]; simp only; rw [if_pos hE])
                  have d1 : (inoE s j i (inoB bs) != 0) = true := by simpa using hE
                  have hst := storeRow (ty := 26) (vs := inoZ) hZ9 rfl (by simp [Value.oneCell']) (by kernel_rfl)
                  clear hE hX9 h69 h79
                  go_wp2_with (refine wpList_storeBy rfl _ _ _ rfl _ _ rfl rfl hst ?_)
                  have cF := (hZ9.setRow (cs' := inoZ)).cells
                  rw [HG.out, HG2.out]
                  refine bodyPost_ret (v := .tuple #[.agg inoZ, .int .i64 6]) (by simp [results, Tryz.results16, go_sem, cF]) rfl ?_
                  exact ino_none _ (Below.setRow hB9 (by omega) _)
              · as_aux_lemma =>
                  have HG2 : Hid (decE s j i bs = (inoB bs, 0)) := Lib.hid (by unfold decE; rw [decI_yes HOK.out]; simp only; rw [if_neg (by simpa using hE)])
                  have cX := hX9.cells
                  have lX := hX9.lt
                  have hst := storeRow (ty := 26) (vs := inoC (inoB bs) (.slice g6 (lisB bs 6).length p6) (.slice ga (lisB bs 7).length gq)) hZ9 rfl (by simp [Value.oneCell']) (by kernel_rfl)
                  rw [hE]
                  clear hE
                  go_wp2_with (refine wpList_storeBy rfl _ _ _ rfl _ _ rfl rfl hst ?_)
                  have cF := (hZ9.setRow (cs' := inoC (inoB bs) (.slice g6 (lisB bs 6).length p6) (.slice ga (lisB bs 7).length gq))).cells
                  rw [HG.out, HG2.out]
                  refine bodyPost_ret (v := .tuple #[.agg (inoC (inoB bs) (.slice g6 (lisB bs 6).length p6) (.slice ga (lisB bs 7).length gq)), .int .i64 0]) (by simp [results, Tryz.results16, go_sem, cF]) rfl ?_
                  have hoth : ∀ q, X + 1 ≤ q → q ≠ w.heap.size + 1 := fun q h => by omega
                  exact ⟨_, _, rfl, own_base (own_block h69 (fun q e => setRow_other _ _ q _ (hoth q (own_lt h69 q e).1))) (by omega), own_base (own_block h79 (fun q e => setRow_other _ _ q _ (hoth q (own_lt h79 q e).1))) (by omega), Below.setRow hB9 (by omega) _⟩
theorem decodeAll : DecodeAll := fun s j i A c b w hrg hl hc hn hR => by
  have h := decode_ino s j i A c b hl hc hn w hR
  rwa [show decR s j i b = decE s j i b from if_neg (by simpa using hrg)] at h
end Go.Proofs.YtjocnooekgnedaaGreatDoor
/- A range over a function that writes one box of its own between its rounds, and whose rounds all go on. -/
namespace Go.Proofs.YtjocnooekgnedaaGreatDoor
open Go.RowKit Go.Shelf

section
variable {F : Fence} {n : Nat} {P : Program} {α : Type}

/-- An iterator over a box in block Bs: it may write this box between the rounds; a round leaves the box alone. -/
def SeqAllB (F : Fence) (n : Nat) (P : Program) (gf : Nat) (lb : Array Value) (encs : α → Array Value) (S : List α → Prop) (N Bs : Nat) (w : World) : Prop :=
  ∀ (l : Nat) (J : List α → World → Prop) (W : World), Below w.heap.size w W → (∀ s V v, J s V → J s (V.setCell ⟨Bs, 0, none⟩ v)) →
    (∀ pre x V, J pre V → pre.length < N → YieldAt F (n - 1) P l (encs x) V fun e V' => e = .returned (.bool true) ∧ J (pre ++ [x]) V' ∧ V'.heap[Bs]? = V.heap[Bs]?) →
    J [] W → CallsIn F n P gf (#[.func (.yield l) #[] #[]] ++ lb) W fun e V' => (∃ v, e = .returned v) ∧ ∃ xs, S xs ∧ J xs V'

/-- How a round ends: it goes on. -/
def roundAll (B Bs : Nat) (I : List α → World → Prop) (xs : List α) (W : World) : Exit → Act → World → Prop
  | .normal, _, W' => KeepsFrom B W W' ∧ W'.heap[Bs]? = W.heap[Bs]? ∧ I xs W'
  | _, _, _ => False

theorem wpIn_rangeFunc_all {g : Operand} {ps : Array Tmp} {assign body : Code} {Q : Exit → Act → World → Prop} {a : Act} {w : World}
    (hro : F.round = none) (h1 : 1 ≤ n) {gf : Nat} {lb : Array Value} (hg : a.eval g = .func (.func gf) #[] lb) (hFg : F.fn gf) (eg : ∀ args w, (callFunc gf args).run P w = .ok (.enter gf args) w)
    {encs : α → Array Value} {S : List α → Prop} {N Bs : Nat} (hBs : Bs < w.heap.size) (hseq : SeqAllB F (n - 1) P gf lb encs S N Bs w) (hps : ∀ x, (encs x).size = ps.size)
    (I : List α → World → Prop) (hI : OwnFrom w.heap.size I) (hIB : ∀ s V v, I s V → I s (V.setCell ⟨Bs, 0, none⟩ v)) (h0 : I [] w) (a₁ : α → Act)
    (hassign : ∀ (l : Nat) (x : α) (W : World) (K : Act → World → Prop), K (a₁ x) W →
      assign.wpIn (F.inRound l) (n - 1 - 1) P (Exit.then K (fun _ _ _ => False)) { tmps := (ps.zip (encs x)).foldl (fun t (p, v) => t.setIfInBounds p v) a.tmps, defers := [] } W)
    (hbody : ∀ (l : Nat) (pre : List α) (x : α) (W : World), I pre W → pre.length < N → body.wpIn (F.inRound l) (n - 1 - 1) P (roundAll w.heap.size Bs I (pre ++ [x]) W) (a₁ x) W)
    (hdone : ∀ (D : Nat) (xs : List α) (W : World), w.heap.size ≤ D → S xs → I xs W → W.heap[D]? = some (.deferred (some [])) → Q .normal { a with defers := { target := .collected D, args := #[] } :: a.defers } W) :
    (Code.rangeFunc g ps assign body).wpIn F n P Q a w := by
  refine wpIn_rangeFunc fun fn hfn => ?_
  rw [hro]
  let rc : LoopState → Option Code → Loop := fun st pe => { state := st, pending := pe, fn, tmps := a.tmps, params := ps, assign, body, defers := w.heap.size }
  obtain ⟨W1, hW1⟩ : ∃ W1, (w.alloc (.deferred (some []))).alloc (.loop (rc .ready none)) = W1 := ⟨_, rfl⟩
  have z1 : W1.heap.size = w.heap.size + 2 := by rw [← hW1]; simp
  have hl1 : W1.heap[w.heap.size + 1]? = some (.loop (rc .ready none)) := by
    rw [← hW1]; have := World.alloc_heap_new (w.alloc (.deferred (some []))) (.loop (rc .ready none)); rwa [World.size_alloc] at this
  have hd1 : W1.heap[w.heap.size]? = some (.deferred (some [])) := by
    rw [← hW1]; exact (Below.heap_alloc _ _ _ (by simp)).trans (World.alloc_heap_new w _)
  have hi1 : I [] W1 := by rw [← hW1]; exact hI.alloc _ (hI.alloc _ h0)
  have hb1 : Below w.heap.size w W1 := by rw [← hW1]; exact ((Below.refl _ w).alloc (Nat.le_refl _) _).alloc (by simp) _
  -- the block of the box is none of the two new ones
  have hset : ∀ (V : World) v k, w.heap.size ≤ k → (V.setCell ⟨Bs, 0, none⟩ v).heap[k]? = V.heap[k]? := fun V v k hk => Below.heap_setCell V ⟨Bs, 0, none⟩ v k (by show k ≠ Bs; omega)
  refine ⟨w.heap.size + 1, [{ target := .collected w.heap.size, args := #[] }], W1, { target := .fn (.func gf) lb, args := #[.func (.yield (w.heap.size + 1)) #[] #[]] }, W1, gf,
    #[.func (.yield (w.heap.size + 1)) #[] #[]] ++ lb, W1, ?_, ?_, ?_, ?_, fun _ => h1, ?_⟩
  · rw [← hW1]; exact run_enterLoop_outer _ _ _ _ _
  · simp only [resolve, hg]
    simp [go_sem]
  · intro f' hf'; simp [Target.leads] at hf'; subst hf'; exact hFg
  · simp [invoke, go_sem, eg]
  refine (hseq (w.heap.size + 1) (fun pre W => I pre W ∧ W.heap[w.heap.size + 1]? = some (.loop (rc .ready none)) ∧ W.heap[w.heap.size]? = some (.deferred (some []))) W1 hb1
    (fun s V v h => ⟨hIB s V v h.1, (hset V v _ (by omega)).trans h.2.1, (hset V v _ (Nat.le_refl _)).trans h.2.2⟩) ?_ ⟨hi1, hl1, hd1⟩).mono ?_
  · rintro pre x W ⟨hi, hl, hk⟩ hlen
    have hlt : w.heap.size + 1 < W.heap.size := (Array.getElem?_eq_some_iff.1 hl).1
    have hy := run_yield (P := P) (args := encs x) hl (hps x)
    obtain ⟨Wb, hWb⟩ : ∃ Wb, Wb = W.putObj (w.heap.size + 1) (.loop { rc .ready none with state := .busy }) := ⟨_, rfl⟩
    have hl2 : Wb.heap[w.heap.size + 1]? = some (.loop { rc .ready none with state := .busy }) := by rw [hWb]; exact World.putObj_heap_same hlt
    have hk2 : Wb.heap[w.heap.size]? = some (.deferred (some [])) := by rw [hWb]; exact (World.putObj_heap_other (by omega)).trans hk
    have hB2 : Wb.heap[Bs]? = W.heap[Bs]? := by rw [hWb]; exact World.putObj_heap_other (by omega)
    refine ⟨fn, _, assign, body, hy, roundIn_of_wpIn hfn (hassign _ x W _ ⟨Wb, by rw [hWb]; exact run_beginRound hl rfl, ?_⟩)⟩
    refine wpIn_mono (hbody _ pre x Wb (by rw [hWb]; exact hI.putObj _ hi (by omega) hl rfl) hlen) ?_
    rintro e a3 W3 hp
    cases e with
    | normal =>
      obtain ⟨hk3, hB3, hi3⟩ := hp
      have hl3 := hk3.same _ _ (by omega) hl2 rfl
      have hr := run_endRound (P := P) none hl3
      refine ⟨_, _, hr, ⟨rfl, ⟨hI.putObj _ hi3 (by omega) hl3 rfl, World.putObj_heap_same (Array.getElem?_eq_some_iff.1 hl3).1, (World.putObj_heap_other (by omega)).trans (hk3.same _ _ (Nat.le_refl _) hk2 rfl)⟩, ?_⟩⟩
      exact (World.putObj_heap_other (by omega)).trans (hB3.trans hB2)
    | ret => exact hp.elim
    | exit id => exact hp.elim
    | goto t => exact hp.elim
    | panic ch => exact hp.elim
    | outgrown => exact hp.elim
  · rintro e W2 ⟨⟨v, rfl⟩, xs, hS, hi, hl, hk⟩
    exact ⟨none, _, run_endLoop (P := P) hl (by simp [rc]), hdone _ xs _ (Nat.le_refl _) hS (hI.putObj _ hi (by omega) hl rfl) ((World.putObj_heap_other (by omega)).trans hk)⟩

end
end Go.Proofs.YtjocnooekgnedaaGreatDoor
