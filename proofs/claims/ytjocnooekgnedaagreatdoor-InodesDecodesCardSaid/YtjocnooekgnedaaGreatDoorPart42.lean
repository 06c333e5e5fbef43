/- Parts of the proof, put together by program: LA, LB. -/
import Derived.Test.YtjocnooekgnedaaGreatDoorPart41
set_option linter.unusedVariables false
set_option linter.unusedSimpArgs false
/- Layer 11: records.Decode at the form of inodes. -/
namespace Go.Proofs.YtjocnooekgnedaaGreatDoor
open Go.RowKit Go.Maps

/-- Where the values lie in the bytes. -/
def pl (bs : List Int) : Nat → Nat
  | 0 => 0
  | 1 => 1
  | 2 => 2
  | 3 => 4
  | 4 => 5
  | 5 => 6
  | 6 => 7
  | 7 => 8 + 4 * (bs.getD 7 0).toNat
  | _ => 8 + 4 * (bs.getD 7 0).toNat + 1 + 4 * (bs.getD (8 + 4 * (bs.getD 7 0).toNat) 0).toNat
def wid (k : Nat) : Nat := if k = 2 then 2 else 1
theorem pl_succ (bs : List Int) (k : Nat) (hk : k < 6) : pl bs (k + 1) = pl bs k + wid k := by
  have h1 : k = 0 ∨ k = 1 ∨ k = 2 ∨ k = 3 ∨ k = 4 ∨ k = 5 := by omega
  rcases h1 with rfl | rfl | rfl | rfl | rfl | rfl
  all_goals rfl
theorem pl_7 (bs : List Int) : pl bs 7 = 8 + 4 * (bs.getD 7 0).toNat := rfl
theorem pl_8 (bs : List Int) : pl bs 8 = pl bs 7 + 1 + 4 * (bs.getD (pl bs 7) 0).toNat := rfl
theorem pl_le (bs : List Int) (k : Nat) (hk : k ≤ 8) : pl bs k ≤ pl bs 8 := by
  have h1 : k = 0 ∨ k = 1 ∨ k = 2 ∨ k = 3 ∨ k = 4 ∨ k = 5 ∨ k = 6 ∨ k = 7 ∨ k = 8 := by omega
  rcases h1 with rfl | rfl | rfl | rfl | rfl | rfl | rfl | rfl | rfl
  all_goals (simp only [pl]; omega)
/-- Are the first k values there? -/
def okN (bs : List Int) (k : Nat) : Prop := pl bs k ≤ bs.length ∧ (6 < k → listOk bs 7) ∧ (7 < k → listOk bs (pl bs 7))
def numB (bs : List Int) (k : Nat) : Int := valL ((bs.drop (pl bs k)).take (wid k))
def lisB (bs : List Int) (k : Nat) : List Int := vals ((bs.drop (pl bs k + 1)).take (4 * (bs.getD (pl bs k) 0).toNat))
/-- The values read, as they lie in memory. -/
def rcvL (bs : List Int) (v6 v7 : Value) : Nat → List Value
  | 0 => []
  | k + 1 => rcvL bs v6 v7 k ++ (if k < 6 then rcN (numB bs k) else rcL (if k = 6 then v6 else v7))
theorem rcvL_len (bs : List Int) (v6 v7 : Value) (k : Nat) : (rcvL bs v6 v7 k).length = k * 3 := by
  induction k with
  | zero => rfl
  | succ k ih =>
    show (rcvL bs v6 v7 k ++ _).length = _
    rw [List.length_append, ih]
    split <;> simp <;> omega
theorem rcvL_6 (bs : List Int) (v6 v7 u6 u7 : Value) (k : Nat) (hk : k ≤ 6) : rcvL bs v6 v7 k = rcvL bs u6 u7 k := by
  induction k with
  | zero => rfl
  | succ k ih =>
    show rcvL bs v6 v7 k ++ _ = rcvL bs u6 u7 k ++ _
    rw [ih (by omega), if_pos (by omega), if_pos (by omega)]
theorem rcvL_7 (bs : List Int) (v6 v7 u7 : Value) (k : Nat) (hk : k ≤ 7) : rcvL bs v6 v7 k = rcvL bs v6 u7 k := by
  induction k with
  | zero => rfl
  | succ k ih =>
    show rcvL bs v6 v7 k ++ _ = rcvL bs v6 u7 k ++ _
    rw [ih (by omega)]
    by_cases h : k < 6
    · rw [if_pos h, if_pos h]
    · rw [if_neg h, if_neg h, if_pos (by omega), if_pos (by omega)]
/-- A list that has been read. -/
def LR (W : World) (F : List Nat) (v : Value) (l : List Int) : Prop := ∃ A c, v = .slice A l.length c ∧ Reads W A (l.map (.int .u32)) ∧ ∀ a, A = some a → 0 < l.length → a.block ∉ F
theorem LR.grow {W W' : World} {F F' : List Nat} {v : Value} {l : List Int} (h : LR W F v l) (g : Grow W F W' F') : LR W' F' v l := by
  obtain ⟨A, c, rfl, hr, hn⟩ := h
  rcases Nat.eq_zero_or_pos l.length with h0 | h0
  · refine ⟨A, c, rfl, ?_, fun a e h => by omega⟩
    rw [List.length_eq_zero_iff.1 h0]; exact .inl rfl
  · exact ⟨A, c, rfl, hr.growF g (fun a e => hn a e h0), fun a e _ => g.notin (hn a e h0) (hr.blk_lt (by rw [List.length_map]; exact h0) a e)⟩
theorem LR.of_own {W : World} {base : Nat} {F : List Nat} {v : Value} {l : List Int} (h : W.ownsRow base 81 1 v l.length (l.map (.int .u32))) (hF : ∀ b ∈ F, b < base) : LR W F v l := by
  obtain ⟨a, c, rfl⟩ := own_slice h
  refine ⟨a, c, rfl, Reads.of_own h, fun ad e h0 => ?_⟩
  subst e
  intro hm
  have := hF _ hm
  have := (own_lt h ad.block (by simp [Value.ownBlock])).1
  omega
theorem num_kd2 (k : Nat) (hk : k < 6) : ∃ c : Int, kdAt (frmP k) = kdC c (wid k : Int) 134 135 := by
  have hc : k = 0 ∨ k = 1 ∨ k = 2 ∨ k = 3 ∨ k = 4 ∨ k = 5 := by omega
  rcases hc with rfl | rfl | rfl | rfl | rfl | rfl
  all_goals exact ⟨_, rfl⟩
theorem lis_kd2 (k : Nat) (hk : ¬ k < 6) (hk8 : k < 8) : kdAt (frmP k) = kdC 108 0 140 141 := by
  have hc : k = 6 ∨ k = 7 := by omega
  rcases hc with rfl | rfl
  all_goals rfl
/-- What one value's reading gives: the value, the place behind it; or an error. -/
def GotV (bs : List Int) (R : Nat) (A : Option Addr) (c k : Nat) (W : World) (x : Ending) (W' : World) : Prop :=
  ∃ (q : Int) (va : Option Addr) (vn vc : Nat) (a' : Nat) (e : Int), x = .returned (.agg #[.int .u64 q, .string ⟨#[]⟩, .slice va vn vc]) ∧ RdAt W' R A c bs a' e ∧ KeepEx W.heap.size [R] W W' ∧
    ((e = 0 ∧ okN bs (k + 1) ∧ a' = pl bs (k + 1) ∧ (k < 6 → q = numB bs k ∧ Value.slice va vn vc = .slice none 0 0) ∧ (¬ k < 6 → q = 0 ∧ ∀ F, (∀ b ∈ F, b < W.heap.size) → LR W' F (.slice va vn vc) (lisB bs k))) ∨ (e ≠ 0 ∧ ¬ okN bs 8))
theorem got_num (bs : List Int) (R : Nat) (A : Option Addr) (c k : Nat) (hk : k < 6) (cc : Int) (W : World) (h : RdAt W R A c bs (pl bs k) 0) :
    Calls Tryz.prog 135 #[.pointer (some ⟨R, 0, none⟩), .agg (kdC cc (wid k : Int) 134 135).toArray] W (GotV bs R A c k W) := by
  refine (rnumber_any R A c bs (pl bs k) cc (wid k) (by unfold wid; split; exact .inr rfl; exact .inl rfl) _ _ W h).mono ?_
  rintro x W' ⟨n, e, a', rfl, hr, hkp, hyes, hno⟩
  refine ⟨n, none, 0, 0, a', e, rfl, hr, hkp, ?_⟩
  have hs := pl_succ bs k hk
  by_cases hle : pl bs k + wid k ≤ bs.length
  · obtain ⟨e1, e2, e3⟩ := hyes hle
    exact .inl ⟨e1, ⟨by omega, fun h => by omega, fun h => by omega⟩, by omega, fun _ => ⟨e3, rfl⟩, fun h => absurd hk h⟩
  · refine .inr ⟨by rw [hno (by omega)]; decide, fun ho => ?_⟩
    have := ho.1
    have := pl_le bs (k + 1) (by omega)
    omega
theorem got_lis (bs : List Int) (R : Nat) (A : Option Addr) (c k : Nat) (hk : ¬ k < 6) (hk8 : k < 8) (W : World) (hok : okN bs k) (h : RdAt W R A c bs (pl bs k) 0) :
    Calls Tryz.prog 141 #[.pointer (some ⟨R, 0, none⟩), .agg (kdC 108 0 140 141).toArray] W (GotV bs R A c k W) := by
  have h7 : 0 < bs.length := by
    have h1 : 7 ≤ pl bs k := by
      have hc : k = 6 ∨ k = 7 := by omega
      rcases hc with rfl | rfl
      · exact Nat.le_refl _
      · simp only [pl]; omega
    have := hok.1; omega
  refine (rlist_any R A c bs (pl bs k) h7 _ _ W h).mono ?_
  rintro x W' ⟨v, l, e, a', rfl, hr, hkp, ho, hyes, hno⟩
  obtain ⟨va, vc, rfl⟩ := own_slice ho
  refine ⟨0, va, _, vc, a', e, rfl, hr, hkp, ?_⟩
  by_cases hl : listOk bs (pl bs k)
  · obtain ⟨e1, e2, e3⟩ := hyes hl
    have hp : pl bs (k + 1) = pl bs k + 1 + 4 * (bs.getD (pl bs k) 0).toNat := by
      have hc : k = 6 ∨ k = 7 := by omega
      rcases hc with rfl | rfl
      · simp only [pl]
      · rfl
    refine .inl ⟨e1, ⟨by rw [hp]; exact hl.2.2, fun _ => ?_, fun h9 => ?_⟩, by rw [e2, hp], fun h => absurd h hk, fun _ => ⟨rfl, fun F hF => ?_⟩⟩
    · have hc : k = 6 ∨ k = 7 := by omega
      rcases hc with rfl | rfl
      · exact hl
      · exact hok.2.1 (by omega)
    · obtain rfl : k = 7 := by omega
      exact hl
    · have hll : l = lisB bs k := e3
      rw [← hll]
      exact LR.of_own ho hF
  · refine .inr ⟨hno hl, fun h8 => hl ?_⟩
    have hc : k = 6 ∨ k = 7 := by omega
    rcases hc with rfl | rfl
    · exact h8.2.1 (by omega)
    · exact h8.2.2 (by omega)
def RdecPost (bs : List Int) (w : World) (x : Ending) (w' : World) : Prop :=
  Below w.heap.size w w' ∧ ((okN bs 8 ∧ ∃ g gc v6 v7, x = .returned (.tuple #[.slice (some ⟨g, 0, none⟩) 8 gc, .int .i64 (pl bs 8), .int .i64 0]) ∧ w'.ownsRow 0 79 3 (.slice (some ⟨g, 0, none⟩) 8 gc) 8 (rcvL bs v6 v7 8) ∧ LR w' [] v6 (lisB bs 6) ∧ LR w' [] v7 (lisB bs 7)) ∨
    (¬ okN bs 8 ∧ ∃ e, e ≠ 0 ∧ x = .returned (.tuple #[.slice none 0 0, .int .i64 0, .int .i64 e])))
theorem Tryz.infoRcv : (Tryz.prog.info? 79).map (fun i => (i.size, i.zero.isSome, decide (i.bytes ≤ 1000))) = some (3, true, true) := by kernel_rfl
theorem rcv_append {wr X w5 : World} {R k gc4 : Nat} {ga : Option Addr} {xs : List Value} (hk : k ≤ 8) (hown : wr.ownsRow (R + 1) 79 3 (.slice ga k gc4) k xs) (hRw : R < wr.heap.size) (bX : Below wr.heap.size wr X) (hk5 : KeepEx X.heap.size [R] X w5) (q : Int) (va : Option Addr) (vn vc : Nat) :
    ∃ av cv w6, (Builtin.append_ #[75, 75] 75 #[.slice ga k gc4, .slice (some ⟨w5.heap.size, 0, none⟩) 1 1]).run Tryz.prog (w5.alloc (.cells #[.int .u64 q, .string ⟨#[]⟩, .slice va vn vc] 79)) = .ok (.slice av (k + 1) cv) w6 ∧
      w6.ownsRow (R + 1) 79 3 (.slice av (k + 1) cv) (k + 1) (xs ++ [.int .u64 q, .string ⟨#[]⟩, .slice va vn vc]) ∧
      Grow wr (R :: (Value.slice ga k gc4).ownBlock.toList) w6 (R :: (Value.slice av (k + 1) cv).ownBlock.toList) ∧ Grow w5 (R :: (Value.slice ga k gc4).ownBlock.toList) w6 (R :: (Value.slice av (k + 1) cv).ownBlock.toList) ∧
      KeepEx (R + 1) [] w5 w6 := by
  obtain ⟨i0, z0, hi, hz0, hz1, hz3⟩ := info_any Tryz.infoRcv
  have hzc : z0.cells.size = 3 := by
    have : (Tryz.prog.info? 79).bind (fun i => i.zero.map (fun z => z.cells.size)) = some 3 := by kernel_rfl
    rw [hi] at this
    simpa [hz0] using this
  have hxs := bX.size
  have h5s := hk5.size
  have hown5 : w5.ownsRow (R + 1) 79 3 (.slice ga k gc4) k xs := own_block hown (fun g e => by
    have h1 := own_lt hown g e
    exact (hk5.block g (by omega) (by simp; omega)).trans (bX.block g (by omega)))
  obtain ⟨W5, hW5⟩ : ∃ W5, W5 = w5.alloc (.cells #[.int .u64 q, .string ⟨#[]⟩, .slice va vn vc] 79) := ⟨_, rfl⟩
  have b5 : Below w5.heap.size w5 W5 := by rw [hW5]; exact (Below.refl _ _).alloc (Nat.le_refl _) _
  have hcn := cells_news w5 79 #[.int .u64 q, .string ⟨#[]⟩, .slice va vn vc]
  rw [← hW5] at hcn ⊢
  obtain ⟨v', w6, hrun, ho6, hg6, -, hat⟩ := run_append_own_at (P := Tryz.prog) W5 (R + 1) 75 75 79 i0 z0 3 i0.bytes Tryz.underlying75 hi hz0 hz1 rfl hzc (by decide) _ _ _ (own_below hown5 b5) ⟨w5.heap.size, 0, none⟩ 1 1 [.int .u64 q, .string ⟨#[]⟩, .slice va vn vc] rfl hcn (by simp [Value.oneCell']) (by simp only [maxLen]; omega) (by have := Nat.mul_le_mul (show k + 1 ≤ 9 by omega) hz3; omega) (by have := b5.size; omega)
  obtain ⟨av, cv, rfl⟩ := own_slice ho6
  have hz5 : W5.heap.size = w5.heap.size + 1 := by rw [hW5]; simp
  have h6s := hg6.size
  have hnew : ∀ b ∈ R :: (Value.slice av (k + 1) cv).ownBlock.toList, b ∈ R :: (Value.slice ga k gc4).ownBlock.toList ∨ w5.heap.size ≤ b := fun b hb => by
    rcases List.mem_cons.1 hb with e | e
    · exact .inl (by simp [e])
    · rcases hat with h | h
      · rw [h] at e; exact .inl (List.mem_cons_of_mem _ e)
      · rw [h] at e; simp at e; right; omega
  have hkeep : ∀ b, b < w5.heap.size → b ∉ (Value.slice ga k gc4).ownBlock.toList → w6.heap[b]? = w5.heap[b]? := fun b hb hn =>
    (hg6.block b (by omega) (fun e => hn (by rw [← e]; simp))).trans (b5.block b hb)
  refine ⟨av, cv, w6, hrun, ho6, ⟨⟨hg6.os.trans (b5.os.trans (hk5.os.trans bX.os)), hg6.tape.trans (b5.tape.trans (hk5.tape.trans bX.tape)), hg6.output.trans (b5.output.trans (hk5.output.trans bX.output)), by omega, fun b hb hn => ?_⟩, fun b hb => (hnew b hb).imp id (fun h => by omega)⟩,
    ⟨⟨hg6.os.trans b5.os, hg6.tape.trans b5.tape, hg6.output.trans b5.output, by omega, fun b hb hn => hkeep b hb (fun h => hn (List.mem_cons_of_mem _ h))⟩, hnew⟩, ⟨hg6.os.trans b5.os, hg6.tape.trans b5.tape, hg6.output.trans b5.output, by omega, fun b hb hn => hkeep b (by omega) (fun h => by have := (own_lt hown b (by simpa using h)).1; omega)⟩⟩
  exact (hkeep b (by omega) (fun h => hn (List.mem_cons_of_mem _ h))).trans ((hk5.block b (by omega) (fun h => hn (by simp at h; simp [h]))).trans (bX.block b hb))
set_option maxRecDepth 100000 in
set_option maxHeartbeats 4000000 in
theorem rdecode_form (A : Option Addr) (c : Nat) (bs : List Int) (hl : bs.length ≤ 1000) (hcap : bs.length ≤ c) (hnn : ∀ b ∈ bs, 0 ≤ b ∧ b < 256) (w : World) (hR : Reads w A (bs.map (.int .u8))) :
    Calls Tryz.prog 67 #[.string frm, .slice A bs.length c] w (RdecPost bs w) := by
  have hp := parse_form w
  go_enter Tryz.func67, Tryz.ntmps67
  go_wp2_with fail
  refine hp.mono ?_
  rintro e w1 ⟨kv, rfl, ho, hb1⟩
  obtain ⟨g, gc, rfl, hg1, hg2⟩ := own_form ho (by decide)
  obtain ⟨w2, hw2⟩ : ∃ w2, w1.alloc (.cells #[.slice A bs.length c, .int .i64 0, .int .i64 0] 199) = w2 := ⟨_, rfl⟩
  obtain ⟨R, hRr⟩ : ∃ R, w1.heap.size = R := ⟨_, rfl⟩
  have bR : Blk w2 R 199 #[.slice A bs.length c, .int .i64 ((0 : Nat) : Int), .int .i64 0] := by rw [← hw2, ← hRr]; exact Blk.new _ _ _
  have b12 : Below w1.heap.size w1 w2 := by rw [← hw2]; exact (Below.refl _ _).alloc (Nat.le_refl _) _
  have B2 := hb1.trans (b12.mono hb1.size)
  have hrd : RdAt w2 R A c bs (pl bs 0) 0 := ⟨bR, hR.below B2, Nat.zero_le _, hl, hcap, fun a e h0 => by have := hR.blk_lt (by rw [List.length_map]; exact h0) a e; have := hb1.size; omega, hnn⟩
  have ho2 := own_below ho b12
  have HW := Lib.hid hw2
  have HRR := Lib.hid hRr
  have hsz := hb1.size
  have hwl : R < w2.heap.size := bR.lt
  have HAB : Hid (∀ a, A = some a → 0 < bs.length → a.block < R) := Lib.hid (fun a e h0 => by have := hR.blk_lt (by rw [List.length_map]; exact h0) a e; have := HRR.out; omega)
  clear hp ho hw2 hRr b12 bR
  go_upto_region 6 with fail
  rw [HW.out, HRR.out]
  obtain ⟨i0, z0, hi, hz0, hz1, hz3⟩ := info_any Tryz.infoRcv
  obtain ⟨bb, hz2⟩ : ∃ bb, i0.bytes = bb := ⟨_, rfl⟩
  have hzc : z0.cells.size = 3 := by
    have : (Tryz.prog.info? 79).bind (fun i => i.zero.map (fun z => z.cells.size)) = some 3 := by kernel_rfl
    rw [hi] at this
    simpa [hz0] using this
  have HBB : Hid (bb ≤ 1000) := Lib.hid (by omega)
  have HO := Lib.hid ho2
  have hgR : g < R := by have := HRR.out; omega
  clear hz3 ho2 hg2
  go_loopw [4, 24] (fun s4 s24 wr => ∃ (k : Nat) (ga : Option Addr) (gc4 : Nat) (v6 v7 : Value), k ≤ 8 ∧ s24 = .int .i64 k ∧ s4 = .slice ga k gc4 ∧ wr.ownsRow (R + 1) 79 3 (.slice ga k gc4) k (rcvL bs v6 v7 k) ∧ RdAt wr R A c bs (pl bs k) 0 ∧ Grow w2 [R] wr (R :: (Value.slice ga k gc4).ownBlock.toList) ∧ okN bs k ∧
    (6 < k → LR wr (R :: (Value.slice ga k gc4).ownBlock.toList) v6 (lisB bs 6)) ∧ (7 < k → LR wr (R :: (Value.slice ga k gc4).ownBlock.toList) v7 (lisB bs 7))) (fun _ s24 _ => 8 - (intOf s24).toNat)
  case atStart => exact ⟨0, none, 0, .slice none 0 0, .slice none 0 0, by omega, rfl, rfl, World.ownsRow_nil _ _ _ _, hrd, Grow.refl _ _, ⟨Nat.zero_le _, fun h => by omega, fun h => by omega⟩, fun h => by omega, fun h => by omega⟩
  case round =>
    obtain ⟨k, ga, gc4, v6, v7, hk, rfl, rfl, hown, hr, hg, hokn, h6, h7⟩ := hrel
    by_cases hlt : k < 8
    · have hltI : (k : Int) < 8 := by omega
      have hgn : g ∉ [R] := by simp; omega
      have hor : wr.ownsRow w.heap.size 138 4 (.slice (some ⟨g, 0, none⟩) 8 gc) 8 (frmV 8) := own_block HO.out (fun q e => by cases e; exact hg.keep.block g (by omega) hgn)
      have hgl : g < wr.heap.size := by have := hg.keep.size; omega
      have hkc : ∀ i u, (kdAt (frmP k))[i]? = some u → wr.cell? ⟨g, k * 4 + i, none⟩ = some u := fun i u hu => own_cell hor (by rw [frmV_cells k i hlt (by rw [← kdAt_len]; exact (List.getElem?_eq_some_iff.1 hu).1)]; exact hu)
      have HG := Lib.hid hg
      have HOW := Lib.hid hown
      have HR := Lib.hid hr
      have HOK := Lib.hid hokn
      have H6 := Lib.hid h6
      have H7 := Lib.hid h7
      clear hg hown hr hokn h6 h7 hor
      have key : ∀ (cc M : Int) (fW fR : Nat), kdAt (frmP k) = kdC cc M fW fR → True := fun _ _ _ _ _ => trivial
      by_cases hk6 : k < 6
      · obtain ⟨cc, hkd⟩ := num_kd2 k hk6
        have hcall : ∀ V, Below wr.heap.size wr V → Calls Tryz.prog 135 #[.pointer (some ⟨R, 0, none⟩), .agg (kdC cc (wid k : Int) 134 135).toArray] V (GotV bs R A c k V) := fun V hb => got_num bs R A c k hk6 cc V (HR.out.below hb)
        obtain ⟨M, hM⟩ : ∃ M : Int, M = (wid k : Int) := ⟨_, rfl⟩
        rw [← hM] at hcall
        rw [hkd, ← hM] at hkc
        clear hkd hM key
        have c0 : wr.cell? ⟨g, k * 4, none⟩ = some (.int .u8 cc) := hkc 0 _ rfl
        have c1 : wr.cell? ⟨g, k * 4 + 1, none⟩ = some (.int .i64 M) := hkc 1 _ rfl
        have c2' : wr.cell? ⟨g, k * 4 + 2, none⟩ = some (.func (.func 134) #[] #[]) := hkc 2 _ rfl
        have c3 : wr.cell? ⟨g, k * 4 + 3, none⟩ = some (.func (.func 135) #[] #[]) := hkc 3 _ rfl
        have HC := Lib.hid hcall
        clear hkc hcall
        go_upto_region 8 with fail
        obtain ⟨X, hX⟩ : ∃ X, wr.alloc (.cells #[.int .u8 cc, .int .i64 M, .func (.func 134) #[] #[], .func (.func 135) #[] #[]] 138) = X := ⟨_, rfl⟩
        obtain ⟨N, hN⟩ : ∃ N, wr.heap.size = N := ⟨_, rfl⟩
        have bN : Blk X N 138 #[.int .u8 cc, .int .i64 M, .func (.func 134) #[] #[], .func (.func 135) #[] #[]] := by rw [← hX, ← hN]; exact Blk.new _ _ _
        have bX : Below wr.heap.size wr X := by rw [← hX]; exact (Below.refl _ _).alloc (Nat.le_refl _) _
        rw [hX, hN]
        have HN := Lib.hid hN
        have n0 : X.cell? ⟨N, 0, none⟩ = some (.int .u8 cc) := (bN.cells 0).trans rfl
        have n1 : X.cell? ⟨N, 1, none⟩ = some (.int .i64 M) := (bN.cells 1).trans rfl
        have n2 : X.cell? ⟨N, 2, none⟩ = some (.func (.func 134) #[] #[]) := (bN.cells 2).trans rfl
        have n3 : X.cell? ⟨N, 3, none⟩ = some (.func (.func 135) #[] #[]) := (bN.cells 3).trans rfl
        have lN := bN.lt
        clear hX hN c0 c1 c2' c3
        go_wp2_with fail
        refine (HC.out X bX).mono ?_
        rintro x w5 ⟨q, va, vn, vc, a', e, rfl, hr5, hk5, hres⟩
        obtain ⟨av, cv, w6, hrun, ho6, g16, g56, hk56⟩ := rcv_append hk HOW.out HR.out.blk.lt bX hk5 q va vn vc
        have hr6 : RdAt w6 R A c bs a' e := hr5.keep2 (B := R) HAB.out (hk56.blk hr5.blk (by omega) (by simp)) ⟨hk56.os, hk56.tape, hk56.output, hk56.size, fun b hb _ => hk56.block b (by omega) (by simp)⟩
        have h65 : w5.heap.size ≤ w6.heap.size := hk56.size
        have c2 : w6.cell? ⟨R, 2, none⟩ = some (.int .i64 e) := (hr6.blk.cells 2).trans rfl
        have l2 := hr6.blk.lt
        have HR6 := Lib.hid hr6
        have HO6 := Lib.hid ho6
        have G16 := Lib.hid (HG.out.trans g16)
        have G1 := Lib.hid g16
        have G56 := Lib.hid g56
        have HBW : Hid (Below w.heap.size w w6) := Lib.hid (B2.trans ((HG.out.trans g16).below (by omega) (fun b hb => by simp at hb; omega)))
        have hXs := bX.size
        have h5s := hk5.size
        have HSZ : Hid (wr.heap.size ≤ w5.heap.size) := Lib.hid (by omega)
        clear hr5 hk5 hr6 ho6 g16 g56 hk56 n0 n1 n2 n3 lN bN bX HC
        rcases hres with ⟨he, hok1, hpl, hnum, hlis⟩ | ⟨he, hno8⟩
        rotate_left
        · as_aux_lemma =>
            have d1 : (e != 0) = true := by simpa using he
            have HE := Lib.hid he
            have HNO := Lib.hid hno8
            clear he hno8
            go_wp2_with (refine wpList_appendBy' rfl _ _ _ rfl (.slice ga k gc4) (.slice (some ⟨w5.heap.size, 0, none⟩) 1 1) _ rfl rfl hrun ?_)
            go_quiet (fail)
            go_wp2_with fail
            refine bodyPost_ret (v := .tuple #[.slice none 0 0, .int .i64 0, .int .i64 e]) (by simp [results, Tryz.results67, go_sem]) rfl ?_
            exact ⟨HBW.out.trans (below_drewN' (Below.refl _ _) _ |>.mono HBW.out.size), .inr ⟨HNO.out, e, HE.out, rfl⟩⟩
        · as_aux_lemma =>
            subst he
            subst hpl
            obtain ⟨x6, x7, hcells, hx6, hx7⟩ : ∃ x6 x7, rcvL bs v6 v7 k ++ [.int .u64 q, .string ⟨#[]⟩, .slice va vn vc] = rcvL bs x6 x7 (k + 1) ∧ (6 < k + 1 → LR w6 (R :: (Value.slice av (k + 1) cv).ownBlock.toList) x6 (lisB bs 6)) ∧ (7 < k + 1 → LR w6 (R :: (Value.slice av (k + 1) cv).ownBlock.toList) x7 (lisB bs 7)) := by
              obtain ⟨rfl, hv⟩ := hnum hk6
              rw [hv]
              refine ⟨v6, v7, ?_, fun h => absurd h (by omega), fun h => absurd h (by omega)⟩
              show _ = rcvL bs v6 v7 k ++ _
              rw [if_pos hk6]
            have HCE := Lib.hid hcells
            have HX6 := Lib.hid hx6
            have HX7 := Lib.hid hx7
            have HOK1 := Lib.hid hok1
            clear hcells hx6 hx7 hok1 hnum hlis
            go_wp2_with (refine wpList_appendBy' rfl _ _ _ rfl (.slice ga k gc4) (.slice (some ⟨w5.heap.size, 0, none⟩) 1 1) _ rfl rfl hrun ?_)
            go_roundw
            case rel => exact ⟨k + 1, av, cv, x6, x7, by omega, by go_num, rfl, by rw [← HCE.out]; exact HO6.out, HR6.out, G16.out, HOK1.out, HX6.out, HX7.out⟩
            case measure => simp [intOf]; omega
      · have hkd := lis_kd2 k hk6 hlt
        have hcall : ∀ V, Below wr.heap.size wr V → Calls Tryz.prog 141 #[.pointer (some ⟨R, 0, none⟩), .agg (kdC 108 0 140 141).toArray] V (GotV bs R A c k V) := fun V hb => got_lis bs R A c k hk6 hlt V HOK.out (HR.out.below hb)
        obtain ⟨cc, hcc⟩ : ∃ cc : Int, cc = 108 := ⟨_, rfl⟩
        obtain ⟨M, hM⟩ : ∃ M : Int, M = 0 := ⟨_, rfl⟩
        have hcall2 : ∀ V, Below wr.heap.size wr V → Calls Tryz.prog 141 #[.pointer (some ⟨R, 0, none⟩), .agg (kdC cc M 140 141).toArray] V (GotV bs R A c k V) := by rw [hcc, hM]; exact hcall
        have hkc2 : ∀ i u, (kdC cc M 140 141)[i]? = some u → wr.cell? ⟨g, k * 4 + i, none⟩ = some u := by rw [hcc, hM, ← hkd]; exact hkc
        clear hcall hkc hkd hcc hM key
        have hcall := hcall2
        have hkc := hkc2
        clear hcall2 hkc2
        have c0 : wr.cell? ⟨g, k * 4, none⟩ = some (.int .u8 cc) := hkc 0 _ rfl
        have c1 : wr.cell? ⟨g, k * 4 + 1, none⟩ = some (.int .i64 M) := hkc 1 _ rfl
        have c2' : wr.cell? ⟨g, k * 4 + 2, none⟩ = some (.func (.func 140) #[] #[]) := hkc 2 _ rfl
        have c3 : wr.cell? ⟨g, k * 4 + 3, none⟩ = some (.func (.func 141) #[] #[]) := hkc 3 _ rfl
        have HC := Lib.hid hcall
        clear hkc hcall
        go_upto_region 8 with fail
        obtain ⟨X, hX⟩ : ∃ X, wr.alloc (.cells #[.int .u8 cc, .int .i64 M, .func (.func 140) #[] #[], .func (.func 141) #[] #[]] 138) = X := ⟨_, rfl⟩
        obtain ⟨N, hN⟩ : ∃ N, wr.heap.size = N := ⟨_, rfl⟩
        have bN : Blk X N 138 #[.int .u8 cc, .int .i64 M, .func (.func 140) #[] #[], .func (.func 141) #[] #[]] := by rw [← hX, ← hN]; exact Blk.new _ _ _
        have bX : Below wr.heap.size wr X := by rw [← hX]; exact (Below.refl _ _).alloc (Nat.le_refl _) _
        rw [hX, hN]
        have HN := Lib.hid hN
        have n0 : X.cell? ⟨N, 0, none⟩ = some (.int .u8 cc) := (bN.cells 0).trans rfl
        have n1 : X.cell? ⟨N, 1, none⟩ = some (.int .i64 M) := (bN.cells 1).trans rfl
        have n2 : X.cell? ⟨N, 2, none⟩ = some (.func (.func 140) #[] #[]) := (bN.cells 2).trans rfl
        have n3 : X.cell? ⟨N, 3, none⟩ = some (.func (.func 141) #[] #[]) := (bN.cells 3).trans rfl
        have lN := bN.lt
        clear hX hN c0 c1 c2' c3
        go_wp2_with fail
        refine (HC.out X bX).mono ?_
        rintro x w5 ⟨q, va, vn, vc, a', e, rfl, hr5, hk5, hres⟩
        obtain ⟨av, cv, w6, hrun, ho6, g16, g56, hk56⟩ := rcv_append hk HOW.out HR.out.blk.lt bX hk5 q va vn vc
        have hr6 : RdAt w6 R A c bs a' e := hr5.keep2 (B := R) HAB.out (hk56.blk hr5.blk (by omega) (by simp)) ⟨hk56.os, hk56.tape, hk56.output, hk56.size, fun b hb _ => hk56.block b (by omega) (by simp)⟩
        have h65 : w5.heap.size ≤ w6.heap.size := hk56.size
        have c2 : w6.cell? ⟨R, 2, none⟩ = some (.int .i64 e) := (hr6.blk.cells 2).trans rfl
        have l2 := hr6.blk.lt
        have HR6 := Lib.hid hr6
        have HO6 := Lib.hid ho6
        have G16 := Lib.hid (HG.out.trans g16)
        have G1 := Lib.hid g16
        have G56 := Lib.hid g56
        have HBW : Hid (Below w.heap.size w w6) := Lib.hid (B2.trans ((HG.out.trans g16).below (by omega) (fun b hb => by simp at hb; omega)))
        have hXs := bX.size
        have h5s := hk5.size
        have HSZ : Hid (wr.heap.size ≤ w5.heap.size) := Lib.hid (by omega)
        clear hr5 hk5 hr6 ho6 g16 g56 hk56 n0 n1 n2 n3 lN bN bX HC
        rcases hres with ⟨he, hok1, hpl, hnum, hlis⟩ | ⟨he, hno8⟩
        rotate_left
        · as_aux_lemma =>
            have d1 : (e != 0) = true := by simpa using he
            have HE := Lib.hid he
            have HNO := Lib.hid hno8
            clear he hno8
            go_wp2_with (refine wpList_appendBy' rfl _ _ _ rfl (.slice ga k gc4) (.slice (some ⟨w5.heap.size, 0, none⟩) 1 1) _ rfl rfl hrun ?_)
            go_quiet (fail)
            go_wp2_with fail
            refine bodyPost_ret (v := .tuple #[.slice none 0 0, .int .i64 0, .int .i64 e]) (by simp [results, Tryz.results67, go_sem]) rfl ?_
            exact ⟨HBW.out.trans (below_drewN' (Below.refl _ _) _ |>.mono HBW.out.size), .inr ⟨HNO.out, e, HE.out, rfl⟩⟩
        · as_aux_lemma =>
            subst he
            subst hpl
            obtain ⟨x6, x7, hcells, hx6, hx7⟩ : ∃ x6 x7, rcvL bs v6 v7 k ++ [.int .u64 q, .string ⟨#[]⟩, .slice va vn vc] = rcvL bs x6 x7 (k + 1) ∧ (6 < k + 1 → LR w6 (R :: (Value.slice av (k + 1) cv).ownBlock.toList) x6 (lisB bs 6)) ∧ (7 < k + 1 → LR w6 (R :: (Value.slice av (k + 1) cv).ownBlock.toList) x7 (lisB bs 7)) := by
              obtain ⟨rfl, hL⟩ := hlis hk6
              have hL6 := (hL (R :: (Value.slice ga k gc4).ownBlock.toList) (fun b hb => by
                rcases List.mem_cons.1 hb with e | e
                · have := HR.out.blk.lt; omega
                · have := (own_lt HOW.out b (by simpa using e)).2; omega)).grow G56.out
              have hc : k = 6 ∨ k = 7 := by omega
              rcases hc with rfl | rfl
              · refine ⟨.slice va vn vc, v7, ?_, fun _ => hL6, fun h => absurd h (by omega)⟩
                rw [rcvL_6 bs v6 v7 (.slice va vn vc) v7 6 (by omega)]
                rfl
              · refine ⟨v6, .slice va vn vc, ?_, fun _ => (H6.out (by omega)).grow G1.out, fun _ => hL6⟩
                rw [rcvL_7 bs v6 v7 (.slice va vn vc) 7 (by omega)]
                rfl
            have HCE := Lib.hid hcells
            have HX6 := Lib.hid hx6
            have HX7 := Lib.hid hx7
            have HOK1 := Lib.hid hok1
            clear hcells hx6 hx7 hok1 hnum hlis
            go_wp2_with (refine wpList_appendBy' rfl _ _ _ rfl (.slice ga k gc4) (.slice (some ⟨w5.heap.size, 0, none⟩) 1 1) _ rfl rfl hrun ?_)
            go_roundw
            case rel => exact ⟨k + 1, av, cv, x6, x7, by omega, by go_num, rfl, by rw [← HCE.out]; exact HO6.out, HR6.out, G16.out, HOK1.out, HX6.out, HX7.out⟩
            case measure => simp [intOf]; omega
    · obtain rfl : k = 8 := by omega
      obtain ⟨g4, q4, he4, -, hg4⟩ := own_form hown (by decide)
      cases he4
      have c1 : wr.cell? ⟨R, 1, none⟩ = some (.int .i64 (pl bs 8)) := (hr.blk.cells 1).trans rfl
      have lR := hr.blk.lt
      have hp8 := hokn.1
      have d4 : ¬ (4000 : Int) < pl bs 8 := by omega
      have HBW : Hid (Below w.heap.size w wr) := Lib.hid (B2.trans (hg.below (by omega) (fun b hb => by simp at hb; omega)))
      have HOW := Lib.hid hown
      have HOK := Lib.hid hokn
      have H6 := Lib.hid (h6 (by omega))
      have H7 := Lib.hid (h7 (by omega))
      clear hown hr hg hokn h6 h7 hp8
      go_wp2_with fail
      go_quiet (fail)
      go_wp2_with fail
      have HQ : Below wr.heap.size wr (wr.drewN nq) := below_drewN' (Below.refl _ _) nq
      have LRd : ∀ v l, LR wr (R :: (Value.slice (some ⟨g4, 0, none⟩) 8 gc4).ownBlock.toList) v l → LR (wr.drewN nq) [] v l := fun v l h => by
        obtain ⟨A9, c9, rfl, hr9, -⟩ := h
        exact ⟨A9, c9, rfl, hr9.below HQ, fun _ _ _ => by simp⟩
      refine bodyPost_ret (v := .tuple #[.slice (some ⟨g4, 0, none⟩) 8 gc4, .int .i64 (pl bs 8), .int .i64 0]) (by simp [results, Tryz.results67, go_sem]) rfl ?_
      exact ⟨HBW.out.trans (HQ.mono HBW.out.size), .inl ⟨HOK.out, g4, gc4, v6, v7, rfl, own_base (own_below HOW.out HQ) (Nat.zero_le _), LRd _ _ H6.out, LRd _ _ H7.out⟩⟩
end Go.Proofs.YtjocnooekgnedaaGreatDoor
/- Layer 11: records.Whole at the form of inodes, and what it tells of an inode's bytes. -/
namespace Go.Proofs.YtjocnooekgnedaaGreatDoor
open Go.RowKit Go.Maps

def wholeOk (bs : List Int) : Prop := okN bs 8 ∧ pl bs 8 = bs.length
def inoB (bs : List Int) : Ino := ⟨numB bs 0, numB bs 1, numB bs 2, numB bs 3, numB bs 4, numB bs 5, lisB bs 6, lisB bs 7⟩
theorem decI_no {bs : List Int} (h : ¬ wholeOk bs) : decI bs = none := by
  unfold decI
  split
  · rfl
  split
  · rfl
  split
  · rfl
  split
  · rfl
  split
  · rfl
  rename_i h1 h2 h3 h4 h5
  refine absurd ?_ h
  have h5 : bs.length = 9 + 4 * (bs.getD 7 0).toNat + 4 * (bs.getD (8 + 4 * (bs.getD 7 0).toNat) 0).toNat := by omega
  refine ⟨⟨?_, fun _ => ⟨by omega, by omega, by omega⟩, fun _ => ?_⟩, ?_⟩
  · simp only [pl]; omega
  · rw [pl_7]; exact ⟨by omega, by omega, by omega⟩
  · simp only [pl]; omega
theorem decI_yes {bs : List Int} (h : wholeOk bs) : decI bs = some (inoB bs) := by
  obtain ⟨⟨h0, h7, h8⟩, hl⟩ := h
  have h7 := h7 (by omega)
  have h8 := h8 (by omega)
  rw [pl_7] at h8
  have e8 : pl bs 8 = 8 + 4 * (bs.getD 7 0).toNat + 1 + 4 * (bs.getD (8 + 4 * (bs.getD 7 0).toNat) 0).toNat := rfl
  unfold listOk at h7 h8
  unfold decI
  rw [if_neg (by omega), if_neg (by omega), if_neg (by omega), if_neg (by omega), if_neg (by omega)]
  have hL7 : lisB bs 7 = vals (bs.drop (9 + 4 * (bs.getD 7 0).toNat)) := by
    unfold lisB
    rw [pl_7, show 8 + 4 * (bs.getD 7 0).toNat + 1 = 9 + 4 * (bs.getD 7 0).toNat by omega, List.take_of_length_le (by rw [List.length_drop]; omega)]
  have hn : ∀ k m, k + m ≤ bs.length → m = 1 → valL ((bs.drop k).take m) = bs.getD k 0 := fun k m hk hm => by
    subst hm
    rw [List.take_one, List.head?_drop, List.getElem?_eq_getElem (by omega), List.getD_eq_getElem?_getD, List.getElem?_eq_getElem (by omega)]
    simp [valL]
  have hn2 : valL ((bs.drop 2).take 2) = bs.getD 2 0 + 256 * bs.getD 3 0 := by
    match bs, (by omega : 4 ≤ bs.length) with
    | a :: b :: c :: d :: t, _ =>
      show c + 256 * (d + 256 * 0) = c + 256 * d
      omega
  unfold inoB
  rw [hL7]
  have e0 : numB bs 0 = bs.getD 0 0 := hn 0 1 (by omega) rfl
  have e1 : numB bs 1 = bs.getD 1 0 := hn 1 1 (by omega) rfl
  have e2 : numB bs 2 = bs.getD 2 0 + 256 * bs.getD 3 0 := hn2
  have e3 : numB bs 3 = bs.getD 4 0 := hn 4 1 (by omega) rfl
  have e4 : numB bs 4 = bs.getD 5 0 := hn 5 1 (by omega) rfl
  have e5 : numB bs 5 = bs.getD 6 0 := hn 6 1 (by omega) rfl
  rw [e0, e1, e2, e3, e4, e5]
  rfl
def RwholePost (bs : List Int) (w : World) (x : Ending) (w' : World) : Prop :=
  Below w.heap.size w w' ∧ ((wholeOk bs ∧ ∃ g gc v6 v7, x = .returned (.tuple #[.slice (some ⟨g, 0, none⟩) 8 gc, .int .i64 0]) ∧ w'.ownsRow 0 79 3 (.slice (some ⟨g, 0, none⟩) 8 gc) 8 (rcvL bs v6 v7 8) ∧ LR w' [] v6 (lisB bs 6) ∧ LR w' [] v7 (lisB bs 7)) ∨
    (¬ wholeOk bs ∧ ∃ e, e ≠ 0 ∧ x = .returned (.tuple #[.slice none 0 0, .int .i64 e])))
set_option maxRecDepth 100000 in
set_option maxHeartbeats 4000000 in
theorem rwhole_form (A : Option Addr) (c : Nat) (bs : List Int) (hl : bs.length ≤ 1000) (hcap : bs.length ≤ c) (hnn : ∀ b ∈ bs, 0 ≤ b ∧ b < 256) (w : World) (hR : Reads w A (bs.map (.int .u8))) :
    Calls Tryz.prog 42 #[.string frm, .slice A bs.length c] w (RwholePost bs w) := by
  have hd := rdecode_form A c bs hl hcap hnn w hR
  go_enter Tryz.func42, Tryz.ntmps42
  go_wp2_with fail
  refine hd.mono ?_
  rintro x w1 ⟨hb, ⟨hok, g, gc, v6, v7, rfl, ho, h6, h7⟩ | ⟨hno, e, he, rfl⟩⟩
  · have HOK := Lib.hid hok
    have HB := Lib.hid hb
    have HO := Lib.hid ho
    have H6 := Lib.hid h6
    have H7 := Lib.hid h7
    have hle := hok.1
    by_cases heq : pl bs 8 = bs.length
    · as_aux_lemma =>
        have HE := Lib.hid heq
        have d1 : ¬ ((pl bs 8 : Nat) : Int) < bs.length := by omega
        clear hd heq hok hb ho h6 h7 hle
        go_wp2_with fail
        go_ret2
        exact ⟨HB.out, .inl ⟨⟨HOK.out, HE.out⟩, g, gc, v6, v7, rfl, HO.out, H6.out, H7.out⟩⟩
    · as_aux_lemma =>
        have HE := Lib.hid heq
        have d1 : ((pl bs 8 : Nat) : Int) < bs.length := by omega
        clear hd heq hok hb ho h6 h7 hle
        go_wp2_with fail
        go_ret2
        exact ⟨HB.out, .inr ⟨fun h => HE.out h.2, 6, by decide, rfl⟩⟩
  · have d1 : (e != 0) = true := by simpa using he
    have HE := Lib.hid he
    have HNO := Lib.hid hno
    clear hd he hno
    go_wp2_with fail
    go_ret2
    exact ⟨hb, .inr ⟨fun h => HNO.out h.1, e, HE.out, rfl⟩⟩
end Go.Proofs.YtjocnooekgnedaaGreatDoor
