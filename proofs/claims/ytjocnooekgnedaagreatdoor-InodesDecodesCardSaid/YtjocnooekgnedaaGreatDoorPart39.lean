/- Parts of the proof, put together by program: KR, KS. -/
import Derived.Test.YtjocnooekgnedaaGreatDoorPart38
set_option linter.unusedVariables false
set_option linter.unusedSimpArgs false
/- Layer 11: Encode of inodes. -/
namespace Go.Proofs.YtjocnooekgnedaaGreatDoor
open Go.RowKit Go.Maps

theorem Tryz.infoRcV : (Tryz.prog.info? 79).map (fun i => (i.zero, i.size, decide (i.bytes ≤ 1000))) = some (some (.agg #[.int .u64 0, .string ⟨#[]⟩, .slice none 0 0]), 3, true) := by kernel_rfl
/-- The values, the first k numbers being there. -/
def rcK (v : Ino) (k : Nat) : Array Value := (((List.range 8).map fun j => rcN (if j < k then numAt v j else 0)).flatten).toArray
theorem rcK_cell (v : Ino) (k : Nat) (hk : k < 6) : (rcK v k)[k * 3]? = some (.int .u64 0) := by
  have h1 : k = 0 ∨ k = 1 ∨ k = 2 ∨ k = 3 ∨ k = 4 ∨ k = 5 := by omega
  rcases h1 with rfl | rfl | rfl | rfl | rfl | rfl
  all_goals rfl
theorem rcK_succ (v : Ino) (k : Nat) (hk : k < 6) : (rcK v k).setIfInBounds (k * 3) (.int .u64 (numAt v k)) = rcK v (k + 1) := by
  have h1 : k = 0 ∨ k = 1 ∨ k = 2 ∨ k = 3 ∨ k = 4 ∨ k = 5 := by omega
  rcases h1 with rfl | rfl | rfl | rfl | rfl | rfl
  all_goals rfl
theorem rcK_6 (v : Ino) : rcK v 6 = rcC v (.slice none 0 0) (.slice none 0 0) := rfl
theorem numAt_bds {v : Ino} (hb : (0 ≤ v.kind ∧ v.kind ≤ 4) ∧ (0 ≤ v.links ∧ v.links ≤ 120) ∧ (0 ≤ v.size ∧ v.size ≤ 384) ∧ (0 ≤ v.major ∧ v.major ≤ 255) ∧ (0 ≤ v.minor ∧ v.minor ≤ 255) ∧ (0 ≤ v.parent ∧ v.parent ≤ 60)) (k : Nat) : 0 ≤ numAt v k ∧ numAt v k ≤ 384 := by
  unfold numAt
  split <;> omega
theorem make_rcv (w : World) : (Instr.makeSlice 75 (.int .i64 8) (.int .i64 8)).run Tryz.prog w = .ok (.slice (some ⟨w.heap.size, 0, none⟩) 8 8) (w.alloc (.cells (rcK ⟨0, 0, 0, 0, 0, 0, [], []⟩ 0) 79)) := by
  cases hi : Tryz.prog.info? 79 with
  | none => have h := Tryz.infoRcV; rw [hi] at h; cases h
  | some i =>
    have h := Tryz.infoRcV
    rw [hi] at h
    simp only [Option.map_some, Option.some.injEq, Prod.mk.injEq, decide_eq_true_eq] at h
    obtain ⟨hz, hs, hb⟩ := h
    have := run_make (P := Tryz.prog) w 75 79 i _ Tryz.underlying75 hi hz .i64 .i64 8 8 (by omega) (Int.le_refl _) (by omega) (by omega)
    have e : madeCells (Value.agg #[Value.int IntKind.u64 0, Value.string ⟨#[]⟩, Value.slice none 0 0]).cells (Int.toNat 8 * 3) = rcK ⟨0, 0, 0, 0, 0, 0, [], []⟩ 0 := by kernel_rfl
    rw [this, hs, e]
    rfl
set_option maxRecDepth 100000 in
theorem six_at (v : Ino) (k : Nat) (hk : k < 6) (W : World) : Sem.run Tryz.prog (Instr.index 76 (.agg #[.int .i64 v.kind, .int .i64 v.links, .int .i64 v.size, .int .i64 v.major, .int .i64 v.minor, .int .i64 v.parent]) (.int .i64 k)) W = .ok (.int .i64 (numAt v k)) W := by
  have h1 : k = 0 ∨ k = 1 ∨ k = 2 ∨ k = 3 ∨ k = 4 ∨ k = 5 := by omega
  rcases h1 with rfl | rfl | rfl | rfl | rfl | rfl
  all_goals rfl
/-- An element more in a row that a block's cell holds. -/
theorem row_step {w X w4 : World} {V p base : Nat} {t e : TypeId} {cs : Array Value} {v v' : Value} {xs : List Value} {n : Nat} {b : Value} (hb : Blk w V t cs) (far : v.ownBlock ≠ some V) (hX : Below w.heap.size w X) (ho : w4.ownsRow base e 1 v' (n + 1) (xs ++ [b])) (hg : X.grownBy w4 v.ownBlock) (hv : v'.ownBlock = v.ownBlock ∨ v'.ownBlock = some X.heap.size) :
    Blk (w4.setCell ⟨V, p, none⟩ v') V t (cs.setIfInBounds p v') ∧ (w4.setCell ⟨V, p, none⟩ v').ownsRow base e 1 v' (n + 1) (xs ++ [b]) ∧ v'.ownBlock ≠ some V ∧ Grow w (V :: v.ownBlock.toList) (w4.setCell ⟨V, p, none⟩ v') (V :: v'.ownBlock.toList) := by
  have hlt := hb.lt
  have hXs := hX.size
  have h4s := hg.size
  have b4 : Blk w4 V t cs := (hb.belowAll hX).grown hg (fun e => far e.symm)
  have hf' : v'.ownBlock ≠ some V := by
    rcases hv with e | e
    · rw [e]; exact far
    · rw [e]; intro q; injection q with q; omega
  have bs' : Below 0 w4 (w4.setCell ⟨V, p, none⟩ v') := Below.setCell (Below.refl _ _) (Nat.zero_le _) _
  refine ⟨b4.set_ p v', own_block ho (fun g e => Below.heap_setCell _ _ _ _ (fun q => hf' (by rw [e]; simpa using q))), hf', ⟨⟨?_, ?_, ?_, ?_, fun g hgl hn => ?_⟩, fun g hgm => ?_⟩⟩
  · exact bs'.os.trans (hg.os.trans hX.os)
  · exact bs'.tape.trans (hg.tape.trans hX.tape)
  · exact bs'.output.trans (hg.output.trans hX.output)
  · have := bs'.size; omega
  · have h1 : g ≠ V := fun e => hn (by simp [e])
    have h2 : some g ≠ v.ownBlock := fun e => hn (by rw [← e]; simp)
    rw [Below.heap_setCell _ _ _ _ (fun q => h1 (by simpa using q)), hg.block g (by omega) h2, hX.block g hgl]
  · rcases List.mem_cons.1 hgm with e | e
    · exact .inl (by simp [e])
    · rcases hv with q | q
      · rw [q] at e; exact .inl (List.mem_cons_of_mem _ e)
      · rw [q] at e; simp at e; right; omega

theorem Tryz.infoU32 : (Tryz.prog.info? 81).map (fun i => (i.zero, i.size, i.bytes)) = some (some (.int .u32 0), 1, 4) := by kernel_rfl
theorem rcC_6 (v : Ino) (s6 s7 s : Value) : (rcC v s6 s7).setIfInBounds 20 s = rcC v s s7 := rfl
theorem rcC_7 (v : Ino) (s6 s7 s : Value) : (rcC v s6 s7).setIfInBounds 23 s = rcC v s6 s := rfl
theorem take_map {l : List Int} {k : Nat} (hk : k < l.length) (f : Int → Value) : (l.take k).map f ++ [f l[k]] = (l.take (k + 1)).map f := by
  rw [List.take_add_one, List.getElem?_eq_getElem hk, List.map_append]; rfl
def InoEncPost (s j i : Int) (v : Ino) (w : World) (e : Ending) (w' : World) : Prop :=
  ∃ B n c3, e = .returned (.tuple #[.slice B n c3, .int .i64 (inoE s j i v)]) ∧ Below w.heap.size w w' ∧ (inoE s j i v = 0 → n = (encI v).length ∧ Reads w' B ((encI v).map (.int .u8))) ∧ (inoE s j i v ≠ 0 → n = 0) ∧ n ≤ c3
set_option maxRecDepth 100000 in
set_option maxHeartbeats 4000000 in
theorem encode_ino (s j i : Int) (v : Ino) (A : Option Addr) (c : Nat) (A2 : Option Addr) (c2 : Nat) (w : World) (h : InoIn w v A c A2 c2) :
    Calls Tryz.prog 12 #[.agg #[.int .i64 s, .int .i64 j, .int .i64 i], .agg (inoC v (.slice A v.blocks.length c) (.slice A2 v.attrs.length c2))] w (InoEncPost s j i v w) := by
  obtain ⟨wA, hA⟩ : ∃ wA, wA = (w.alloc (.cells #[.int .i64 s, .int .i64 j, .int .i64 i] 23)).alloc (.cells (inoC v (.slice A v.blocks.length c) (.slice A2 v.attrs.length c2)) 26) := ⟨_, rfl⟩
  have bL : Blk wA w.heap.size 23 #[.int .i64 s, .int .i64 j, .int .i64 i] := by rw [hA]; exact (by (repeat' (first | (with_reducible assumption) | exact Blk.new' (by simp) | refine Blk.alloc ?_ _)))
  have bX : Blk wA (w.heap.size + 1) 26 (inoC v (.slice A v.blocks.length c) (.slice A2 v.attrs.length c2)) := by rw [hA]; exact (by (repeat' (first | (with_reducible assumption) | exact Blk.new' (by simp) | refine Blk.alloc ?_ _)))
  have BA : Below w.heap.size w wA := by rw [hA]; (repeat' (first | (with_reducible exact Below.refl _ _) | (with_reducible assumption) | (with_reducible refine Below.alloc ?_ ?_ _) | (with_reducible refine Below.drew ?_) | (with_reducible refine below_drewN' ?_ _) | (with_reducible refine Below.setCell ?_ ?_ _) | (with_reducible exact Nat.le_refl _) | omega | (simp; done) | (simp; omega)))
  have hck := check_ino s j i v A c A2 c2 wA (h.below BA)
  have cL := bL.cells
  have lL := bL.lt
  have cX := bX.cells
  have lX := bX.lt
  have HH := Lib.hid h
  clear h
  go_enter Tryz.func12, Tryz.ntmps12
  go_wp2_with fail
  rw [← hA]
  clear hA
  go_wp2_with fail
  refine hck.mono ?_
  rintro e w1 ⟨rfl, hb1⟩
  have B1 := BA.trans (hb1.mono BA.size)
  by_cases hE : inoE s j i v = 0
  rotate_left
  · have dE : (inoE s j i v != 0) = true := by simpa using hE
    have HE := Lib.hid hE
    clear hck cL lL cX lX bL bX hE
    go_wp2_with fail
    go_ret2
    exact ⟨_, _, _, rfl, B1, fun h => absurd h HE.out, fun _ => rfl, Nat.zero_le _⟩
  have HE := Lib.hid hE
  rw [hE]
  have hk := inoE_ok.1 hE
  have hsm := hk.small
  have hnb : (0 ≤ v.kind ∧ v.kind ≤ 4) ∧ (0 ≤ v.links ∧ v.links ≤ 120) ∧ (0 ≤ v.size ∧ v.size ≤ 384) ∧ (0 ≤ v.major ∧ v.major ≤ 255) ∧ (0 ≤ v.minor ∧ v.minor ≤ 255) ∧ (0 ≤ v.parent ∧ v.parent ≤ 60) := ⟨hk.kind, hsm.2.2⟩
  have hrb := rgB_bds s j i
  have hall : ∀ n ∈ v.all, 0 ≤ n ∧ n < 4294967296 := fun n hn => by have := hk.rng n hn; omega
  have bX1 := bX.belowAll hb1
  have HNB := Lib.hid hnb
  have HALL := Lib.hid hall
  have HLN : Hid (v.blocks.length ≤ 8 ∧ v.attrs.length ≤ 3) := Lib.hid ⟨hsm.1, hsm.2.1⟩
  have hmk := make_rcv w1
  obtain ⟨w2, hw2⟩ : ∃ w2, w1.alloc (.cells (rcK ⟨0, 0, 0, 0, 0, 0, [], []⟩ 0) 79) = w2 := ⟨_, rfl⟩
  obtain ⟨V, hV⟩ : ∃ V, w1.heap.size = V := ⟨_, rfl⟩
  have bV : Blk w2 V 79 (rcK v 0) := by rw [← hw2, ← hV]; exact Blk.new _ _ _
  have b12 : Below w1.heap.size w1 w2 := by rw [← hw2]; exact (Below.refl _ _).alloc (Nat.le_refl _) _
  rw [hw2, hV] at hmk
  have bX2 := bX1.belowAll b12
  have B2 := B1.trans (b12.mono B1.size)
  have hVw : w.heap.size ≤ V := by have := B1.size; omega
  have hXV : w.heap.size + 1 < V := by have := bX1.lt; omega
  clear hck cL lL cX lX bL bX hE hk hsm hnb hrb hall bX1 hw2 hV b12
  have cX0 : w2.cell? ⟨w.heap.size + 1, 0, none⟩ = some (.int .i64 v.kind) := (bX2.cells 0).trans rfl
  have cX1 : w2.cell? ⟨w.heap.size + 1, 1, none⟩ = some (.int .i64 v.links) := (bX2.cells 1).trans rfl
  have cX2 : w2.cell? ⟨w.heap.size + 1, 2, none⟩ = some (.int .i64 v.size) := (bX2.cells 2).trans rfl
  have cX3 : w2.cell? ⟨w.heap.size + 1, 3, none⟩ = some (.int .i64 v.major) := (bX2.cells 3).trans rfl
  have cX4 : w2.cell? ⟨w.heap.size + 1, 4, none⟩ = some (.int .i64 v.minor) := (bX2.cells 4).trans rfl
  have cX5 : w2.cell? ⟨w.heap.size + 1, 5, none⟩ = some (.int .i64 v.parent) := (bX2.cells 5).trans rfl
  have lX := bX2.lt
  go_upto_region 6 with fail
  clear cX0 cX1 cX2 cX3 cX4 cX5 lX hmk
  go_loopw [34] (fun s34 wr => ∃ k : Nat, k ≤ 6 ∧ s34 = .int .i64 k ∧ Blk wr V 79 (rcK v k) ∧ Grow w2 [V] wr [V]) (fun s34 _ => 6 - (intOf s34).toNat)
  case atStart => exact ⟨0, by omega, rfl, bV, Grow.refl _ _⟩
  case round =>
    obtain ⟨k, hk, rfl, bk, hg⟩ := hrel
    by_cases hlt : k < 6
    · have hltI : (k : Int) < 6 := by omega
      have hlt8 : (k : Int) < 8 := by omega
      have ix := six_at v k hlt wr
      have hn := numAt_bds HNB.out k
      have m1 : IntKind.u64.wrap (numAt v k) = numAt v k := by rw [IntKind.wrap_u64]; omega
      have cV : wr.cell? ⟨V, k * 3, none⟩ = some (.int .u64 0) := (bk.cells _).trans (rcK_cell v k hlt)
      have lV := bk.lt
      have fV := bk.free (k * 3)
      have hb2 : Blk (wr.setCell ⟨V, k * 3, none⟩ (.int .u64 (numAt v k))) V 79 (rcK v (k + 1)) := by rw [← rcK_succ v k hlt]; exact bk.set_ _ _
      have hg2 : Grow w2 [V] (wr.setCell ⟨V, k * 3, none⟩ (.int .u64 (numAt v k))) [V] := ⟨hg.keep.trans (KeepEx.setCell wr (.inl (by simp)) _), fun b hb => .inl hb⟩
      have HB2 := Lib.hid hb2
      have HG2 := Lib.hid hg2
      clear hb2 hg2 bk hg hn
      go_wp2_with fail
      go_roundw
      case rel => exact ⟨k + 1, by omega, by go_num, HB2.out, HG2.out⟩
      case measure => simp [intOf]; omega
    · have bk6 : Blk wr V 79 (rcC v (.slice none 0 0) (.slice none 0 0)) := by
        have e : k = 6 := by omega
        subst e
        exact bk
      have hltI : ¬ (k : Int) < 6 := by omega
      clear bk
      have bk := bk6
      clear bk6
      obtain ⟨i0, hi, hz0, hz1, hz2⟩ := info_parts Tryz.infoU32
      have hXn : w.heap.size + 1 ∉ [V] := by simp; omega
      have bX3 := hg.blk bX2 hXn
      have b0r : Below w.heap.size w wr := B2.trans (hg.below B2.size (fun b hb => by simp at hb; omega))
      have cX6 : wr.cell? ⟨w.heap.size + 1, 6, none⟩ = some (.slice A v.blocks.length c) := (bX3.cells 6).trans rfl
      have cX7 : wr.cell? ⟨w.heap.size + 1, 7, none⟩ = some (.slice A2 v.attrs.length c2) := (bX3.cells 7).trans rfl
      have lX := bX3.lt
      have u1 : wrap64 1 = 1 := by unfold wrap64; decide
      have u2 : wrap64 2 = 2 := by unfold wrap64; decide
      have u6 : wrap64 6 = 6 := by unfold wrap64; decide
      have u7 : wrap64 7 = 7 := by unfold wrap64; decide
      have ix0 : Sem.run Tryz.prog (Instr.index 80 (.agg #[.slice A v.blocks.length c, .slice A2 v.attrs.length c2]) (.int .i64 0)) wr = .ok (.slice A v.blocks.length c) wr := rfl
      clear bV bX2 hg B1 hb1 BA hlt hk
      go_upto_region 11 with fail
      clear cX6 cX7 lX
      refine wp_loop_rounds 3 ?_
      rw [rounds_succ]
      go_upto_region 14 with fail
      clear ix0
      generalize hSS : wr = wS at *
      clear hSS
      have HBS := Lib.hid b0r
      have HbX := Lib.hid bX3
      clear b0r bX3
      go_loopw [56] (fun s56 wr => ∃ (k : Nat) (ga : Option Addr) (gc : Nat), k ≤ v.blocks.length ∧ s56 = .int .i64 k ∧ Blk wr V 79 (rcC v (.slice ga k gc) (.slice none 0 0)) ∧ wr.ownsRow 0 81 1 (.slice ga k gc) k ((v.blocks.take k).map (.int .u32)) ∧ (Value.slice ga k gc).ownBlock ≠ some V ∧ Grow wS [V] wr (V :: (Value.slice ga k gc).ownBlock.toList)) (fun s56 _ => v.blocks.length - (intOf s56).toNat)
      case atStart => exact ⟨0, none, 0, by omega, rfl, bk, World.ownsRow_nil _ _ _ _, by simp [Value.ownBlock], Grow.refl _ _⟩
      case round =>
        obtain ⟨k, ga, gc, hk, rfl, bk, ho, hfar, hg⟩ := hrel
        have hbw : Below w.heap.size w wr := HBS.out.trans (hg.below HBS.out.size (fun b hb => by simp at hb; omega))
        by_cases hlt : k < v.blocks.length
        · have hltI : (k : Int) < v.blocks.length := by omega
          have hnr := HALL.out v.blocks[k] (List.mem_append_left _ (List.getElem_mem hlt))
          obtain ⟨ab, ao, hAe, hab, hc⟩ := (HH.out.r1.below hbw).at_ (k := k) (by rw [List.length_map]; exact hlt)
          simp only [List.getElem_map] at hc
          have HT := Lib.hid (take_map hlt (Value.int .u32))
          have hl8 := HLN.out.1
          obtain ⟨n, hn⟩ : ∃ n, n = v.blocks[k] := ⟨_, rfl⟩
          rw [← hn] at hc hnr HT
          clear hn
          have m3 : IntKind.u32.wrap n = n := by rw [IntKind.wrap_u32]; omega
          obtain ⟨X, hX⟩ : ∃ X, X = wr.alloc (.cells #[.int .u32 n] 81) := ⟨_, rfl⟩
          have bX : Below wr.heap.size wr X := by rw [hX]; exact (Below.refl _ _).alloc (Nat.le_refl _) _
          have rX : Reads X (some ⟨wr.heap.size, 0, none⟩) [.int .u32 n] := .inr ⟨wr.heap.size, 0, rfl, by rw [hX]; simp, fun j u hu => by
            rw [hX, Nat.zero_add]
            rcases j with _ | j
            · refine ((Blk.new wr 81 #[.int .u32 n]).cells 0).trans ?_; simpa using hu
            · simp at hu⟩
          have hoX := own_below ho bX
          have bkX := bk.belowAll bX
          have HX := Lib.hid hX
          have HBK := Lib.hid bk
          have HO := Lib.hid ho
          have HF := Lib.hid hfar
          have HG := Lib.hid hg
          have cV : wr.cell? ⟨V, 20, none⟩ = some (.slice ga k gc) := (bk.cells 20).trans rfl
          have lV := bk.lt
          have lA : ab < wr.heap.size := hab
          clear hX bk ho hg hab hbw
          subst hAe
          go_wp2_with (at_builtin; rw [← HX.out]; refine wpList_append_any _ rfl (.tmp 68) (.tmp 71) _ rfl 0 81 i0 (.int .u32 0) 4 Tryz.underlying77 hi hz0 hz1 hz2 rfl (.slice ga k gc) _ _ rfl hoX (some ⟨wr.heap.size, 0, none⟩) 1 1 [.int .u32 n] rfl rfl (fun h => by cases h) rX (by simp [Value.oneCell']) (by simp only [maxLen]; omega) (by omega) (Nat.zero_le _) ?_; intro v' w4 hown hgrow hat; obtain ⟨hs1, hs2, hs3, hs4⟩ := row_step (p := 20) HBK.out HF.out bX hown hgrow hat; obtain ⟨av, cv, e⟩ := own_slice hown; subst e; have b4 : Blk w4 V 79 _ := bkX.grown hgrow (fun e => HF.out e.symm); have c4 : w4.cell? ⟨V, 20, none⟩ = some (.slice ga k gc) := (b4.cells 20).trans rfl; have l4 := b4.lt; have f4 := b4.free 20)
          rw [HT.out] at hs2
          have hg5 := HG.out.trans hs4
          go_roundw
          case rel => exact ⟨k + 1, av, cv, by omega, by go_num, hs1, hs2, hs3, hg5⟩
          case measure => simp [intOf]; omega
        · obtain rfl : k = v.blocks.length := by omega
          rw [List.take_length] at ho
          have ix1 : Sem.run Tryz.prog (Instr.index 80 (.agg #[.slice A v.blocks.length c, .slice A2 v.attrs.length c2]) (.int .i64 1)) wr = .ok (.slice A2 v.attrs.length c2) wr := rfl
          have hl8 := HLN.out.1
          have hl3 := HLN.out.2
          go_wp2_with fail
          rw [rounds_succ]
          go_upto_region 14 with fail
          clear ix1
          have hr6 := Reads.of_own ho
          have hf6 : ∀ a, ga = some a → a.block ≠ V := fun a e h => hfar (by rw [e]; simp [Value.ownBlock, h])
          generalize ga = g6 at *
          generalize gc = q6 at *
          generalize hTT : wr = wT at *
          clear hTT
          have HBT := Lib.hid hbw
          have HR6 := Lib.hid hr6
          have HF6 := Lib.hid hf6
          clear hbw hr6 hf6 hfar ho hg hl8 hlt hk
          go_loopw [56] (fun s56 wr => ∃ (k : Nat) (ga : Option Addr) (gc : Nat), k ≤ v.attrs.length ∧ s56 = .int .i64 k ∧ Blk wr V 79 (rcC v (.slice g6 v.blocks.length q6) (.slice ga k gc)) ∧ wr.ownsRow 0 81 1 (.slice ga k gc) k ((v.attrs.take k).map (.int .u32)) ∧ (Value.slice ga k gc).ownBlock ≠ some V ∧ Grow wT [V] wr (V :: (Value.slice ga k gc).ownBlock.toList)) (fun s56 _ => v.attrs.length - (intOf s56).toNat)
          case atStart => exact ⟨0, none, 0, by omega, rfl, bk, World.ownsRow_nil _ _ _ _, by simp [Value.ownBlock], Grow.refl _ _⟩
          case round =>
            obtain ⟨k, ga, gc, hk, rfl, bk, ho, hfar, hg⟩ := hrel
            have hbw : Below w.heap.size w wr := HBT.out.trans (hg.below HBT.out.size (fun b hb => by simp at hb; omega))
            by_cases hlt : k < v.attrs.length
            · have hltI : (k : Int) < v.attrs.length := by omega
              have hnr := HALL.out v.attrs[k] (List.mem_append_right _ (List.getElem_mem hlt))
              obtain ⟨ab, ao, hAe, hab, hc⟩ := (HH.out.r2.below hbw).at_ (k := k) (by rw [List.length_map]; exact hlt)
              simp only [List.getElem_map] at hc
              have HT := Lib.hid (take_map hlt (Value.int .u32))
              have hl8 := HLN.out.2
              obtain ⟨n, hn⟩ : ∃ n, n = v.attrs[k] := ⟨_, rfl⟩
              rw [← hn] at hc hnr HT
              clear hn
              have m3 : IntKind.u32.wrap n = n := by rw [IntKind.wrap_u32]; omega
              obtain ⟨X, hX⟩ : ∃ X, X = wr.alloc (.cells #[.int .u32 n] 81) := ⟨_, rfl⟩
              have bX : Below wr.heap.size wr X := by rw [hX]; exact (Below.refl _ _).alloc (Nat.le_refl _) _
              have rX : Reads X (some ⟨wr.heap.size, 0, none⟩) [.int .u32 n] := .inr ⟨wr.heap.size, 0, rfl, by rw [hX]; simp, fun j u hu => by
                rw [hX, Nat.zero_add]
                rcases j with _ | j
                · refine ((Blk.new wr 81 #[.int .u32 n]).cells 0).trans ?_; simpa using hu
                · simp at hu⟩
              have hoX := own_below ho bX
              have bkX := bk.belowAll bX
              have HX := Lib.hid hX
              have HBK := Lib.hid bk
              have HO := Lib.hid ho
              have HF := Lib.hid hfar
              have HG := Lib.hid hg
              have cV : wr.cell? ⟨V, 23, none⟩ = some (.slice ga k gc) := (bk.cells 23).trans rfl
              have lV := bk.lt
              have lA : ab < wr.heap.size := hab
              clear hX bk ho hg hab hbw
              subst hAe
              go_wp2_with (at_builtin; rw [← HX.out]; refine wpList_append_any _ rfl (.tmp 68) (.tmp 71) _ rfl 0 81 i0 (.int .u32 0) 4 Tryz.underlying77 hi hz0 hz1 hz2 rfl (.slice ga k gc) _ _ rfl hoX (some ⟨wr.heap.size, 0, none⟩) 1 1 [.int .u32 n] rfl rfl (fun h => by cases h) rX (by simp [Value.oneCell']) (by simp only [maxLen]; omega) (by omega) (Nat.zero_le _) ?_; intro v' w4 hown hgrow hat; obtain ⟨hs1, hs2, hs3, hs4⟩ := row_step (p := 23) HBK.out HF.out bX hown hgrow hat; obtain ⟨av, cv, e⟩ := own_slice hown; subst e; have b4 : Blk w4 V 79 _ := bkX.grown hgrow (fun e => HF.out e.symm); have c4 : w4.cell? ⟨V, 23, none⟩ = some (.slice ga k gc) := (b4.cells 23).trans rfl; have l4 := b4.lt; have f4 := b4.free 23)
              rw [HT.out] at hs2
              have hg5 := HG.out.trans hs4
              go_roundw
              case rel => exact ⟨k + 1, av, cv, by omega, by go_num, hs1, hs2, hs3, hg5⟩
              case measure => simp [intOf]; omega
            · obtain rfl : k = v.attrs.length := by omega
              rw [List.take_length] at ho
              have hr7 := Reads.of_own ho
              have hr6' : Reads wr g6 (v.blocks.map (.int .u32)) := HR6.out.growF hg (fun a e => by simp; exact HF6.out a e)
              have hre := rencode_form v HNB.out HLN.out HALL.out V g6 q6 ga gc wr bk hr6' hr7
              clear hr7 hr6' ho hfar hg
              go_wp2_with fail
              rw [rounds_succ]
              go_wp2_with fail
              refine hre.mono ?_
              rintro e wz ⟨Az, cz, rfl, hbz, hrz, hcz⟩
              clear hre
              go_wp2_with fail
              go_ret2
              refine ⟨Az, _, cz, ?_, hbw.trans (hbz.mono hbw.size), fun _ => ⟨rfl, hrz⟩, fun h => absurd HE.out h, hcz⟩
              rw [HE.out]
              rfl
theorem encodeAll : EncodeAll := fun s j i v A c A2 c2 w _ h => (encode_ino s j i v A c A2 c2 w h).mono fun e w' ⟨B, n, c3, he, hb, h0, _⟩ => ⟨B, n, c3, he, hb, h0⟩
end Go.Proofs.YtjocnooekgnedaaGreatDoor
/- Layer 11: the reader of records. -/
namespace Go.Proofs.YtjocnooekgnedaaGreatDoor
open Go.RowKit Go.Maps

/-- A reader: its bytes, its place, its first error. -/
structure RdAt (w : World) (R : Nat) (A : Option Addr) (c : Nat) (bs : List Int) (at_ : Nat) (e : Int) : Prop where
  blk : Blk w R 199 #[.slice A bs.length c, .int .i64 at_, .int .i64 e]
  rd : Reads w A (bs.map (.int .u8))
  le : at_ ≤ bs.length
  len : bs.length ≤ 1000
  cap : bs.length ≤ c
  far : ∀ a, A = some a → 0 < bs.length → a.block ≠ R
  nn : ∀ b ∈ bs, 0 ≤ b ∧ b < 256
theorem RdAt.below {w w' : World} {R : Nat} {A : Option Addr} {c : Nat} {bs : List Int} {at_ : Nat} {e : Int} (h : RdAt w R A c bs at_ e) (hb : Below w.heap.size w w') : RdAt w' R A c bs at_ e :=
  ⟨h.blk.belowAll hb, h.rd.below hb, h.le, h.len, h.cap, h.far, h.nn⟩
theorem RdAt.set_ {w : World} {R : Nat} {A : Option Addr} {c : Nat} {bs : List Int} {at_ : Nat} {e : Int} (h : RdAt w R A c bs at_ e) (e' : Int) : RdAt (w.setCell ⟨R, 2, none⟩ (.int .i64 e')) R A c bs at_ e' :=
  ⟨h.blk.set_ 2 _, by
    rcases Nat.eq_zero_or_pos bs.length with h0 | h0
    · rw [List.length_eq_zero_iff.1 h0]; exact .inl rfl
    · rcases h.rd with hr | ⟨b, o, hA, hl, hc⟩
      · exact .inl hr
      · exact .inr ⟨b, o, hA, by simpa using hl, fun j u hu => by
          rw [World.cell?_of_block (w := w) (Below.heap_setCell _ _ _ _ (fun q => h.far _ hA h0 (by simpa using q)))]
          exact hc j u hu⟩, h.le, h.len, h.cap, h.far, h.nn⟩
theorem RdAt.move {w : World} {R : Nat} {A : Option Addr} {c : Nat} {bs : List Int} {at_ : Nat} {e : Int} (h : RdAt w R A c bs at_ e) (a' : Nat) (ha : a' ≤ bs.length) : RdAt (w.setCell ⟨R, 1, none⟩ (.int .i64 a')) R A c bs a' e :=
  ⟨h.blk.set_ 1 _, by
    rcases Nat.eq_zero_or_pos bs.length with h0 | h0
    · rw [List.length_eq_zero_iff.1 h0]; exact .inl rfl
    · rcases h.rd with hr | ⟨b, o, hA, hl, hc⟩
      · exact .inl hr
      · exact .inr ⟨b, o, hA, by simpa using hl, fun j u hu => by
          rw [World.cell?_of_block (w := w) (Below.heap_setCell _ _ _ _ (fun q => h.far _ hA h0 (by simpa using q)))]
          exact hc j u hu⟩, ha, h.len, h.cap, h.far, h.nn⟩

set_option maxRecDepth 100000 in
set_option maxHeartbeats 4000000 in
theorem take_bad (R : Nat) (A : Option Addr) (c : Nat) (bs : List Int) (at_ : Nat) (e : Int) (he : e ≠ 0) (m : Int) (w : World) (h : RdAt w R A c bs at_ e) :
    Calls Tryz.prog 174 #[.pointer (some ⟨R, 0, none⟩), .int .i64 m] w fun x w' => x = .returned (.slice none 0 0) ∧ ∃ q, w' = w.drewN q := by
  have c2 : w.cell? ⟨R, 2, none⟩ = some (.int .i64 e) := (h.blk.cells 2).trans rfl
  have lR := h.blk.lt
  have d1 : (e == 0) = false := by simpa using he
  have d2 : (e != 0) = true := by simpa using he
  clear h he
  go_enter Tryz.func174, Tryz.ntmps174
  go_wp2_with fail
  go_quiet (fail)
  go_wp2_with fail
  go_ret
  exact ⟨rfl, _, rfl⟩
set_option maxRecDepth 100000 in
set_option maxHeartbeats 4000000 in
theorem take_more (R : Nat) (A : Option Addr) (c : Nat) (bs : List Int) (at_ : Nat) (m : Nat) (hm : bs.length < at_ + m) (hm2 : m ≤ 1000) (w : World) (h : RdAt w R A c bs at_ 0) :
    Calls Tryz.prog 174 #[.pointer (some ⟨R, 0, none⟩), .int .i64 m] w fun x w' => x = .returned (.slice none 0 0) ∧ RdAt w' R A c bs at_ 10 ∧ KeepEx w.heap.size [R] w w' := by
  have c0 : w.cell? ⟨R, 0, none⟩ = some (.slice A bs.length c) := (h.blk.cells 0).trans rfl
  have c1 : w.cell? ⟨R, 1, none⟩ = some (.int .i64 at_) := (h.blk.cells 1).trans rfl
  have c2 : w.cell? ⟨R, 2, none⟩ = some (.int .i64 0) := (h.blk.cells 2).trans rfl
  have lR := h.blk.lt
  have fR := h.blk.free 2
  have hle := h.le
  have hlen := h.len
  have m1 : IntKind.i64.wrap ((bs.length : Int) - at_) = bs.length - at_ := by rw [IntKind.wrap_i64]; omega
  have d1 : (bs.length : Int) - at_ < m := by omega
  have HR := Lib.hid h
  clear h
  go_enter Tryz.func174, Tryz.ntmps174
  go_wp2_with fail
  go_quiet (fail)
  have h2 := (HR.out.below (below_drewN' (Below.refl _ _) nq : Below w.heap.size w (w.drewN nq)))
  have c2 : (w.drewN nq).cell? ⟨R, 2, none⟩ = some (.int .i64 0) := (h2.blk.cells 2).trans rfl
  have l2 := h2.blk.lt
  have f2 := h2.blk.free 2
  have hs := h2.set_ 10
  have hk : KeepEx w.heap.size [R] w ((w.drewN nq).setCell ⟨R, 2, none⟩ (.int .i64 10)) := (KeepEx.of_below (below_drewN' (Below.refl _ _) nq : Below w.heap.size w (w.drewN nq))).trans (KeepEx.setCell _ (.inl (by simp)) _)
  have HS := Lib.hid hs
  have HK := Lib.hid hk
  clear h2 hs hk
  generalize w.drewN nq = wq at *
  go_wp2_with fail
  go_ret
  exact ⟨rfl, HS.out, HK.out⟩

def TakeOk (R : Nat) (A : Option Addr) (c : Nat) (bs : List Int) (at_ m : Nat) (w : World) (x : Ending) (w' : World) : Prop :=
  ∃ A' c', x = .returned (.slice A' m c') ∧ m ≤ c' ∧ Reads w' A' (((bs.drop at_).take m).map (.int .u8)) ∧ (∀ a, A' = some a → a.block ≠ R ∧ a.block < w.heap.size) ∧ RdAt w' R A c bs (at_ + m) 0 ∧ KeepEx w.heap.size [R] w w'
set_option maxRecDepth 100000 in
set_option maxHeartbeats 4000000 in
theorem take_ok (R : Nat) (A : Option Addr) (c : Nat) (bs : List Int) (at_ : Nat) (m : Nat) (hm : at_ + m ≤ bs.length) (h0 : 0 < bs.length) (w : World) (h : RdAt w R A c bs at_ 0) :
    Calls Tryz.prog 174 #[.pointer (some ⟨R, 0, none⟩), .int .i64 m] w (TakeOk R A c bs at_ m w) := by
  obtain ⟨b, o, rfl, hbl, hrc⟩ : ∃ b o, A = some ⟨b, o, none⟩ ∧ b < w.heap.size ∧ ∀ j u, (bs.map (Value.int .u8))[j]? = some u → w.cell? ⟨b, o + j, none⟩ = some u := by
    rcases h.rd with hr | hr
    · rw [List.map_eq_nil_iff] at hr; rw [hr] at h0; exact absurd h0 (by simp)
    · exact hr
  have hbR : b ≠ R := h.far _ rfl h0
  have c0 : w.cell? ⟨R, 0, none⟩ = some (.slice (some ⟨b, o, none⟩) bs.length c) := (h.blk.cells 0).trans rfl
  have c1 : w.cell? ⟨R, 1, none⟩ = some (.int .i64 at_) := (h.blk.cells 1).trans rfl
  have c2 : w.cell? ⟨R, 2, none⟩ = some (.int .i64 0) := (h.blk.cells 2).trans rfl
  have lR := h.blk.lt
  have fR := h.blk.free 2
  have hle := h.le
  have hlen := h.len
  have hcap := h.cap
  have m1 : IntKind.i64.wrap ((bs.length : Int) - at_) = bs.length - at_ := by rw [IntKind.wrap_i64]; omega
  have d1 : ¬ (bs.length : Int) - at_ < m := by omega
  have HR := Lib.hid h
  clear h
  go_enter Tryz.func174, Tryz.ntmps174
  go_wp2_with fail
  go_quiet (fail)
  have h2 := (HR.out.below (below_drewN' (Below.refl _ _) nq : Below w.heap.size w (w.drewN nq)))
  have c1 : (w.drewN nq).cell? ⟨R, 1, none⟩ = some (.int .i64 at_) := (h2.blk.cells 1).trans rfl
  have c2 : (w.drewN nq).cell? ⟨R, 2, none⟩ = some (.int .i64 0) := (h2.blk.cells 2).trans rfl
  have l2 := h2.blk.lt
  have f2 := h2.blk.free 1
  have hs := h2.move (at_ + m) hm
  have hk : KeepEx w.heap.size [R] w ((w.drewN nq).setCell ⟨R, 1, none⟩ (.int .i64 ((at_ + m : Nat) : Int))) := (KeepEx.of_below (below_drewN' (Below.refl _ _) nq : Below w.heap.size w (w.drewN nq))).trans (KeepEx.setCell _ (.inl (by simp)) _)
  have m2 : IntKind.i64.wrap ((at_ : Int) + m) = (at_ : Int) + m := by rw [IntKind.wrap_i64]; omega
  obtain ⟨w5, hw5⟩ : ∃ w5, (w.drewN nq).setCell ⟨R, 1, none⟩ (.int .i64 ((at_ : Int) + m)) = w5 := ⟨_, rfl⟩
  have e5 : (w.drewN nq).setCell ⟨R, 1, none⟩ (.int .i64 ((at_ + m : Nat) : Int)) = w5 := by rw [← hw5]; push_cast; rfl
  rw [e5] at hs hk
  have k0 : w5.cell? ⟨R, 0, none⟩ = some (.slice (some ⟨b, o, none⟩) bs.length c) := (hs.blk.cells 0).trans rfl
  have k1 : w5.cell? ⟨R, 1, none⟩ = some (.int .i64 ((at_ : Int) + m)) := (hs.blk.cells 1).trans (by push_cast; rfl)
  have lk := hs.blk.lt
  have HS := Lib.hid hs
  have HK := Lib.hid hk
  have HW := Lib.hid hw5
  clear h2 hs hk hw5 e5
  go_upto_region 6 with fail
  rw [HW.out]
  have m3 : IntKind.i64.wrap ((at_ : Int) + m - m) = at_ := by rw [IntKind.wrap_i64]; omega
  have m4 : IntKind.i64.wrap (at_ : Int) = at_ := by rw [IntKind.wrap_i64]; omega
  have s1 : (0 : Int) ≤ (at_ : Int) + m := by omega
  have s2 : (at_ : Int) + m ≤ c := by omega
  have s3 : (at_ : Int) ≤ (at_ : Int) + m := by omega
  have s4 : (0 : Int) ≤ at_ := by omega
  clear m1 m2 d1
  have hq : ∀ q, RdAt (w5.drewN q) R (some ⟨b, o, none⟩) c bs (at_ + m) 0 ∧ KeepEx w.heap.size [R] w (w5.drewN q) := fun q =>
    ⟨HS.out.below (below_drewN' (Below.refl _ _) q), HK.out.trans (KeepEx.of_below ((below_drewN' (Below.refl _ _) q : Below w5.heap.size w5 (w5.drewN q)).mono HK.out.size))⟩
  have hrd : ∀ q, Reads (w5.drewN q) (some ⟨b, o + at_, none⟩) (((bs.drop at_).take m).map (.int .u8)) := fun q => .inr ⟨b, o + at_, rfl, by have := (hq q).2.size; omega, fun j u hu => by
    rcases (hq q).1.rd with hr | ⟨b', o', he, hl', hc'⟩
    · rw [List.map_eq_nil_iff] at hr; rw [hr] at h0; exact absurd h0 (by simp)
    · cases he
      rw [show o + at_ + j = o + (at_ + j) by omega]
      refine hc' (at_ + j) u ?_
      rw [List.getElem?_map] at hu ⊢
      rw [List.getElem?_take] at hu
      split at hu
      · rw [List.getElem?_drop] at hu; exact hu
      · cases hu⟩
  have HQ := Lib.hid hq
  have HRD := Lib.hid hrd
  clear hq hrd
  go_quiet (fail)
  go_wp2_with fail
  · go_ret
    have hm0 : m = 0 := by omega
    refine ⟨_, _, rfl, by omega, ?_, fun a e => by cases e; exact ⟨hbR, hbl⟩, ?_, (HQ.out nq).2⟩
    · rw [hm0, List.take_zero]; exact .inl rfl
    · have hca : c = at_ := by omega
      have h9 := (HQ.out nq).1
      rw [hca] at h9
      exact h9
  · go_ret
    exact ⟨_, _, rfl, by omega, HRD.out nq, fun a e => by cases e; exact ⟨hbR, hbl⟩, (HQ.out nq).1, (HQ.out nq).2⟩
end Go.Proofs.YtjocnooekgnedaaGreatDoor
