/- Parts of the proof, put together by program: J6, J7, J8. -/
import Derived.Test.YtloddiipepiocaaGreatDoorPart14
import Derived.Test.YtloddiipepiocaaGreatDoorPart10
import Derived.Test.YtloddiipepiocaaGreatDoorPart06
import Derived.Deep.DeepFit
set_option linter.unusedVariables false
set_option linter.unusedSimpArgs false
/- Layer 9: record. -/
namespace Go.Proofs.YtloddiipepiocaaGreatDoor
open Go.RowKit Go.Maps

theorem strL_get {s : ByteArray} {k : Nat} (h : k < s.size) : (strL s).getD k 0 = (s[k].toNat : Int) := by
  have h2 : k < s.data.toList.length := by rw [Array.length_toList]; exact h
  unfold strL
  rw [List.getD_eq_getElem?_getD, List.getElem?_map, List.getElem?_eq_getElem h2]
  rfl
theorem run_index_str (s : ByteArray) (i : Int) (k : Nat) (hi : i = (k : Int)) (h : k < s.size) (w : World) : (Instr.index 9 (.string s) (.int .i64 i)).run Tryz.prog w = .ok (.int .u8 ((strL s).getD k 0)) w := by
  subst hi
  rw [run_index_string (P := Tryz.prog) w 9 s .i64 (k : Int) Tryz.underlying9, dif_pos (by omega), strL_get h]
  rfl
def recC (r : Rec) : Array Value := #[.int .i64 r.at_, .int .i64 r.kind, .string r.data]
set_option maxRecDepth 100000 in
set_option maxHeartbeats 1000000 in
theorem record_bad (D : Nat) (F Z : Int) (B : List Nat) (x : DevS) (f : Fr) (w : World) (hbad : f.kind ≠ 2 ∨ f.data.size < 3 ∨ 99 < f.data.size) :
    Calls Tryz.prog 147 #[.pointer (some ⟨D, 0, none⟩), .agg #[.int .i64 F, .int .i64 Z], .agg #[.int .i64 f.kind, .int .u32 f.seq, .string f.data]] w fun e w' => e = .returned (.tuple #[.agg (recC noRec), .bool false]) ∧ Below w.heap.size w w' := by
  unfold noRec recC
  by_cases a1 : f.kind = 2
  by_cases a2 : f.data.size < 3
  rotate_left
  by_cases a3 : 99 < f.data.size
  rotate_left
  · omega
  rotate_left
  all_goals
    first
      | (have hk' : (f.kind != 2) = true := by simpa using a1)
      | (have hk' : (f.kind != 2) = false := by simpa using a1)
    clear hbad a1
    have bR : Blk (((w.alloc (.cells #[.int .i64 F, .int .i64 Z] 101)).alloc (.cells #[.int .i64 f.kind, .int .u32 f.seq, .string f.data] 26)).alloc (.cells #[.int .i64 0, .int .i64 0, .string ⟨#[]⟩] 136)) (w.heap.size + 1 + 1) 136 #[.int .i64 0, .int .i64 0, .string ⟨#[]⟩] := Blk.new' (by simp)
    have cR := bR.cells
    have lR := bR.lt
    go_enter Tryz.func147, Tryz.ntmps147
    go_wp2_with fail
    refine bodyPost_ret (v := .tuple #[.agg #[.int .i64 0, .int .i64 0, .string ⟨#[]⟩], .bool false]) (by simp [results, Tryz.results147, go_sem, cR, lR]) rfl ?_
    exact ⟨rfl, by (repeat' (first | (with_reducible exact Below.refl _ _) | (with_reducible assumption) | (with_reducible refine Below.alloc ?_ ?_ _) | (with_reducible refine Below.drew ?_) | (with_reducible refine below_drewN' ?_ _) | (with_reducible refine Below.setCell ?_ ?_ _) | (with_reducible exact Nat.le_refl _) | omega | (simp; done) | (simp; omega)))⟩

set_option maxRecDepth 100000 in
set_option maxHeartbeats 2000000 in
theorem record_good (D : Nat) (F Z : Int) (hFZ : 0 ≤ F ∧ F ≤ 256 ∧ 0 ≤ Z ∧ Z ≤ 256) (B : List Nat) (x : DevS) (f : Fr) (w : World) (h : DevAt w D B x) (hk : f.kind = 2) (h3 : 3 ≤ f.data.size) (h99 : f.data.size ≤ 99) :
    Calls Tryz.prog 147 #[.pointer (some ⟨D, 0, none⟩), .agg #[.int .i64 F, .int .i64 Z], .agg #[.int .i64 f.kind, .int .u32 f.seq, .string f.data]] w fun e w' => e = .returned (.tuple #[.agg (recC (recOf f)), .bool (recIs x.stable.length F Z f)]) ∧ Below w.heap.size w w' := by
  obtain ⟨fk, fq, fd⟩ := f
  simp only at hk h3 h99
  subst hk
  go_enter Tryz.func147, Tryz.ntmps147
  go_wp2_with fail
  obtain ⟨W, hW⟩ : ∃ W, W = (((w.alloc (.cells #[.int .i64 F, .int .i64 Z] 101)).alloc (.cells #[.int .i64 2, .int .u32 fq, .string fd] 26)).alloc (.cells #[.int .i64 0, .int .i64 0, .string ⟨#[]⟩] 136)) := ⟨_, rfl⟩
  have bJ : Blk W w.heap.size 101 #[.int .i64 F, .int .i64 Z] := by rw [hW]; exact (by (repeat' (first | (with_reducible assumption) | exact Blk.new' (by simp) | refine Blk.alloc ?_ _)))
  have bF : Blk W (w.heap.size + 1) 26 #[.int .i64 2, .int .u32 fq, .string fd] := by rw [hW]; exact (by (repeat' (first | (with_reducible assumption) | exact Blk.new' (by simp) | refine Blk.alloc ?_ _)))
  have bR : Blk W (w.heap.size + 1 + 1) 136 #[.int .i64 0, .int .i64 0, .string ⟨#[]⟩] := by rw [hW]; exact Blk.new' (by simp)
  have hB : Below w.heap.size w W := by rw [hW]; (repeat' (first | (with_reducible exact Below.refl _ _) | (with_reducible assumption) | (with_reducible refine Below.alloc ?_ ?_ _) | (with_reducible refine Below.drew ?_) | (with_reducible refine below_drewN' ?_ _) | (with_reducible refine Below.setCell ?_ ?_ _) | (with_reducible exact Nat.le_refl _) | omega | (simp; done) | (simp; omega)))
  rw [← hW]
  clear hW
  have cF := bF.cells
  have lF := bF.lt
  refine wp_region_still_tail 18 (by kernel_rfl) (by kernel_rfl) ?_
  simp only [List.take_succ_cons, List.take_zero, List.drop_succ_cons, List.drop_zero]
  change wpStill _ _ W.drew _ _ _
  have HREC : Hid (recOf ⟨2, fq, fd⟩ = ⟨bits .or .i64 ((strL fd).getD 0 0) ((strL fd).getD 1 0 * 256), (strL fd).getD 2 0, fd.extract 3 fd.size⟩) := Lib.hid (by unfold recOf; rw [if_neg (by simp only; omega)])
  have HIS : Hid (recIs x.stable.length F Z ⟨2, fq, fd⟩ = (decide ((recOf ⟨2, fq, fd⟩).at_ < x.stable.length) && !insideB F Z (recOf ⟨2, fq, fd⟩).at_ && decide (0 < (recOf ⟨2, fq, fd⟩).kind))) := Lib.hid (by unfold recIs; rw [if_neg (by simp only; omega)])
  have hi0 := run_index_str fd 0 0 rfl (by omega)
  have hi1 := run_index_str fd 1 1 rfl (by omega)
  have hi2 := run_index_str fd 2 2 rfl (by omega)
  have y0 := getD_bytes (strL_bytes fd) 0
  have y1 := getD_bytes (strL_bytes fd) 1
  have y2 := getD_bytes (strL_bytes fd) 2
  have h3i : (3 : Int) ≤ fd.size := by omega
  generalize (strL fd).getD 0 0 = d0 at *
  generalize (strL fd).getD 1 0 = d1 at *
  generalize (strL fd).getD 2 0 = d2 at *
  have hw0 : IntKind.i64.wrap d0 = d0 := by rw [IntKind.wrap_i64]; omega
  have hw1 : IntKind.i64.wrap d1 = d1 := by rw [IntKind.wrap_i64]; omega
  have hw2 : IntKind.i64.wrap d2 = d2 := by rw [IntKind.wrap_i64]; omega
  have hw3 : IntKind.i64.wrap (d1 * 256) = d1 * 256 := by rw [IntKind.wrap_i64]; omega
  repeat still_step
  refine wpStill_nil ?_
  change wpList _ _ _ _ _ W.drew
  clear hi0 hi1 hi2 h3i hw0 hw1 hw2 hw3
  generalize bits BinOp.or IntKind.i64 d0 (d1 * 256) = av at *
  have cR := bR.cells
  have fR := bR.free
  have lR := bR.lt
  go_wp2_with fail
  obtain ⟨V, hV⟩ : ∃ V, V = (((W.setCell ⟨w.heap.size + 1 + 1, 0, none⟩ (.int .i64 av)).setCell ⟨w.heap.size + 1 + 1, 1, none⟩ (.int .i64 d2)).setCell ⟨w.heap.size + 1 + 1, 2, none⟩ (.string (fd.extract 3 fd.size))).drew := ⟨_, rfl⟩
  have bRV : Blk V (w.heap.size + 1 + 1) 136 #[.int .i64 av, .int .i64 d2, .string (fd.extract 3 fd.size)] := by rw [hV]; exact (((bR.set_ 0 _).set_ 1 _).set_ 2 _).drew
  have bJV : Blk V w.heap.size 101 #[.int .i64 F, .int .i64 Z] := by rw [hV]; exact (((bJ.far (by simp; omega) _).far (by simp; omega) _).far (by simp; omega) _).drew
  have hBV : Below w.heap.size w V := by rw [hV]; exact Below.drew (((hB.setCell (by simp; omega) _).setCell (by simp; omega) _).setCell (by simp; omega) _)
  rw [← hV]
  clear hV cR fR lR bR bF cF lF bJ hB
  have hd := h.below hBV
  have hV0 : V.cell? ⟨w.heap.size + 1 + 1, 0, none⟩ = some (.int .i64 av) ∧ V.cell? ⟨w.heap.size + 1 + 1, 1, none⟩ = some (.int .i64 d2) ∧ V.cell? ⟨w.heap.size + 1 + 1, 2, none⟩ = some (.string (fd.extract 3 fd.size)) ∧ V.cell? ⟨w.heap.size, 0, none⟩ = some (.int .i64 F) ∧ V.cell? ⟨w.heap.size, 1, none⟩ = some (.int .i64 Z) := ⟨by rw [bRV.cells]; rfl, by rw [bRV.cells]; rfl, by rw [bRV.cells]; rfl, by rw [bJV.cells]; rfl, by rw [bJV.cells]; rfl⟩
  have lV := bRV.lt
  rw [HREC.out] at HIS
  have HB : ∀ b : Bool, recIs x.stable.length F Z ⟨2, fq, fd⟩ = b → Hid (recIs x.stable.length F Z ⟨2, fq, fd⟩ = b) := fun _ h => Lib.hid h
  have hsd := sectors_dev D B x V.drew hd.drew
  have hid := inside_any F Z av hFZ V.drew
  by_cases c1 : av < x.stable.length
  · have hd1 : decide (av < (x.stable.length : Int)) = true := decide_eq_true c1
    have HE := HB (!insideB F Z av && decide (0 < d2)) (by rw [HIS.out]; simp only [hd1, Bool.true_and])
    clear c1
    refine wp_region_mix [.take 0, .take 1, .take 2, .take 3, .one 4, .take 5, .take 6, .take 7, .take 8, .take 9, .one 10, .take 11, .take 12, .take 13, .take 14, .take 15, .take 16, .take 17, .one 18, .one 19] 20 (fun w' => w'.cell? ⟨w.heap.size + 1 + 1, 0, none⟩ = some (.int .i64 av) ∧ w'.cell? ⟨w.heap.size + 1 + 1, 1, none⟩ = some (.int .i64 d2) ∧ w'.cell? ⟨w.heap.size + 1 + 1, 2, none⟩ = some (.string (fd.extract 3 fd.size)) ∧ w'.cell? ⟨w.heap.size, 0, none⟩ = some (.int .i64 F) ∧ w'.cell? ⟨w.heap.size, 1, none⟩ = some (.int .i64 Z)) (by kernel_rfl) (by kernel_rfl) (fun _ _ _ _ _ h => h) hV0 ?_
    simp only [List.map_cons, List.map_nil, Ms.fill, List.getD_cons_zero, List.getD_cons_succ]
    iterate 4 (refine mixT_take (by rfl) ?_ (fun w' hw' => ?_) ?_; rotate_left; (focus (go_simp; (try with_reducible rfl))); (try simp only [Act.put, List.setIfInBounds_toArray, List.set_cons_zero, List.set_cons_succ]))
    refine mixT_step (by rfl) fun K hK => ?_
    go_simp
    refine hsd.mono ?_
    rintro e w' ⟨rfl, rfl⟩
    refine hK _ _ (fun _ => hV0) ?_
    clear hK K
    iterate 5 (refine mixT_take (by rfl) ?_ (fun w' hw' => ?_) ?_; rotate_left; (focus (go_simp; (try with_reducible rfl))); (try simp only [Act.put, List.setIfInBounds_toArray, List.set_cons_zero, List.set_cons_succ]))
    refine mixT_step (by rfl) fun K hK => ?_
    go_simp
    refine hid.mono ?_
    rintro e w5 ⟨rfl, hb5⟩
    have bR5 := bRV.drew.belowAll hb5
    have bJ5 := bJV.drew.belowAll hb5
    have B5 : Below w.heap.size w w5 := hBV.drew.trans (hb5.mono hBV.size)
    have l5 := bR5.lt
    have h5 : w5.cell? ⟨w.heap.size + 1 + 1, 0, none⟩ = some (.int .i64 av) ∧ w5.cell? ⟨w.heap.size + 1 + 1, 1, none⟩ = some (.int .i64 d2) ∧ w5.cell? ⟨w.heap.size + 1 + 1, 2, none⟩ = some (.string (fd.extract 3 fd.size)) ∧ w5.cell? ⟨w.heap.size, 0, none⟩ = some (.int .i64 F) ∧ w5.cell? ⟨w.heap.size, 1, none⟩ = some (.int .i64 Z) := ⟨by rw [bR5.cells]; rfl, by rw [bR5.cells]; rfl, by rw [bR5.cells]; rfl, by rw [bJ5.cells]; rfl, by rw [bJ5.cells]; rfl⟩
    refine hK _ _ (fun _ => h5) ?_
    clear hK K hsd hid hb5
    have bR6 := ((bR5.set_ 0 (.int .i64 av)).set_ 1 (.int .i64 d2)).set_ 2 (.string (fd.extract 3 fd.size))
    have bJ6 := ((bJ5.far (p := ⟨w.heap.size + 1 + 1, 0, none⟩) (by simp; omega) (.int .i64 av)).far (p := ⟨w.heap.size + 1 + 1, 1, none⟩) (by simp; omega) (.int .i64 d2)).far (p := ⟨w.heap.size + 1 + 1, 2, none⟩) (by simp; omega) (.string (fd.extract 3 fd.size))
    have B6 := ((B5.setCell (p := ⟨w.heap.size + 1 + 1, 0, none⟩) (by simp; omega) (.int .i64 av)).setCell (p := ⟨w.heap.size + 1 + 1, 1, none⟩) (by simp; omega) (.int .i64 d2)).setCell (p := ⟨w.heap.size + 1 + 1, 2, none⟩) (by simp; omega) (.string (fd.extract 3 fd.size))
    have cR5 := bR5.cells
    have fR5 := bR5.free
    obtain ⟨ib, hin⟩ : ∃ ib, insideB F Z av = ib := ⟨_, rfl⟩
    rw [hin] at HE ⊢
    clear hin
    cases ib
    all_goals
      iterate 3 (refine mixT_take (by rfl) ?_ (fun w' hw' => ?_) ?_; rotate_left; (focus (go_simp; (try with_reducible rfl))); (try simp only [Act.put, List.setIfInBounds_toArray, List.set_cons_zero, List.set_cons_succ]))
      first
        | (iterate 3 ((first | (refine mixT_skip (by rfl) ?_) | (refine mixT_pass (by rfl) ?_)); (try simp only [Act.put, List.setIfInBounds_toArray, List.set_cons_zero, List.set_cons_succ])))
        | (iterate 3 (refine mixT_take (by rfl) ?_ (fun w' hw' => ?_) ?_; rotate_left; (focus (go_simp; (try with_reducible rfl))); (try simp only [Act.put, List.setIfInBounds_toArray, List.set_cons_zero, List.set_cons_succ])))
      iterate 1 (refine mixT_take (by rfl) ?_ (fun w' hw' => ?_) ?_; rotate_left; (focus (go_simp; (try with_reducible rfl))); (try simp only [Act.put, List.setIfInBounds_toArray, List.set_cons_zero, List.set_cons_succ]))
      refine mixT_step (by rfl) fun K hK => ?_
      go_simp
      refine hK _ _ (fun _ => ⟨by rw [bR6.cells]; rfl, by rw [bR6.cells]; rfl, by rw [bR6.cells]; rfl, by rw [bJ6.cells]; rfl, by rw [bJ6.cells]; rfl⟩) ?_
      clear hK K
      refine mixT_step (by rfl) fun K hK => ?_
      go_simp
      refine hK _ _ (fun _ => ⟨by rw [bR6.cells]; rfl, by rw [bR6.cells]; rfl, by rw [bR6.cells]; rfl, by rw [bJ6.cells]; rfl, by rw [bJ6.cells]; rfl⟩) ?_
      clear hK K
      refine mixT_nil ?_
      have cR6 := bR6.cells
      have lR6 := bR6.lt
      go_wp2_with fail
      refine bodyPost_ret (v := .tuple #[.agg #[.int .i64 av, .int .i64 d2, .string (fd.extract 3 fd.size)], .bool _]) (by simp [results, Tryz.results147, go_sem, cR6]; try rfl) rfl ?_
      exact ⟨by unfold recC; rw [HREC.out, HE.out] <;> try rfl, B6⟩
  · have hd1 : decide (av < (x.stable.length : Int)) = false := decide_eq_false c1
    have HE := HB false (by rw [HIS.out]; simp only [hd1, Bool.false_and])
    clear c1
    refine wp_region_mix [.take 0, .take 1, .take 2, .take 3, .one 4, .take 5, .take 6, .take 7, .take 8, .take 9, .one 10, .take 11, .take 12, .take 13, .take 14, .take 15, .take 16, .take 17, .one 18, .one 19] 20 (fun w' => w'.cell? ⟨w.heap.size + 1 + 1, 0, none⟩ = some (.int .i64 av) ∧ w'.cell? ⟨w.heap.size + 1 + 1, 1, none⟩ = some (.int .i64 d2) ∧ w'.cell? ⟨w.heap.size + 1 + 1, 2, none⟩ = some (.string (fd.extract 3 fd.size)) ∧ w'.cell? ⟨w.heap.size, 0, none⟩ = some (.int .i64 F) ∧ w'.cell? ⟨w.heap.size, 1, none⟩ = some (.int .i64 Z)) (by kernel_rfl) (by kernel_rfl) (fun _ _ _ _ _ h => h) hV0 ?_
    simp only [List.map_cons, List.map_nil, Ms.fill, List.getD_cons_zero, List.getD_cons_succ]
    iterate 4 (refine mixT_take (by rfl) ?_ (fun w' hw' => ?_) ?_; rotate_left; (focus (go_simp; (try with_reducible rfl))); (try simp only [Act.put, List.setIfInBounds_toArray, List.set_cons_zero, List.set_cons_succ]))
    refine mixT_step (by rfl) fun K hK => ?_
    go_simp
    refine hsd.mono ?_
    rintro e w' ⟨rfl, rfl⟩
    refine hK _ _ (fun _ => hV0) ?_
    clear hK K
    iterate 2 (refine mixT_take (by rfl) ?_ (fun w' hw' => ?_) ?_; rotate_left; (focus (go_simp; (try with_reducible rfl))); (try simp only [Act.put, List.setIfInBounds_toArray, List.set_cons_zero, List.set_cons_succ]))
    iterate 5 ((first | (refine mixT_skip (by rfl) ?_) | (refine mixT_pass (by rfl) ?_)); (try simp only [Act.put, List.setIfInBounds_toArray, List.set_cons_zero, List.set_cons_succ]))
    iterate 2 (refine mixT_take (by rfl) ?_ (fun w' hw' => ?_) ?_; rotate_left; (focus (go_simp; (try with_reducible rfl))); (try simp only [Act.put, List.setIfInBounds_toArray, List.set_cons_zero, List.set_cons_succ]))
    iterate 3 ((first | (refine mixT_skip (by rfl) ?_) | (refine mixT_pass (by rfl) ?_)); (try simp only [Act.put, List.setIfInBounds_toArray, List.set_cons_zero, List.set_cons_succ]))
    iterate 1 (refine mixT_take (by rfl) ?_ (fun w' hw' => ?_) ?_; rotate_left; (focus (go_simp; (try with_reducible rfl))); (try simp only [Act.put, List.setIfInBounds_toArray, List.set_cons_zero, List.set_cons_succ]))
    have bR6 := (((bRV.set_ 0 (.int .i64 av)).set_ 1 (.int .i64 d2)).set_ 2 (.string (fd.extract 3 fd.size))).drew
    have bJ6 := (((bJV.far (p := ⟨w.heap.size + 1 + 1, 0, none⟩) (by simp; omega) (.int .i64 av)).far (p := ⟨w.heap.size + 1 + 1, 1, none⟩) (by simp; omega) (.int .i64 d2)).far (p := ⟨w.heap.size + 1 + 1, 2, none⟩) (by simp; omega) (.string (fd.extract 3 fd.size))).drew
    have B6 := Below.drew (((hBV.setCell (p := ⟨w.heap.size + 1 + 1, 0, none⟩) (by simp; omega) (.int .i64 av)).setCell (p := ⟨w.heap.size + 1 + 1, 1, none⟩) (by simp; omega) (.int .i64 d2)).setCell (p := ⟨w.heap.size + 1 + 1, 2, none⟩) (by simp; omega) (.string (fd.extract 3 fd.size)))
    have cRV := bRV.cells
    have fRV := bRV.free
    focus
      refine mixT_step (by rfl) fun K hK => ?_
      go_simp
      refine hK _ _ (fun _ => ⟨by rw [bR6.cells]; rfl, by rw [bR6.cells]; rfl, by rw [bR6.cells]; rfl, by rw [bJ6.cells]; rfl, by rw [bJ6.cells]; rfl⟩) ?_
      clear hK K
      refine mixT_step (by rfl) fun K hK => ?_
      go_simp
      refine hK _ _ (fun _ => ⟨by rw [bR6.cells]; rfl, by rw [bR6.cells]; rfl, by rw [bR6.cells]; rfl, by rw [bJ6.cells]; rfl, by rw [bJ6.cells]; rfl⟩) ?_
      clear hK K
      refine mixT_nil ?_
      have cR6 := bR6.cells
      have lR6 := bR6.lt
      go_wp2_with fail
      refine bodyPost_ret (v := .tuple #[.agg #[.int .i64 av, .int .i64 d2, .string (fd.extract 3 fd.size)], .bool false]) (by simp [results, Tryz.results147, go_sem, cR6]) rfl ?_
      exact ⟨by unfold recC; rw [HREC.out, HE.out] <;> try rfl, B6⟩

end Go.Proofs.YtloddiipepiocaaGreatDoor
/- Layer 9: sets of places, runs in memory. -/
namespace Go.Proofs.YtloddiipepiocaaGreatDoor
open Go.RowKit Go.Maps

/-- The set of places that were met. -/
def placesD (l : List Int) : DataW Unit := l.foldl (fun D a => D.put (.int .i64 a) (.lit (.bool true))) (.map [])
theorem placesD_snoc (l : List Int) (a : Int) : placesD (l ++ [a]) = (placesD l).put (.int .i64 a) (.lit (.bool true)) := by
  unfold placesD; rw [List.foldl_append]; rfl
theorem placesD_isMap (l : List Int) : IsMap (placesD l) := by
  unfold placesD
  have : ∀ D : DataW Unit, IsMap D → IsMap (l.foldl (fun D a => D.put (.int .i64 a) (.lit (.bool true))) D) := by
    induction l with
    | nil => exact fun D h => h
    | cons a r ih => exact fun D h => ih _ (h.put _ _)
  exact this _ isMap_empty
theorem placesD_at (l : List Int) (a : Int) : (placesD l).atKey (.int .i64 a) (.lit (.bool false)) = .lit (.bool (decide (a ∈ l))) := by
  have key : ∀ (n : Nat) (l : List Int), l.length = n → (placesD l).atKey (.int .i64 a) (.lit (.bool false)) = .lit (.bool (decide (a ∈ l))) := by
    intro n
    induction n with
    | zero =>
      intro l h
      obtain rfl := List.eq_nil_of_length_eq_zero h
      rfl
    | succ n ih =>
      intro l h
      have hne : l ≠ [] := by intro e; subst e; cases h
      rw [← List.dropLast_concat_getLast hne, placesD_snoc]
      have hd := ih l.dropLast (by rw [List.length_dropLast]; omega)
      by_cases e : l.getLast hne = a
      · rw [e, atKey_put_same (placesD_isMap _) (show WideAt.IsKeyLit (.int .i64 a) from trivial)]
        simp
      · rw [atKey_put_other (by intro x; cases x; exact e rfl), hd]
        have e' : ¬ a = l.getLast hne := fun h => e h.symm
        simp [e']
  exact key _ l rfl

theorem plainElem_bool_inv {P : Program} {e : TypeId} (he : P.underlying e = some .bool) {v : Value} {z : DataW Unit × List MemPlace} (h : plainElem P e v = some z) : ∃ b, v = .bool b ∧ z = (.lit (.bool b), []) := by
  unfold plainElem at h
  rw [he] at h
  cases v <;> simp at h
  subst h
  exact ⟨_, rfl, rfl⟩
abbrev PlacesAt (w : World) (M n : Nat) (l : List Int) : Prop := w.ownsMap Tryz.prog 3 (plainElem Tryz.prog 4) M n (placesD l)
theorem wf_i64 {a : Int} (h : -9223372036854775808 ≤ a ∧ a ≤ 9223372036854775807) : (Lit.int .i64 a).wf = true := by
  simp [Lit.wf, IntKind.min, IntKind.max, IntKind.signed, IntKind.bits]; omega
theorem PlacesAt.look {w : World} {M n : Nat} {l : List Int} (h : PlacesAt w M n l) {a : Int} (ha : -9223372036854775808 ≤ a ∧ a ≤ 9223372036854775807) : (Instr.lookup 220 (.map (some M)) (.int .i64 a) false).run Tryz.prog w = .ok (.bool (decide (a ∈ l))) w := by
  have hz : (zeroValue 4).run Tryz.prog w = .ok (.bool false) w := by kernel_rfl
  obtain ⟨v, ps, hrun, hv⟩ := World.ownsMap.lookup h keyInt Tryz.underlying220 hz (plainElem_bool Tryz.underlying4 false) (keyOf_int_mk Tryz.underlying3 (wf_i64 ha))
  rw [placesD_at] at hv
  obtain ⟨b, rfl, hb⟩ := plainElem_bool_inv Tryz.underlying4 hv
  simp only [Prod.mk.injEq, DataW.lit.injEq, Lit.bool.injEq] at hb
  rw [hrun, hb.1]
theorem PlacesAt.add {w : World} {M n : Nat} {l : List Int} (h : PlacesAt w M n l) (hn : n < maxLen) {a : Int} (ha : -9223372036854775808 ≤ a ∧ a ≤ 9223372036854775807) : ∃ w', (Instr.mapUpdate 220 (.map (some M)) (.int .i64 a) (.bool true)).run Tryz.prog w = .ok () w' ∧ PlacesAt w' M (n + 1) (l ++ [a]) ∧ w.grownBy w' (some M) := by
  obtain ⟨w', h1, h2, h3⟩ := World.ownsMap.update h keyInt Tryz.underlying220 hn (keyOf_int_mk Tryz.underlying3 (wf_i64 ha)) (plainElem_bool Tryz.underlying4 true)
  refine ⟨w', h1, ?_, h3⟩
  unfold PlacesAt
  rw [placesD_snoc]
  exact h2

/-- A run as it lies in memory. -/
def RunAt (w : World) (A : Option Addr) (l : List Rec) : Prop := Reads w A (l.flatMap recV)
theorem RunAt.at_ {w : World} {A : Option Addr} {l : List Rec} (h : RunAt w A l) {k : Nat} (hk : k < l.length) :
    ∃ b off, A = some ⟨b, off, none⟩ ∧ b < w.heap.size ∧ w.cell? ⟨b, off + k * 3, none⟩ = some (.int .i64 l[k].at_) ∧ w.cell? ⟨b, off + k * 3 + 1, none⟩ = some (.int .i64 l[k].kind) ∧ w.cell? ⟨b, off + k * 3 + 2, none⟩ = some (.string l[k].data) := by
  rcases h with h | ⟨b, off, hA, hlt, hc⟩
  · exfalso
    have := flat_get (f := recV) (m := 3) (fun _ _ => rfl) (i := k) (j := 0) (by omega) hk
    rw [h] at this
    simp [recV] at this
  · refine ⟨b, off, hA, hlt, ?_, ?_, ?_⟩
    · exact hc (k * 3) _ (by have := flat_get (f := recV) (m := 3) (fun _ _ => rfl) (i := k) (j := 0) (by omega) hk; simpa [recV] using this)
    · rw [Nat.add_assoc]
      exact hc (k * 3 + 1) _ (by have := flat_get (f := recV) (m := 3) (fun _ _ => rfl) (i := k) (j := 1) (by omega) hk; simpa [recV] using this)
    · rw [Nat.add_assoc]
      exact hc (k * 3 + 2) _ (by have := flat_get (f := recV) (m := 3) (fun _ _ => rfl) (i := k) (j := 2) (by omega) hk; simpa [recV] using this)
/-- Records that Go can hold. -/
def RecsOk (l : List Rec) : Prop := l.length ≤ 1000 ∧ ∀ r ∈ l, (-9223372036854775808 ≤ r.at_ ∧ r.at_ ≤ 9223372036854775807) ∧ r.data.size ≤ maxLen

theorem valid_stop {n F Z : Int} {l : List Rec} {k m : Nat} (h : validTo n F Z l k ≠ 0) (hm : k ≤ m) : validTo n F Z l m = validTo n F Z l k := by
  induction m with
  | zero => have e : k = 0 := by omega
            rw [e]
  | succ m ih =>
    by_cases e : k = m + 1
    · rw [e]
    · have ih := ih (by omega)
      show (if validTo n F Z l m ≠ 0 then validTo n F Z l m else _) = _
      rw [ih, if_pos h]
theorem valid_step {n F Z : Int} {l : List Rec} {k : Nat} (h : validTo n F Z l k = 0) (hk : k < l.length) : validTo n F Z l (k + 1) = recE n F Z (l.take k) l[k] := by
  show (if validTo n F Z l k ≠ 0 then _ else _) = _
  rw [if_neg (by rw [h]; simp)]
  simp [List.getD_eq_getElem?_getD, hk]

end Go.Proofs.YtloddiipepiocaaGreatDoor
/- Layer 9: valid. -/
namespace Go.Proofs.YtloddiipepiocaaGreatDoor
open Go.RowKit Go.Maps

set_option maxRecDepth 100000 in
set_option maxHeartbeats 2000000 in
theorem valid_dev (D : Nat) (F Z : Int) (hFZ : 0 ≤ F ∧ F ≤ 256 ∧ 0 ≤ Z ∧ Z ≤ 256) (B : List Nat) (x : DevS) (A : Option Addr) (c : Nat) (l : List Rec) (hok : RecsOk l) (w : World) (h : DevAt w D B x) (hr : RunAt w A l) :
    Calls Tryz.prog 162 #[.pointer (some ⟨D, 0, none⟩), .agg #[.int .i64 F, .int .i64 Z], .slice A l.length c] w fun e w' => e = .returned (.int .i64 (validE x.stable.length F Z l)) ∧ Below w.heap.size w w' := by
  have hhi := h.ok.hi
  have hl1 := hok.1
  have bJ : Blk (w.alloc (.cells #[.int .i64 F, .int .i64 Z] 101)) w.heap.size 101 #[.int .i64 F, .int .i64 Z] := Blk.new _ _ _
  have hmo := most_any F Z (by omega) (w.alloc (.cells #[.int .i64 F, .int .i64 Z] 101))
  have hmz : mostN Z ≤ 80 := by unfold mostN; omega
  go_enter Tryz.func162, Tryz.ntmps162
  go_wp2_with fail
  refine hmo.mono ?_
  rintro e w1 ⟨rfl, hb1⟩
  have bJ1 := bJ.belowAll hb1
  have B1 := below1 hb1
  have Z1 := B1.size
  have lJ1 := bJ1.lt
  clear hmo hb1 bJ
  by_cases hm : mostN Z < l.length
  · have HE : Hid (validE x.stable.length F Z l = 12) := Lib.hid (by unfold validE; rw [if_pos hm])
    go_wp2_with fail
    go_ret
    exact ⟨by rw [HE.out]; rfl, B1⟩
  have HE : Hid (validE x.stable.length F Z l = validTo x.stable.length F Z l l.length) := Lib.hid (by unfold validE; rw [if_neg hm])
  have hmm := @run_makeMap Tryz.prog
  go_wp2_with fail
  clear hmm hm
  have hp0 : PlacesAt (w1.alloc (.map #[] 0)) w1.heap.size 0 ((l.take 0).map (·.at_)) := World.ownsMap_made _ _ _ _
  have B2 : Below w.heap.size w (w1.alloc (.map #[] 0)) := B1.alloc Z1 _
  have bJ2 : Blk (w1.alloc (.map #[] 0)) w.heap.size 101 #[.int .i64 F, .int .i64 Z] := bJ1.alloc _
  have nJM : w.heap.size ≠ w1.heap.size := by omega
  obtain ⟨M, hM⟩ : ∃ M, M = w1.heap.size := ⟨_, rfl⟩
  obtain ⟨W2, hW2⟩ : ∃ W2, W2 = w1.alloc (.map #[] 0) := ⟨_, rfl⟩
  have hMw : w.heap.size ≤ M := by omega
  rw [← hM] at hp0 nJM ⊢
  rw [← hW2] at hp0 B2 bJ2 ⊢
  clear hM hW2 B1 bJ1 lJ1 Z1
  go_loopw [9, 18] (fun _ q wr => ∃ k : Nat, k ≤ l.length ∧ q = .int .i64 k ∧ validTo x.stable.length F Z l k = 0 ∧ PlacesAt wr M k ((l.take k).map (·.at_)) ∧ Blk wr w.heap.size 101 #[.int .i64 F, .int .i64 Z] ∧ Below w.heap.size w wr) (fun _ q _ => l.length - (intOf q).toNat)
  case atStart => exact ⟨0, Nat.zero_le _, rfl, rfl, hp0, bJ2, B2⟩
  case round =>
    obtain ⟨k, hk, rfl, hv, hp, bJ, hB⟩ := hrel
    by_cases hlt : k < l.length
    · obtain ⟨b, off, rfl, hbl, c0, c1, c2⟩ := RunAt.at_ (Reads.below hr hB) hlt
      have hst := valid_step hv hlt
      have hrk := (hok.2 _ (List.getElem_mem hlt)).1
      have hrs := (hok.2 _ (List.getElem_mem hlt)).2
      unfold maxLen at hrs
      have HSN : Hid ((l.take (k + 1)).map (·.at_) = (l.take k).map (·.at_) ++ [l[k].at_]) := Lib.hid (by rw [List.take_succ_eq_append_getElem hlt, List.map_append]; rfl)
      have HFI : Hid (validTo x.stable.length F Z l (k + 1) ≠ 0 → validTo x.stable.length F Z l l.length = validTo x.stable.length F Z l (k + 1)) := Lib.hid (fun hne => valid_stop hne (by omega))
      rw [hst] at HFI
      have HST := Lib.hid hst
      clear hst
      generalize l[k] = r at *
      obtain ⟨av, kv, sv⟩ := r
      simp only at c0 c1 c2 hrk hrs
      have hin := inside_any F Z av hFZ (wr.alloc (.cells #[.int .i64 av, .int .i64 kv, .string sv] 136))
      have hrec := show recE x.stable.length F Z (l.take k) ⟨av, kv, sv⟩ = _ from rfl
      have HRE : Hid (recE x.stable.length F Z (l.take k) ⟨av, kv, sv⟩ = if F ≤ av ∧ av < F + Z then 2 else if av < 0 ∨ (x.stable.length : Int) ≤ av ∨ kv < 1 ∨ 255 < kv then 7 else if 96 < sv.size then 3 else if av ∈ (l.take k).map (·.at_) then 8 else 0) := Lib.hid rfl
      clear hrec
      have HV := Lib.hid hv
      clear hv
      have bR0 : Blk (wr.alloc (.cells #[.int .i64 av, .int .i64 kv, .string sv] 136)) wr.heap.size 136 #[.int .i64 av, .int .i64 kv, .string sv] := Blk.new _ _ _
      have zr := hB.size
      have cJ := bJ.cells
      have lJ := bJ.lt
      go_wp2_with fail
      refine hin.mono ?_
      rintro e w4 ⟨rfl, hb4⟩
      have bR := bR0.belowAll hb4
      have bJ4 := (bJ.alloc _).belowAll hb4
      have hlM := hp.lt
      have hp4 : PlacesAt w4 M k ((l.take k).map (·.at_)) := map_block (hp.alloc _) (hb4.block M (by simp; omega))
      have hB4 : Below w.heap.size w w4 := (hB.alloc zr _).trans (hb4.mono (by simp; omega))
      have hd4 := h.below hB4
      clear hb4 hin bR0 c0 c1 c2 cJ lJ hp bJ
      have cR := bR.cells
      have lR := bR.lt
      by_cases hin : F ≤ av ∧ av < F + Z
      · have hib : insideB F Z av = true := by unfold insideB; simp; exact hin
        have HE2 : Hid (recE x.stable.length F Z (l.take k) ⟨av, kv, sv⟩ = 2) := Lib.hid (by rw [HRE.out, if_pos hin])
        rw [hib]
        clear hin hib
        go_wp2_with fail
        go_ret
        exact ⟨by rw [HE.out, HFI.out (by rw [HE2.out]; decide), HE2.out]; rfl, hB4⟩
      have hib : insideB F Z av = false := by unfold insideB; simp; omega
      rw [hib]
      have HR2 := HRE.out
      rw [if_neg hin] at HR2
      have HRE := Lib.hid HR2
      clear HR2 hin hib
      by_cases hb : av < 0 ∨ (x.stable.length : Int) ≤ av ∨ kv < 1 ∨ 255 < kv
      · have HE2 : Hid (recE x.stable.length F Z (l.take k) ⟨av, kv, sv⟩ = 7) := Lib.hid (by rw [HRE.out, if_pos hb])
        by_cases b1 : av < 0
        rotate_left
        by_cases b2 : (x.stable.length : Int) ≤ av
        rotate_left
        by_cases b3 : kv < 1
        rotate_left
        by_cases b4 : 255 < kv
        rotate_left
        · exfalso; omega
        all_goals
          clear hb
          (try (have d1 : decide (av < 0) = false := decide_eq_false (by omega)))
          (try (have d1 : decide (av < 0) = true := decide_eq_true (by omega)))
          (try (have d2 : decide ((x.stable.length : Int) ≤ av) = false := decide_eq_false (by omega)))
          (try (have d2 : decide ((x.stable.length : Int) ≤ av) = true := decide_eq_true (by omega)))
          (try (have d3 : decide (kv < 1) = false := decide_eq_false (by omega)))
          (try (have d3 : decide (kv < 1) = true := decide_eq_true (by omega)))
          (try (have d4 : decide (255 < kv) = false := decide_eq_false (by omega)))
          (try (have d4 : decide (255 < kv) = true := decide_eq_true (by omega)))
          go_wp2_with fail
          go_quiet ((go_at_call 91; exact Calls.quiet_of_same (sectors_dev D B x _ (hd4.drewN _))))
          go_wp2_with fail
          go_ret
          exact ⟨by rw [HE.out, HFI.out (by rw [HE2.out]; decide), HE2.out]; rfl, below_drewN' hB4 _⟩
      · have HR2 := HRE.out
        rw [if_neg hb] at HR2
        have HRE := Lib.hid HR2
        clear HR2
        have d1 : decide (av < 0) = false := by simp; omega
        have d2 : decide ((x.stable.length : Int) ≤ av) = false := by simp; omega
        have d3 : decide (kv < 1) = false := by simp; omega
        have d4 : decide (255 < kv) = false := by simp; omega
        go_wp2_with fail
        go_quiet ((go_at_call 91; exact Calls.quiet_of_same (sectors_dev D B x _ (hd4.drewN _))))
        have hp5 : PlacesAt (w4.drewN nq) M k ((l.take k).map (·.at_)) := hp4
        have bJ5 : Blk (w4.drewN nq) w.heap.size 101 #[.int .i64 F, .int .i64 Z] := bJ4
        have bR5 : Blk (w4.drewN nq) wr.heap.size 136 #[.int .i64 av, .int .i64 kv, .string sv] := bR
        have hB5 := below_drewN' hB4 nq
        generalize w4.drewN nq = w5 at *
        clear hp4 bJ4 bR hB4 hd4 cR lR d1 d2 d3 d4
        have cR := bR5.cells
        have lR := bR5.lt
        by_cases hs : 96 < sv.size
        · have HE2 : Hid (recE x.stable.length F Z (l.take k) ⟨av, kv, sv⟩ = 3) := Lib.hid (by rw [HRE.out, if_pos hs])
          have hs' : (96 : Int) < sv.size := by omega
          go_wp2_with fail
          go_ret
          exact ⟨by rw [HE.out, HFI.out (by rw [HE2.out]; decide), HE2.out]; rfl, hB5⟩
        have hs' : (sv.size : Int) ≤ 96 := by omega
        have hlk := hp5.look hrk
        by_cases hm : av ∈ (l.take k).map (·.at_)
        · have HE2 : Hid (recE x.stable.length F Z (l.take k) ⟨av, kv, sv⟩ = 8) := Lib.hid (by rw [HRE.out, if_neg hs, if_pos hm])
          rw [decide_eq_true hm] at hlk
          clear hm hs
          go_wp2_with fail
          go_ret
          exact ⟨by rw [HE.out, HFI.out (by rw [HE2.out]; decide), HE2.out]; rfl, hB5⟩
        · have HE2 : Hid (validTo x.stable.length F Z l (k + 1) = 0) := Lib.hid (by rw [HST.out, HRE.out, if_neg hs, if_neg hm])
          rw [decide_eq_false hm] at hlk
          obtain ⟨w6, hrun6, hp6, hg6⟩ := hp5.add (by simp only [maxLen]; omega) hrk
          have bJ6 := bJ5.grown hg6 (by simp; exact nJM)
          have hB6 := hB5.grown hg6 hB5.size (by intro q hq; cases hq; exact hMw)
          clear hm hs bJ5 hg6 hp5
          go_wp2_with fail
          go_roundw
          case rel => exact ⟨k + 1, by omega, by go_num, HE2.out, by rw [HSN.out]; exact hp6, bJ6, hB6⟩
          case measure => simp [intOf]; omega
    · obtain rfl : k = l.length := by omega
      have HV := Lib.hid hv
      clear hv hp
      go_wp2_with fail
      go_ret
      exact ⟨by rw [HE.out, HV.out]; rfl, hB⟩

end Go.Proofs.YtloddiipepiocaaGreatDoor
