/- Parts of the proof, put together by program: J5, J6. -/
import Derived.Test.YtljmdcegcckblaaGreatDoorQuart12
import Derived.Test.YtljmdcegcckblaaGreatDoorQuart08
import Derived.Test.YtljmdcegcckblaaGreatDoorQuart06
import Derived.Deep.DeepFit
/- Layer 9: inside, most, short, broken; slices.Contains. -/
namespace Go.Proofs.YtljmdcegcckblaaGreatDoor
open Go.RowKit Go.Maps

set_option maxRecDepth 100000 in
set_option maxHeartbeats 400000 in
theorem index_int (A : Option Addr) (c : Nat) (xs : List Int) (hl : xs.length ≤ 1000000) (v : Int) (w : World) (hX : Reads w A (xs.map (.int .i64))) :
    Calls Tryz.prog 132 #[.slice A xs.length c, .int .i64 v] w fun e w' => (∃ i : Int, e = .returned (.int .i64 i) ∧ decide (0 ≤ i) = decide (v ∈ xs)) ∧ w' = w := by
  go_enter Tryz.func132, Tryz.ntmps132
  go_wp2_with fail
  go_loopw [4, 5, 8] (fun _ _ q wr => ∃ k : Nat, k ≤ xs.length ∧ q = .int .i64 k ∧ (∀ j, j < k → xs.getD j 0 ≠ v) ∧ wr = w) (fun _ _ q _ => xs.length - (intOf q).toNat)
  case atStart => exact ⟨0, Nat.zero_le _, rfl, fun j h => absurd h (by omega), rfl⟩
  case round =>
    obtain ⟨k, hk, rfl, hne, hw⟩ := hrel
    subst hw
    by_cases hlt : k < xs.length
    · obtain ⟨b, off, rfl, hb, hc⟩ := hX.at_ (k := k) (by simpa using hlt)
      rw [List.getElem_map] at hc
      by_cases he : v = xs[k]
      · have hm : v ∈ xs := by rw [he]; exact List.getElem_mem hlt
        have he' : (v == xs[k]) = true := by simpa using he
        generalize xs[k] = y at hc he'
        have HM := Lib.hid hm
        clear he hm hne
        go_wp2_with fail
        go_ret
        exact ⟨⟨k, rfl, by simp [HM.out]⟩, rfl⟩
      · have he' : (v == xs[k]) = false := by simpa using he
        have hs : Hid (∀ j, j < k + 1 → xs.getD j 0 ≠ v) := Lib.hid (by
          intro j hj
          by_cases e : j = k
          · subst e; simp [List.getD_eq_getElem?_getD, hlt]; exact fun h => he h.symm
          · exact hne j (by omega))
        generalize xs[k] = y at hc he'
        clear he hne
        go_wp2_with fail
        go_roundw
        case rel => exact ⟨k + 1, by omega, by go_num, hs.out, by first | trivial | rfl⟩
        case measure => simp [intOf]; omega
    · obtain rfl : k = xs.length := by omega
      have hm : v ∉ xs := by
        intro h
        obtain ⟨i, hi, rfl⟩ := List.mem_iff_getElem.1 h
        exact hne i hi (by simp [List.getD_eq_getElem?_getD, hi])
      have HM := Lib.hid hm
      clear hm hne
      go_wp2_with fail
      go_ret
      exact ⟨⟨-1, rfl, by simp [HM.out]⟩, rfl⟩
set_option maxRecDepth 100000 in
set_option maxHeartbeats 400000 in
theorem contains_int (A : Option Addr) (c : Nat) (xs : List Int) (hl : xs.length ≤ 1000000) (v : Int) (w : World) (hX : Reads w A (xs.map (.int .i64))) :
    Calls Tryz.prog 87 #[.slice A xs.length c, .int .i64 v] w fun e w' => e = .returned (.bool (decide (v ∈ xs))) ∧ w' = w := by
  go_enter Tryz.func87, Tryz.ntmps87
  go_wp2_with fail
  refine (index_int A c xs hl v w hX).mono ?_
  rintro e w1 ⟨⟨i, rfl, hi⟩, rfl⟩
  go_wp2_with fail
  go_ret
  exact ⟨by rw [← hi]; rfl, rfl⟩
set_option maxRecDepth 100000 in
set_option maxHeartbeats 400000 in
theorem index_err (A : Option Addr) (c : Nat) (xs : List Int) (hl : xs.length ≤ 1000000) (v : Int) (w : World) (hX : Reads w A (xs.map (.int .i64))) :
    Calls Tryz.prog 160 #[.slice A xs.length c, .int .i64 v] w fun e w' => (∃ i : Int, e = .returned (.int .i64 i) ∧ decide (0 ≤ i) = decide (v ∈ xs)) ∧ w' = w := by
  go_enter Tryz.func160, Tryz.ntmps160
  go_wp2_with fail
  go_loopw [4, 5, 8] (fun _ _ q wr => ∃ k : Nat, k ≤ xs.length ∧ q = .int .i64 k ∧ (∀ j, j < k → xs.getD j 0 ≠ v) ∧ wr = w) (fun _ _ q _ => xs.length - (intOf q).toNat)
  case atStart => exact ⟨0, Nat.zero_le _, rfl, fun j h => absurd h (by omega), rfl⟩
  case round =>
    obtain ⟨k, hk, rfl, hne, hw⟩ := hrel
    subst hw
    by_cases hlt : k < xs.length
    · obtain ⟨b, off, rfl, hb, hc⟩ := hX.at_ (k := k) (by simpa using hlt)
      rw [List.getElem_map] at hc
      by_cases he : v = xs[k]
      · have hm : v ∈ xs := by rw [he]; exact List.getElem_mem hlt
        have he' : (v == xs[k]) = true := by simpa using he
        generalize xs[k] = y at hc he'
        have HM := Lib.hid hm
        clear he hm hne
        go_wp2_with fail
        go_ret
        exact ⟨⟨k, rfl, by simp [HM.out]⟩, rfl⟩
      · have he' : (v == xs[k]) = false := by simpa using he
        have hs : Hid (∀ j, j < k + 1 → xs.getD j 0 ≠ v) := Lib.hid (by
          intro j hj
          by_cases e : j = k
          · subst e; simp [List.getD_eq_getElem?_getD, hlt]; exact fun h => he h.symm
          · exact hne j (by omega))
        generalize xs[k] = y at hc he'
        clear he hne
        go_wp2_with fail
        go_roundw
        case rel => exact ⟨k + 1, by omega, by go_num, hs.out, by first | trivial | rfl⟩
        case measure => simp [intOf]; omega
    · obtain rfl : k = xs.length := by omega
      have hm : v ∉ xs := by
        intro h
        obtain ⟨i, hi, rfl⟩ := List.mem_iff_getElem.1 h
        exact hne i hi (by simp [List.getD_eq_getElem?_getD, hi])
      have HM := Lib.hid hm
      clear hm hne
      go_wp2_with fail
      go_ret
      exact ⟨⟨-1, rfl, by simp [HM.out]⟩, rfl⟩
set_option maxRecDepth 100000 in
set_option maxHeartbeats 400000 in
theorem contains_err (A : Option Addr) (c : Nat) (xs : List Int) (hl : xs.length ≤ 1000000) (v : Int) (w : World) (hX : Reads w A (xs.map (.int .i64))) :
    Calls Tryz.prog 157 #[.slice A xs.length c, .int .i64 v] w fun e w' => e = .returned (.bool (decide (v ∈ xs))) ∧ w' = w := by
  go_enter Tryz.func157, Tryz.ntmps157
  go_wp2_with fail
  refine (index_err A c xs hl v w hX).mono ?_
  rintro e w1 ⟨⟨i, rfl, hi⟩, rfl⟩
  go_wp2_with fail
  go_ret
  exact ⟨by rw [← hi]; rfl, rfl⟩

set_option maxRecDepth 100000 in
set_option maxHeartbeats 400000 in
theorem inside_any (F Z a : Int) (h : 0 ≤ F ∧ F ≤ 256 ∧ 0 ≤ Z ∧ Z ≤ 256) (w : World) :
    Calls Tryz.prog 146 #[.agg #[.int .i64 F, .int .i64 Z], .int .i64 a] w fun e w' => e = .returned (.bool (insideB F Z a)) ∧ Below w.heap.size w w' := by
  have hw : IntKind.i64.wrap (F + Z) = F + Z := by rw [IntKind.wrap_i64]; omega
  by_cases a1 : a < F
  rotate_left
  by_cases a2 : a < F + Z
  rotate_left
  all_goals
    first
      | (have HE : Hid (insideB F Z a = true) := Lib.hid (by unfold insideB; simp; omega))
      | (have HE : Hid (insideB F Z a = false) := Lib.hid (by unfold insideB; simp; omega))
    go_enter Tryz.func146, Tryz.ntmps146
    go_wp2_with fail
    go_ret
    exact ⟨by rw [HE.out]; rfl, by (repeat' (first | (with_reducible exact Below.refl _ _) | (with_reducible assumption) | (with_reducible refine Below.alloc ?_ ?_ _) | (with_reducible refine Below.drew ?_) | (with_reducible refine below_drewN' ?_ _) | (with_reducible refine Below.setCell ?_ ?_ _) | (with_reducible exact Nat.le_refl _) | omega | (simp; done) | (simp; omega)))⟩
set_option maxRecDepth 100000 in
set_option maxHeartbeats 400000 in
theorem most_any (F Z : Int) (h : 0 ≤ Z ∧ Z ≤ 256) (w : World) :
    Calls Tryz.prog 145 #[.agg #[.int .i64 F, .int .i64 Z]] w fun e w' => e = .returned (.int .i64 (mostN Z)) ∧ Below w.heap.size w w' := by
  have hw : IntKind.i64.wrap (Z - 2) = Z - 2 := by rw [IntKind.wrap_i64]; omega
  unfold mostN
  go_enter Tryz.func145, Tryz.ntmps145
  go_wp2_with fail
  go_ret
  exact ⟨rfl, by (repeat' (first | (with_reducible exact Below.refl _ _) | (with_reducible assumption) | (with_reducible refine Below.alloc ?_ ?_ _) | (with_reducible refine Below.drew ?_) | (with_reducible refine below_drewN' ?_ _) | (with_reducible refine Below.setCell ?_ ?_ _) | (with_reducible exact Nat.le_refl _) | omega | (simp; done) | (simp; omega)))⟩

set_option maxRecDepth 100000 in
set_option maxHeartbeats 400000 in
theorem short_any (n : Int) (w : World) :
    Calls Tryz.prog 122 #[.int .i64 n] w fun e w' => e = .returned (.string (shortS n)) ∧ Below w.heap.size w w' := by
  have bS : Blk (w.alloc (.cells #[.int .u8 (n % 256), .int .u8 (n / 256 % 256)] 5)) w.heap.size 5 #[.int .u8 (n % 256), .int .u8 (n / 256 % 256)] := Blk.new _ _ _
  have hR : Reads (w.alloc (.cells #[.int .u8 (n % 256), .int .u8 (n / 256 % 256)] 5)) (some ⟨w.heap.size, 0, none⟩) ([n % 256, n / 256 % 256].map (Value.int .u8)) := .inr ⟨_, 0, rfl, bS.lt, fun j u hu => by rw [Nat.zero_add, bS.cells]; simpa using hu⟩
  have hcv := conv_bytes _ 2 2 _ rfl _ hR
  have HS : Hid (strOfNums [n % 256, n / 256 % 256] = shortS n) := Lib.hid rfl
  clear bS hR
  go_enter Tryz.func122, Tryz.ntmps122
  go_wp2_with fail
  go_ret
  exact ⟨by rw [← HS.out]; rfl, by (repeat' (first | (with_reducible exact Below.refl _ _) | (with_reducible assumption) | (with_reducible refine Below.alloc ?_ ?_ _) | (with_reducible refine Below.drew ?_) | (with_reducible refine below_drewN' ?_ _) | (with_reducible refine Below.setCell ?_ ?_ _) | (with_reducible exact Nat.le_refl _) | omega | (simp; done) | (simp; omega)))⟩
set_option maxRecDepth 100000 in
set_option maxHeartbeats 400000 in
theorem broken_any (E : Int) (w : World) :
    Calls Tryz.prog 147 #[.int .i64 E] w fun e w' => e = .returned (.bool (brokenB E)) ∧ Below w.heap.size w w' := by
  have bS : Blk (w.alloc (.cells #[.int .i64 1, .int .i64 13, .int .i64 7] 46)) w.heap.size 46 #[.int .i64 1, .int .i64 13, .int .i64 7] := Blk.new _ _ _
  have hR : Reads (w.alloc (.cells #[.int .i64 1, .int .i64 13, .int .i64 7] 46)) (some ⟨w.heap.size, 0, none⟩) ([1, 13, 7].map (Value.int .i64)) := .inr ⟨_, 0, rfl, bS.lt, fun j u hu => by rw [Nat.zero_add, bS.cells]; simpa using hu⟩
  have hct := contains_err _ 3 [1, 13, 7] (by decide) E _ hR
  have HB : Hid (brokenB E = (decide (E = 1) || (decide (E = 13) || decide (E = 7)))) := Lib.hid (by unfold brokenB; rw [Bool.or_assoc]; rfl)
  clear bS hR
  go_enter Tryz.func147, Tryz.ntmps147
  go_wp2_with fail
  refine hct.mono ?_
  rintro e w1 ⟨rfl, rfl⟩
  go_wp2_with fail
  go_ret
  exact ⟨by rw [HB.out]; rfl, by (repeat' (first | (with_reducible exact Below.refl _ _) | (with_reducible assumption) | (with_reducible refine Below.alloc ?_ ?_ _) | (with_reducible refine Below.drew ?_) | (with_reducible refine below_drewN' ?_ _) | (with_reducible refine Below.setCell ?_ ?_ _) | (with_reducible exact Nat.le_refl _) | omega | (simp; done) | (simp; omega)))⟩

end Go.Proofs.YtljmdcegcckblaaGreatDoor
/- Layer 9: record. -/
namespace Go.Proofs.YtljmdcegcckblaaGreatDoor
open Go.RowKit Go.Maps

theorem strL_get {s : ByteArray} {k : Nat} (h : k < s.size) : (strL s).getD k 0 = (s[k].toNat : Int) := by
  have h2 : k < s.data.toList.length := by rw [Array.length_toList]; exact h
  unfold strL
  rw [List.getD_eq_getElem?_getD, List.getElem?_map, List.getElem?_eq_getElem h2]
  rfl
theorem run_index_str (s : ByteArray) (i : Int) (k : Nat) (hi : i = (k : Int)) (h : k < s.size) (w : World) : (Instr.index 9 (.string s) (.int .i64 i)).run Tryz.prog w = .ok (.int .u8 ((strL s).getD k 0)) w := by
  subst hi
  rw [run_index_string (P := Tryz.prog) w 9 s .i64 (k : Int) Tryz.underlying9, dif_pos (by omega), strL_get h]
  rfl
def recC (r : Rec) : Array Value := #[.int .i64 r.at_, .int .i64 r.kind, .string r.data]
set_option maxRecDepth 100000 in
set_option maxHeartbeats 1000000 in
theorem record_bad (D : Nat) (F Z : Int) (_B : List Nat) (_x : DevS) (f : Fr) (w : World) (hbad : f.kind ≠ 2 ∨ f.data.size < 3 ∨ 99 < f.data.size) :
    Calls Tryz.prog 148 #[.pointer (some ⟨D, 0, none⟩), .agg #[.int .i64 F, .int .i64 Z], .agg #[.int .i64 f.kind, .int .u32 f.seq, .string f.data]] w fun e w' => e = .returned (.tuple #[.agg (recC noRec), .bool false]) ∧ Below w.heap.size w w' := by
  unfold noRec recC
  by_cases a1 : f.kind = 2
  by_cases a2 : f.data.size < 3
  rotate_left
  by_cases a3 : 99 < f.data.size
  rotate_left
  · omega
  rotate_left
  all_goals
    first
      | (have hk' : (f.kind != 2) = true := by simpa using a1)
      | (have hk' : (f.kind != 2) = false := by simpa using a1)
    clear hbad a1
    have bR : Blk (((w.alloc (.cells #[.int .i64 F, .int .i64 Z] 122)).alloc (.cells #[.int .i64 f.kind, .int .u32 f.seq, .string f.data] 128)).alloc (.cells #[.int .i64 0, .int .i64 0, .string ⟨#[]⟩] 65)) (w.heap.size + 1 + 1) 65 #[.int .i64 0, .int .i64 0, .string ⟨#[]⟩] := Blk.new' (by simp)
    have cR := bR.cells
    have lR := bR.lt
    go_enter Tryz.func148, Tryz.ntmps148
    go_wp2_with fail
    refine bodyPost_ret (v := .tuple #[.agg #[.int .i64 0, .int .i64 0, .string ⟨#[]⟩], .bool false]) (by simp [results, Tryz.results148, go_sem, cR]) rfl ?_
    exact ⟨rfl, by (repeat' (first | (with_reducible exact Below.refl _ _) | (with_reducible assumption) | (with_reducible refine Below.alloc ?_ ?_ _) | (with_reducible refine Below.drew ?_) | (with_reducible refine below_drewN' ?_ _) | (with_reducible refine Below.setCell ?_ ?_ _) | (with_reducible exact Nat.le_refl _) | omega | (simp; done) | (simp; omega)))⟩

set_option maxRecDepth 100000 in
set_option maxHeartbeats 2000000 in
theorem record_good (D : Nat) (F Z : Int) (hFZ : 0 ≤ F ∧ F ≤ 256 ∧ 0 ≤ Z ∧ Z ≤ 256) (B : List Nat) (x : DevS) (f : Fr) (w : World) (h : DevAt w D B x) (hk : f.kind = 2) (h3 : 3 ≤ f.data.size) (h99 : f.data.size ≤ 99) :
    Calls Tryz.prog 148 #[.pointer (some ⟨D, 0, none⟩), .agg #[.int .i64 F, .int .i64 Z], .agg #[.int .i64 f.kind, .int .u32 f.seq, .string f.data]] w fun e w' => e = .returned (.tuple #[.agg (recC (recOf f)), .bool (recIs x.stable.length F Z f)]) ∧ Below w.heap.size w w' := by
  obtain ⟨fk, fq, fd⟩ := f
  simp only at hk h3 h99
  subst hk
  go_enter Tryz.func148, Tryz.ntmps148
  go_wp2_with fail
  obtain ⟨W, hW⟩ : ∃ W, W = (((w.alloc (.cells #[.int .i64 F, .int .i64 Z] 122)).alloc (.cells #[.int .i64 2, .int .u32 fq, .string fd] 128)).alloc (.cells #[.int .i64 0, .int .i64 0, .string ⟨#[]⟩] 65)) := ⟨_, rfl⟩
  have bJ : Blk W w.heap.size 122 #[.int .i64 F, .int .i64 Z] := by rw [hW]; exact (by (repeat' (first | (with_reducible assumption) | exact Blk.new' (by simp) | refine Blk.alloc ?_ _)))
  have bF : Blk W (w.heap.size + 1) 128 #[.int .i64 2, .int .u32 fq, .string fd] := by rw [hW]; exact (by (repeat' (first | (with_reducible assumption) | exact Blk.new' (by simp) | refine Blk.alloc ?_ _)))
  have bR : Blk W (w.heap.size + 1 + 1) 65 #[.int .i64 0, .int .i64 0, .string ⟨#[]⟩] := by rw [hW]; exact Blk.new' (by simp)
  have hB : Below w.heap.size w W := by rw [hW]; (repeat' (first | (with_reducible exact Below.refl _ _) | (with_reducible assumption) | (with_reducible refine Below.alloc ?_ ?_ _) | (with_reducible refine Below.drew ?_) | (with_reducible refine below_drewN' ?_ _) | (with_reducible refine Below.setCell ?_ ?_ _) | (with_reducible exact Nat.le_refl _) | omega | (simp; done) | (simp; omega)))
  rw [← hW]
  clear hW
  have cF := bF.cells
  have lF := bF.lt
  refine wp_region_still_tail 18 (by kernel_rfl) (by kernel_rfl) ?_
  simp only [List.take_succ_cons, List.take_zero, List.drop_succ_cons, List.drop_zero]
  change wpStill _ _ W.drew _ _ _
  have HREC : Hid (recOf ⟨2, fq, fd⟩ = ⟨bits .or .i64 ((strL fd).getD 0 0) ((strL fd).getD 1 0 * 256), (strL fd).getD 2 0, fd.extract 3 fd.size⟩) := Lib.hid (by unfold recOf; rw [if_neg (by simp only; omega)])
  have HIS : Hid (recIs x.stable.length F Z ⟨2, fq, fd⟩ = (decide ((recOf ⟨2, fq, fd⟩).at_ < x.stable.length) && !insideB F Z (recOf ⟨2, fq, fd⟩).at_ && decide (0 < (recOf ⟨2, fq, fd⟩).kind))) := Lib.hid (by unfold recIs; rw [if_neg (by simp only; omega)])
  have hi0 := run_index_str fd 0 0 rfl (by omega)
  have hi1 := run_index_str fd 1 1 rfl (by omega)
  have hi2 := run_index_str fd 2 2 rfl (by omega)
  have y0 := getD_bytes (strL_bytes fd) 0
  have y1 := getD_bytes (strL_bytes fd) 1
  have y2 := getD_bytes (strL_bytes fd) 2
  have h3i : (3 : Int) ≤ fd.size := by omega
  generalize (strL fd).getD 0 0 = d0 at *
  generalize (strL fd).getD 1 0 = d1 at *
  generalize (strL fd).getD 2 0 = d2 at *
  have hw0 : IntKind.i64.wrap d0 = d0 := by rw [IntKind.wrap_i64]; omega
  have hw1 : IntKind.i64.wrap d1 = d1 := by rw [IntKind.wrap_i64]; omega
  have hw2 : IntKind.i64.wrap d2 = d2 := by rw [IntKind.wrap_i64]; omega
  have hw3 : IntKind.i64.wrap (d1 * 256) = d1 * 256 := by rw [IntKind.wrap_i64]; omega
  repeat still_step
  refine wpStill_nil ?_
  change wpList _ _ _ _ _ W.drew
  clear hi0 hi1 hi2 h3i hw0 hw1 hw2 hw3
  generalize bits BinOp.or IntKind.i64 d0 (d1 * 256) = av at *
  have cR := bR.cells
  have fR := bR.free
  have lR := bR.lt
  go_wp2_with fail
  obtain ⟨V, hV⟩ : ∃ V, V = (((W.setCell ⟨w.heap.size + 1 + 1, 0, none⟩ (.int .i64 av)).setCell ⟨w.heap.size + 1 + 1, 1, none⟩ (.int .i64 d2)).setCell ⟨w.heap.size + 1 + 1, 2, none⟩ (.string (fd.extract 3 fd.size))).drew := ⟨_, rfl⟩
  have bRV : Blk V (w.heap.size + 1 + 1) 65 #[.int .i64 av, .int .i64 d2, .string (fd.extract 3 fd.size)] := by rw [hV]; exact (((bR.set_ 0 _).set_ 1 _).set_ 2 _).drew
  have bJV : Blk V w.heap.size 122 #[.int .i64 F, .int .i64 Z] := by rw [hV]; exact (((bJ.far (by simp; omega) _).far (by simp; omega) _).far (by simp; omega) _).drew
  have hBV : Below w.heap.size w V := by rw [hV]; exact Below.drew (((hB.setCell (by simp; omega) _).setCell (by simp; omega) _).setCell (by simp; omega) _)
  rw [← hV]
  clear hV cR fR lR bR bF cF lF bJ hB
  have hd := h.below hBV
  have hV0 : V.cell? ⟨w.heap.size + 1 + 1, 0, none⟩ = some (.int .i64 av) ∧ V.cell? ⟨w.heap.size + 1 + 1, 1, none⟩ = some (.int .i64 d2) ∧ V.cell? ⟨w.heap.size + 1 + 1, 2, none⟩ = some (.string (fd.extract 3 fd.size)) ∧ V.cell? ⟨w.heap.size, 0, none⟩ = some (.int .i64 F) ∧ V.cell? ⟨w.heap.size, 1, none⟩ = some (.int .i64 Z) := ⟨by rw [bRV.cells]; rfl, by rw [bRV.cells]; rfl, by rw [bRV.cells]; rfl, by rw [bJV.cells]; rfl, by rw [bJV.cells]; rfl⟩
  have lV := bRV.lt
  rw [HREC.out] at HIS
  have HB : ∀ b : Bool, recIs x.stable.length F Z ⟨2, fq, fd⟩ = b → Hid (recIs x.stable.length F Z ⟨2, fq, fd⟩ = b) := fun _ h => Lib.hid h
  have hsd := sectors_dev D B x V.drew hd.drew
  have hid := inside_any F Z av hFZ V.drew
  by_cases c1 : av < x.stable.length
  · have hd1 : decide (av < (x.stable.length : Int)) = true := decide_eq_true c1
    have HE := HB (!insideB F Z av && decide (0 < d2)) (by rw [HIS.out]; simp only [hd1, Bool.true_and])
    clear c1
    refine wp_region_mix [.take 0, .take 1, .take 2, .take 3, .one 4, .take 5, .take 6, .take 7, .take 8, .take 9, .one 10, .take 11, .take 12, .take 13, .take 14, .take 15, .take 16, .take 17, .one 18, .one 19] 20 (fun w' => w'.cell? ⟨w.heap.size + 1 + 1, 0, none⟩ = some (.int .i64 av) ∧ w'.cell? ⟨w.heap.size + 1 + 1, 1, none⟩ = some (.int .i64 d2) ∧ w'.cell? ⟨w.heap.size + 1 + 1, 2, none⟩ = some (.string (fd.extract 3 fd.size)) ∧ w'.cell? ⟨w.heap.size, 0, none⟩ = some (.int .i64 F) ∧ w'.cell? ⟨w.heap.size, 1, none⟩ = some (.int .i64 Z)) (by kernel_rfl) (by kernel_rfl) (fun _ _ _ _ _ h => h) hV0 ?_
    simp only [List.map_cons, List.map_nil, Ms.fill, List.getD_cons_zero, List.getD_cons_succ]
    iterate 4 (refine mixT_take (by rfl) ?_ (fun w' hw' => ?_) ?_; rotate_left; (focus (go_simp; (try with_reducible rfl))); (try simp only [Act.put, List.setIfInBounds_toArray, List.set_cons_zero, List.set_cons_succ]))
    refine mixT_step (by rfl) fun K hK => ?_
    go_simp
    refine hsd.mono ?_
    rintro e w' ⟨rfl, rfl⟩
    refine hK _ _ (fun _ => hV0) ?_
    clear hK K
    iterate 5 (refine mixT_take (by rfl) ?_ (fun w' hw' => ?_) ?_; rotate_left; (focus (go_simp; (try with_reducible rfl))); (try simp only [Act.put, List.setIfInBounds_toArray, List.set_cons_zero, List.set_cons_succ]))
    refine mixT_step (by rfl) fun K hK => ?_
    go_simp
    refine hid.mono ?_
    rintro e w5 ⟨rfl, hb5⟩
    have bR5 := bRV.drew.belowAll hb5
    have bJ5 := bJV.drew.belowAll hb5
    have B5 : Below w.heap.size w w5 := hBV.drew.trans (hb5.mono hBV.size)
    have l5 := bR5.lt
    have h5 : w5.cell? ⟨w.heap.size + 1 + 1, 0, none⟩ = some (.int .i64 av) ∧ w5.cell? ⟨w.heap.size + 1 + 1, 1, none⟩ = some (.int .i64 d2) ∧ w5.cell? ⟨w.heap.size + 1 + 1, 2, none⟩ = some (.string (fd.extract 3 fd.size)) ∧ w5.cell? ⟨w.heap.size, 0, none⟩ = some (.int .i64 F) ∧ w5.cell? ⟨w.heap.size, 1, none⟩ = some (.int .i64 Z) := ⟨by rw [bR5.cells]; rfl, by rw [bR5.cells]; rfl, by rw [bR5.cells]; rfl, by rw [bJ5.cells]; rfl, by rw [bJ5.cells]; rfl⟩
    refine hK _ _ (fun _ => h5) ?_
    clear hK K hsd hid hb5
    have bR6 := ((bR5.set_ 0 (.int .i64 av)).set_ 1 (.int .i64 d2)).set_ 2 (.string (fd.extract 3 fd.size))
    have bJ6 := ((bJ5.far (p := ⟨w.heap.size + 1 + 1, 0, none⟩) (by simp; omega) (.int .i64 av)).far (p := ⟨w.heap.size + 1 + 1, 1, none⟩) (by simp; omega) (.int .i64 d2)).far (p := ⟨w.heap.size + 1 + 1, 2, none⟩) (by simp; omega) (.string (fd.extract 3 fd.size))
    have B6 := ((B5.setCell (p := ⟨w.heap.size + 1 + 1, 0, none⟩) (by simp; omega) (.int .i64 av)).setCell (p := ⟨w.heap.size + 1 + 1, 1, none⟩) (by simp; omega) (.int .i64 d2)).setCell (p := ⟨w.heap.size + 1 + 1, 2, none⟩) (by simp; omega) (.string (fd.extract 3 fd.size))
    have cR5 := bR5.cells
    have fR5 := bR5.free
    obtain ⟨ib, hin⟩ : ∃ ib, insideB F Z av = ib := ⟨_, rfl⟩
    rw [hin] at HE ⊢
    clear hin
    cases ib
    all_goals
      iterate 3 (refine mixT_take (by rfl) ?_ (fun w' hw' => ?_) ?_; rotate_left; (focus (go_simp; (try with_reducible rfl))); (try simp only [Act.put, List.setIfInBounds_toArray, List.set_cons_zero, List.set_cons_succ]))
      first
        | (iterate 3 ((first | (refine mixT_skip (by rfl) ?_) | (refine mixT_pass (by rfl) ?_)); (try simp only [Act.put, List.setIfInBounds_toArray, List.set_cons_zero, List.set_cons_succ])))
        | (iterate 3 (refine mixT_take (by rfl) ?_ (fun w' hw' => ?_) ?_; rotate_left; (focus (go_simp; (try with_reducible rfl))); (try simp only [Act.put, List.setIfInBounds_toArray, List.set_cons_zero, List.set_cons_succ])))
      iterate 1 (refine mixT_take (by rfl) ?_ (fun w' hw' => ?_) ?_; rotate_left; (focus (go_simp; (try with_reducible rfl))); (try simp only [Act.put, List.setIfInBounds_toArray, List.set_cons_zero, List.set_cons_succ]))
      refine mixT_step (by rfl) fun K hK => ?_
      go_simp
      refine hK _ _ (fun _ => ⟨by rw [bR6.cells]; rfl, by rw [bR6.cells]; rfl, by rw [bR6.cells]; rfl, by rw [bJ6.cells]; rfl, by rw [bJ6.cells]; rfl⟩) ?_
      clear hK K
      refine mixT_step (by rfl) fun K hK => ?_
      go_simp
      refine hK _ _ (fun _ => ⟨by rw [bR6.cells]; rfl, by rw [bR6.cells]; rfl, by rw [bR6.cells]; rfl, by rw [bJ6.cells]; rfl, by rw [bJ6.cells]; rfl⟩) ?_
      clear hK K
      refine mixT_nil ?_
      have cR6 := bR6.cells
      have lR6 := bR6.lt
      go_wp2_with fail
      refine bodyPost_ret (v := .tuple #[.agg #[.int .i64 av, .int .i64 d2, .string (fd.extract 3 fd.size)], .bool _]) (by simp [results, Tryz.results148, go_sem, cR6]; try rfl) rfl ?_
      exact ⟨by unfold recC; rw [HREC.out, HE.out] <;> try rfl, B6⟩
  · have hd1 : decide (av < (x.stable.length : Int)) = false := decide_eq_false c1
    have HE := HB false (by rw [HIS.out]; simp only [hd1, Bool.false_and])
    clear c1
    refine wp_region_mix [.take 0, .take 1, .take 2, .take 3, .one 4, .take 5, .take 6, .take 7, .take 8, .take 9, .one 10, .take 11, .take 12, .take 13, .take 14, .take 15, .take 16, .take 17, .one 18, .one 19] 20 (fun w' => w'.cell? ⟨w.heap.size + 1 + 1, 0, none⟩ = some (.int .i64 av) ∧ w'.cell? ⟨w.heap.size + 1 + 1, 1, none⟩ = some (.int .i64 d2) ∧ w'.cell? ⟨w.heap.size + 1 + 1, 2, none⟩ = some (.string (fd.extract 3 fd.size)) ∧ w'.cell? ⟨w.heap.size, 0, none⟩ = some (.int .i64 F) ∧ w'.cell? ⟨w.heap.size, 1, none⟩ = some (.int .i64 Z)) (by kernel_rfl) (by kernel_rfl) (fun _ _ _ _ _ h => h) hV0 ?_
    simp only [List.map_cons, List.map_nil, Ms.fill, List.getD_cons_zero, List.getD_cons_succ]
    iterate 4 (refine mixT_take (by rfl) ?_ (fun w' hw' => ?_) ?_; rotate_left; (focus (go_simp; (try with_reducible rfl))); (try simp only [Act.put, List.setIfInBounds_toArray, List.set_cons_zero, List.set_cons_succ]))
    refine mixT_step (by rfl) fun K hK => ?_
    go_simp
    refine hsd.mono ?_
    rintro e w' ⟨rfl, rfl⟩
    refine hK _ _ (fun _ => hV0) ?_
    clear hK K
    iterate 2 (refine mixT_take (by rfl) ?_ (fun w' hw' => ?_) ?_; rotate_left; (focus (go_simp; (try with_reducible rfl))); (try simp only [Act.put, List.setIfInBounds_toArray, List.set_cons_zero, List.set_cons_succ]))
    iterate 5 ((first | (refine mixT_skip (by rfl) ?_) | (refine mixT_pass (by rfl) ?_)); (try simp only [Act.put, List.setIfInBounds_toArray, List.set_cons_zero, List.set_cons_succ]))
    iterate 2 (refine mixT_take (by rfl) ?_ (fun w' hw' => ?_) ?_; rotate_left; (focus (go_simp; (try with_reducible rfl))); (try simp only [Act.put, List.setIfInBounds_toArray, List.set_cons_zero, List.set_cons_succ]))
    iterate 3 ((first | (refine mixT_skip (by rfl) ?_) | (refine mixT_pass (by rfl) ?_)); (try simp only [Act.put, List.setIfInBounds_toArray, List.set_cons_zero, List.set_cons_succ]))
    iterate 1 (refine mixT_take (by rfl) ?_ (fun w' hw' => ?_) ?_; rotate_left; (focus (go_simp; (try with_reducible rfl))); (try simp only [Act.put, List.setIfInBounds_toArray, List.set_cons_zero, List.set_cons_succ]))
    have bR6 := (((bRV.set_ 0 (.int .i64 av)).set_ 1 (.int .i64 d2)).set_ 2 (.string (fd.extract 3 fd.size))).drew
    have bJ6 := (((bJV.far (p := ⟨w.heap.size + 1 + 1, 0, none⟩) (by simp; omega) (.int .i64 av)).far (p := ⟨w.heap.size + 1 + 1, 1, none⟩) (by simp; omega) (.int .i64 d2)).far (p := ⟨w.heap.size + 1 + 1, 2, none⟩) (by simp; omega) (.string (fd.extract 3 fd.size))).drew
    have B6 := Below.drew (((hBV.setCell (p := ⟨w.heap.size + 1 + 1, 0, none⟩) (by simp; omega) (.int .i64 av)).setCell (p := ⟨w.heap.size + 1 + 1, 1, none⟩) (by simp; omega) (.int .i64 d2)).setCell (p := ⟨w.heap.size + 1 + 1, 2, none⟩) (by simp; omega) (.string (fd.extract 3 fd.size)))
    have cRV := bRV.cells
    have fRV := bRV.free
    focus
      refine mixT_step (by rfl) fun K hK => ?_
      go_simp
      refine hK _ _ (fun _ => ⟨by rw [bR6.cells]; rfl, by rw [bR6.cells]; rfl, by rw [bR6.cells]; rfl, by rw [bJ6.cells]; rfl, by rw [bJ6.cells]; rfl⟩) ?_
      clear hK K
      refine mixT_step (by rfl) fun K hK => ?_
      go_simp
      refine hK _ _ (fun _ => ⟨by rw [bR6.cells]; rfl, by rw [bR6.cells]; rfl, by rw [bR6.cells]; rfl, by rw [bJ6.cells]; rfl, by rw [bJ6.cells]; rfl⟩) ?_
      clear hK K
      refine mixT_nil ?_
      have cR6 := bR6.cells
      have lR6 := bR6.lt
      go_wp2_with fail
      refine bodyPost_ret (v := .tuple #[.agg #[.int .i64 av, .int .i64 d2, .string (fd.extract 3 fd.size)], .bool false]) (by simp [results, Tryz.results148, go_sem, cR6]) rfl ?_
      exact ⟨by unfold recC; rw [HREC.out, HE.out] <;> try rfl, B6⟩

end Go.Proofs.YtljmdcegcckblaaGreatDoor
