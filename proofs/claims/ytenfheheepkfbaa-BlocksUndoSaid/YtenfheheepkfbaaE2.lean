/- The reference's Encode, Decode, Count. -/
import Derived.Test.YtenfheheepkfbaaQ1
import Derived.Test.YtenfheheepkfbaaA3
import Derived.Test.YtenfheheepkfbaaR4
import Derived.Test.YtenfheheepkfbaaR5
namespace Go.Proofs.Ytenfheheepkfbaa
open Go.RowKit

theorem Try.info5 : (Try.prog.info? 5).map (fun i => (i.zero, i.size, i.bytes)) = some (some (.int .u8 0), 1, 1) := by kernel_rfl
theorem addv_tab : ∀ x : Fin 256, ∀ m : Fin 8, bitOf (x.val : Int) m.val = false → (x.val : Int) + 2 ^ m.val % 256 ≤ 255 ∧ orv (x.val : Int) m.val = (x.val : Int) + 2 ^ m.val % 256 := by decide +kernel
theorem addv_of {x : Int} (h : 0 ≤ x ∧ x < 256) {m : Nat} (hm : m < 8) (hb : bitOf x m = false) : x + 2 ^ m % 256 ≤ 255 ∧ orv x m = x + 2 ^ m % 256 := by
  obtain ⟨y, rfl⟩ := fin_of h
  exact addv_tab y ⟨m, hm⟩ hb

set_option maxRecDepth 100000 in
set_option maxHeartbeats 1000000 in
theorem encodeR_ok (s j i : Int) (A : Option Addr) (c : Nat) (us : List Bool) (hus : us.length ≤ 1000) (w : World) (hR : Reads w A (us.map .bool)) (hE : CkE s j i us.length = 0) :
    Calls Try.prog 31 #[.agg #[.int .i64 s, .int .i64 j, .int .i64 i, .slice A us.length c]] w (EncPost s j i us w) := by
  have hus' := (ckE_len hE).2.2
  have hE' : (CkE s j i us.length != 0) = false := by simpa using hE
  have HE := Lib.hid hE
  clear hE
  obtain ⟨i0, hi, hz0, hz1, hz2⟩ := info_parts Try.info5
  have hmk : ∀ w : World, (Instr.makeSlice 50 (.int .i64 96) (.int .i64 96)).run Try.prog w = .ok (.slice (some ⟨w.heap.size, 0, none⟩) 96 96) (w.alloc (.cells (fill (.int .u8 0) 96) 5)) := by
    intro w
    have := run_make (P := Try.prog) w 50 5 i0 (.int .u8 0) Try.underlying50 hi hz0 .i64 .i64 96 96 (by omega) (Int.le_refl _) (by rw [hz2]; omega) (by omega)
    rw [this, hz1]; simp [fill, Value.cells]
  clear hi hz0 hz1 hz2
  go_enter Try.func31, Try.ntmps31
  go_wp2_with fail
  refine (checkR_any s j i A us.length c _ (by unfold maxLen; omega)).mono ?_
  rintro e w1 ⟨rfl, hb1⟩
  have bS : Blk w1 w.heap.size 26 #[.int .i64 s, .int .i64 j, .int .i64 i, .slice A us.length c] := Blk.belowAll (by (repeat' (first | (with_reducible assumption) | exact Blk.new' (by simp) | refine Blk.alloc ?_ _))) hb1
  replace hb1 : Below w.heap.size w w1 := below1 hb1
  have cS := bS.cells
  have hbS := bS.lt
  go_wp2_with fail
  obtain ⟨W1, hW1⟩ : ∃ W1, W1 = w1.alloc (.cells (fill (.int .u8 0) 96) 5) := ⟨_, rfl⟩
  rw [← hW1]
  have bO : Blk W1 w1.heap.size 5 (fill (.int .u8 0) 96) := by rw [hW1]; exact Blk.new _ _ _
  have bS1 : Blk W1 w.heap.size 26 #[.int .i64 s, .int .i64 j, .int .i64 i, .slice A us.length c] := by rw [hW1]; exact bS.alloc _
  have hB1 : Below w.heap.size w W1 := by rw [hW1]; exact hb1.alloc hb1.size _
  have hs1 : W1.heap.size = w1.heap.size + 1 := by rw [hW1]; simp
  clear hW1 bS cS hb1 hmk
  go_loopw [6] (fun q wr => ∃ k : Nat, k ≤ us.length ∧ q = .int .i64 k ∧ Blk wr w1.heap.size 5 (bytesV (encL us k)) ∧ Below w1.heap.size W1 wr) (fun q _ => us.length - (intOf q).toNat)
  case atStart => exact ⟨0, Nat.zero_le _, rfl, by rw [show encL us 0 = List.replicate 96 0 from rfl, bytesV_rep]; exact bO, Below.refl _ _⟩
  case round =>
    obtain ⟨k, hk, rfl, bO, hnx⟩ := hrel
    have fO := bO.free
    have bS2 := bS1.below hnx hbS
    have cS := bS2.cells
    by_cases hlt : k < us.length
    · obtain ⟨b, off, rfl, hb, hc⟩ := (hR.below (hB1.trans (hnx.mono (by omega)))).at_ (k := k) (by simpa using hlt)
      rw [List.getElem_map] at hc
      have hd8 : k / 8 < 96 := by omega
      have hcO : wr.cell? ⟨w1.heap.size, k / 8, none⟩ = some (.int .u8 ((encL us k).getD (k / 8) 0)) := by rw [bO.cells]; exact bytesV_get (by rw [encL_length]; exact hd8)
      cases hu : us[k] <;> rw [hu] at hc
      · have hs := Lib.hid (encL_miss (us := us) (k := k) (by rw [List.getElem?_eq_getElem hlt, hu]))
        clear hu hcO
        go_wp2
        go_roundw
        case rel => exact ⟨k + 1, by omega, by go_num, by rw [hs.out]; exact bO, hnx⟩
        case measure => simp [intOf]; omega
      · have hs := Lib.hid (encL_hit (us := us) (k := k) (by rw [List.getElem?_eq_getElem hlt, hu]))
        have hx0 := getD_bytes (encL_bytes us k) (k / 8)
        have hbit : bitOf ((encL us k).getD (k / 8) 0) (k % 8) = false := by
          have := bitAt_encL (us := us) (by omega) (k := k) (by omega) k
          simpa [bitAt] using this
        obtain ⟨hx1, hx2⟩ := addv_of hx0 (Nat.mod_lt k (by omega : 0 < 8)) hbit
        clear hu hbit
        have HX := Lib.hid hx2
        clear hx2
        generalize hx : (encL us k).getD (k / 8) 0 = x at hcO hs hx0 hx1 HX
        clear hx
        have hpw : 0 ≤ (2 : Int) ^ (k % 8) % 256 := Int.emod_nonneg _ (by omega)
        go_wp2
        go_region
        all_goals go_wp2
        go_roundw
        case rel => exact ⟨k + 1, by omega, by go_num, by rw [hs.out, HX.out, ← bytesV_set]; exact (bO.set_ _ _).drew, (hnx.setCell (p := ⟨w1.heap.size, k / 8, none⟩) (Nat.le_refl _) _).drew⟩
        case measure => simp [intOf]; omega
    · obtain rfl : k = us.length := by omega
      have hB2 : Below w.heap.size w wr := hB1.trans (hnx.mono (by omega))
      go_wp2
      go_ret2
      exact ⟨by (repeat' (first | (with_reducible exact Below.refl _ _) | (with_reducible assumption) | (with_reducible refine Below.alloc ?_ ?_ _) | (with_reducible refine Below.drew ?_) | (with_reducible refine below_drewN' ?_ _) | (with_reducible refine Below.setCell ?_ ?_ _) | (with_reducible exact Nat.le_refl _) | omega | (simp; done) | (simp; omega))), .inr ⟨HE.out, w1.heap.size, rfl, by omega, reads_bytes bO⟩⟩

set_option maxHeartbeats 400000 in
theorem encodeR_any (s j i : Int) (A : Option Addr) (c : Nat) (us : List Bool) (hus : us.length ≤ 1000) (w : World) (hR : Reads w A (us.map .bool)) :
    Calls Try.prog 31 #[.agg #[.int .i64 s, .int .i64 j, .int .i64 i, .slice A us.length c]] w (EncPost s j i us w) := by
  by_cases hE : CkE s j i us.length = 0
  · exact encodeR_ok s j i A c us hus w hR hE
  · have hE' : (CkE s j i us.length != 0) = true := by simpa using hE
    have HE := Lib.hid hE
    clear hE
    go_enter Try.func31, Try.ntmps31
    go_wp2_with fail
    refine (checkR_any s j i A us.length c _ (by unfold maxLen; omega)).mono ?_
    rintro e w1 ⟨rfl, hb1⟩
    replace hb1 : Below w.heap.size w w1 := below1 hb1
    go_wp2_with fail
    go_ret2
    exact ⟨hb1, .inl ⟨HE.out, rfl⟩⟩

set_option maxHeartbeats 400000 in
theorem countR_any (s j i : Int) (A : Option Addr) (c : Nat) (us : List Bool) (hus : us.length ≤ 1000) (w : World) (hR : Reads w A (us.map .bool)) :
    Calls Try.prog 28 #[.agg #[.int .i64 s, .int .i64 j, .int .i64 i, .slice A us.length c]] w fun e w' =>
      e = .returned (.tuple #[.int .i64 (CountN s j i us), .int .i64 (CkE s j i us.length)]) ∧ Below w.heap.size w w' := by
  by_cases hE : CkE s j i us.length = 0
  · have hN : CountN s j i us = (nfree us : Int) := by unfold CountN; rw [if_pos hE, frees_len (by have := (ckE_len hE).2.2.1; omega)]
    have hE' : (CkE s j i us.length != 0) = false := by simpa using hE
    have HE := Lib.hid hE
    have HN := Lib.hid hN
    clear hE hN
    go_enter Try.func28, Try.ntmps28
    go_wp2_with fail
    refine (checkR_any s j i A us.length c _ (by unfold maxLen; omega)).mono ?_
    rintro e w1 ⟨rfl, hb1⟩
    have bS : Blk w1 w.heap.size 26 #[.int .i64 s, .int .i64 j, .int .i64 i, .slice A us.length c] := Blk.belowAll (by (repeat' (first | (with_reducible assumption) | exact Blk.new' (by simp) | refine Blk.alloc ?_ _))) hb1
    replace hb1 : Below w.heap.size w w1 := below1 hb1
    have cS := bS.cells
    go_wp2_with fail
    refine (rfree_any s j i A c us _ (hR.below hb1) hus).mono ?_
    rintro e w2 ⟨rfl, hb2⟩
    have B2 := hb1.trans (hb2.mono hb1.size)
    go_wp2_with fail
    go_ret2
    exact ⟨by rw [HN.out, HE.out]; rfl, B2⟩
  · have hN : CountN s j i us = 0 := by simp only [CountN, if_neg hE]
    have hE' : (CkE s j i us.length != 0) = true := by simpa using hE
    have HE := Lib.hid hE
    have HN := Lib.hid hN
    clear hE hN
    go_enter Try.func28, Try.ntmps28
    go_wp2_with fail
    refine (checkR_any s j i A us.length c _ (by unfold maxLen; omega)).mono ?_
    rintro e w1 ⟨rfl, hb1⟩
    replace hb1 : Below w.heap.size w w1 := below1 hb1
    go_wp2_with fail
    go_ret2
    exact ⟨by rw [HN.out]; rfl, hb1⟩

end Go.Proofs.Ytenfheheepkfbaa
