/- with. -/
import Derived.Test.YtenfheheepkfbaaA6
namespace Go.Proofs.Ytenfheheepkfbaa
open Go.RowKit

set_option maxHeartbeats 1000000 in
theorem with_any (s j i : Int) (A Bl : Option Addr) (c cb : Nat) (us : List Bool) (bl : List Int) (v : Bool) (w : World) (hR : Reads w A (us.map .bool)) (h0 : 0 < us.length) (hn : us.length ≤ 1000)
    (hRb : Reads w Bl (bl.map (.int .i64))) (hm : bl.length ≤ 1000) (hin : ∀ b ∈ bl, 0 ≤ b ∧ b < us.length) :
    Calls Try.prog 43 #[.agg #[.int .i64 s, .int .i64 j, .int .i64 i, .slice A us.length c], .slice Bl bl.length cb, .bool v] w (SetPost s j i us bl v w) := by
  have hA : A ≠ none := by
    obtain ⟨b, off, rfl, _⟩ := hR.at_ (k := 0) (by simpa using h0)
    simp
  have HIN := Lib.hid hin
  clear hin
  go_enter Try.func43, Try.ntmps43
  have hmade : (((w.alloc (.cells #[.int .i64 s, .int .i64 j, .int .i64 i, .slice A us.length c] 26)).alloc (.cells #[.int .i64 0, .int .i64 0, .int .i64 0, .slice none 0 0] 26)).alloc (.cells #[] 4)).ownsRow (w.heap.size + 2) 4 1 (.slice (some ⟨w.heap.size + 2, 0, none⟩) 0 0) 0 [] := by
    have := World.ownsRow_made (e := 4) (size := 1) (base := w.heap.size + 2) ((w.alloc (.cells #[.int .i64 s, .int .i64 j, .int .i64 i, .slice A us.length c] 26)).alloc (.cells #[.int .i64 0, .int .i64 0, .int .i64 0, .slice none 0 0] 26)) #[] 0 (by simp) (by simp) rfl
    simpa using this
  obtain ⟨i0, hi, hz0, hz1, hz2⟩ := info_parts Try.info4
  have hone := Lib.hid (oneCell_bools us)
  go_wp2_with (at_builtin; refine wpList_append_any _ rfl (.tmp 8) (.tmp 10) _ rfl (w.heap.size + 2) 4 i0 (.bool false) 1 Try.underlying24 hi hz0 hz1 hz2 rfl (.slice (some ⟨w.heap.size + 2, 0, none⟩) 0 0) 0 [] rfl hmade A us.length c (us.map .bool) rfl (by simp) (by simp [hA]) (((hR.alloc _).alloc _).alloc _) hone.out (by simp only [maxLen]; omega) (by omega) (by simp) ?_; intro v1 w1 hown hgr1 hat1; have hgr := hgr1; obtain ⟨g, cap, rfl, hg1, hg2⟩ := own_form hown (by omega); have b0 : Blk w1 _ _ _ := (Blk.alloc (Blk.alloc (Blk.new w _ _) _) _).grown hgr1 (by simp [Value.ownBlock]); have b1 : Blk w1 _ _ _ := (Blk.alloc (Blk.new' (w := w.alloc _) (g := w.heap.size + 1) (by simp)) _).grown hgr1 (by simp [Value.ownBlock]); have c0 := b0.cells; have c1 := b1.cells; have f0 := b0.free; have f1 := b1.free; have hb1 : Below w.heap.size w w1 := (((Below.refl _ w).alloc (Nat.le_refl _) _).alloc (by simp) _ |>.alloc (by simp; omega) _).grown hgr1 (by simp; omega) (by intro k hk; simp [Value.ownBlock] at hk; omega); clear hgr1 hgr hat1 hmade)
  simp only [Nat.zero_add, List.nil_append] at hown
  obtain ⟨W1, hW1⟩ : ∃ W1, W1 = w1.setCell ⟨w.heap.size, 3, none⟩ (.slice (some ⟨g, 0, none⟩) us.length cap) := ⟨_, rfl⟩
  rw [← hW1]
  have B0 : Blk W1 w.heap.size 26 #[.int .i64 s, .int .i64 j, .int .i64 i, .slice (some ⟨g, 0, none⟩) us.length cap] := by rw [hW1]; exact b0.set_ 3 _
  have B1 : Blk W1 (w.heap.size + 1) 26 #[.int .i64 0, .int .i64 0, .int .i64 0, .slice none 0 0] := by rw [hW1]; exact b1.far (by simp) _
  have HO : W1.ownsRow (w.heap.size + 2) 4 1 (.slice (some ⟨g, 0, none⟩) us.length cap) us.length (us.map .bool) := by rw [hW1]; exact ownsRow_setCell_below (own_base hown (by simp)) (by simp) _
  have HB : Below w.heap.size w W1 := by rw [hW1]; exact hb1.setCell (by simp) _
  have hgz : w.heap.size + 2 ≤ g := by simpa using hg1
  have hz : w.heap.size + 2 ≤ W1.heap.size := by rw [hW1]; simp; omega
  clear hW1 hown hb1 b0 b1 hg1 hg2 hR hi hz0 hz1 hz2 hone
  go_loopw [7] (fun q wr => ∃ k : Nat, k ≤ bl.length ∧ q = .int .i64 k ∧ wr.ownsRow (w.heap.size + 2) 4 1 (.slice (some ⟨g, 0, none⟩) us.length cap) us.length ((setAll us (bl.take k) v).map .bool) ∧ Below (w.heap.size + 2) W1 wr) (fun q _ => bl.length - (intOf q).toNat)
  case atStart => exact ⟨0, Nat.zero_le _, rfl, HO, Below.refl _ _⟩
  case round =>
    obtain ⟨k, hk, rfl, hown, hnx⟩ := hrel
    have bb0 := B0.below hnx (by omega)
    have bb1 := B1.below hnx (by omega)
    have c0 := bb0.cells
    have c1 := bb1.cells
    have f0 := bb0.free
    have f1 := bb1.free
    have HBw : Below w.heap.size w wr := HB.trans (hnx.mono (by omega))
    have hzr : w.heap.size + 2 ≤ wr.heap.size := Nat.le_trans hz hnx.size
    by_cases hlt : k < bl.length
    · obtain ⟨bq, oq, rfl, hbq, hcq⟩ := (hRb.below HBw).at_ (k := k) (by simpa using hlt)
      have hxin := HIN.out bl[k] (List.getElem_mem hlt)
      have hsn := Lib.hid (setAll_snoc us bl v k hlt)
      rw [List.getElem_map] at hcq
      generalize bl[k] = x at hxin hsn hcq
      obtain ⟨hx0, hx1⟩ := hxin
      have hlen : (setAll us (bl.take k) v).length = us.length := setAll_length _ _ _
      have hct := hown.cellAt x.toNat (by omega)
      rw [List.getElem?_map, List.getElem?_eq_getElem (by omega), Option.map_some] at hct
      have hft := hown.frozenAt x.toNat
      generalize (setAll us (bl.take k) v)[x.toNat] = ux at hct
      have HL := Lib.hid hlen
      clear hlen
      go_wp2
      go_region
      all_goals go_wp2
      go_roundw
      case rel => exact ⟨k + 1, by omega, by go_num, by rw [hsn.out, List.map_set]; exact (hown.stored _ _).1, (hnx.setCell (p := ⟨g, x.toNat, none⟩) hgz _).drew⟩
      case measure => simp [intOf]; omega
    · obtain rfl : k = bl.length := by omega
      rw [List.take_length] at hown
      go_wp2
      refine bodyPost_ret (v := .agg #[.int .i64 s, .int .i64 j, .int .i64 i, .slice (some ⟨g, 0, none⟩) us.length cap]) (by simp [results, Try.results43, go_sem, c1]) rfl ?_
      refine ⟨g, cap, rfl, ?_, by (repeat' (first | (with_reducible exact Below.refl _ _) | (with_reducible assumption) | (with_reducible refine Below.alloc ?_ ?_ _) | (with_reducible refine Below.drew ?_) | (with_reducible refine below_drewN' ?_ _) | (with_reducible refine Below.setCell ?_ ?_ _) | (with_reducible exact Nat.le_refl _) | omega | (simp; done) | (simp; omega)))⟩
      exact own_base (ownsRow_setCell_below (ownsRow_setCell_below (ownsRow_setCell_below (ownsRow_setCell_below hown (by simp) _) (by simp) _) (by simp) _) (by simp) _) (by omega)


end Go.Proofs.Ytenfheheepkfbaa
