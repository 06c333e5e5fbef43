/- set, with: the states in which some blocks are used, or free. -/
import Derived.Test.YtenfheheepkfbaaA5
import Derived.Test.YtenfheheepkfbaaL2
namespace Go.Proofs.Ytenfheheepkfbaa
open Go.RowKit

/-- The blocks of a list become used, or free. -/
def setAll (us : List Bool) (bl : List Int) (v : Bool) : List Bool := bl.foldl (fun us b => us.set b.toNat v) us
theorem setAll_length (us : List Bool) (bl : List Int) (v : Bool) : (setAll us bl v).length = us.length := by
  unfold setAll
  induction bl generalizing us with
  | nil => rfl
  | cons b bl ih => rw [List.foldl_cons, ih]; simp
theorem setAll_snoc (us : List Bool) (bl : List Int) (v : Bool) (k : Nat) (h : k < bl.length) : setAll us (bl.take (k + 1)) v = (setAll us (bl.take k) v).set (bl[k]).toNat v := by
  unfold setAll
  rw [List.take_succ_eq_append_getElem h, List.foldl_append]; rfl

def SetPost (s j i : Int) (us : List Bool) (bl : List Int) (v : Bool) (w : World) (e : Ending) (w' : World) : Prop :=
  ∃ g cap, e = .returned (.agg #[.int .i64 s, .int .i64 j, .int .i64 i, .slice (some ⟨g, 0, none⟩) us.length cap]) ∧
    w'.ownsRow w.heap.size 4 1 (.slice (some ⟨g, 0, none⟩) us.length cap) us.length ((setAll us bl v).map .bool) ∧ Below w.heap.size w w'

set_option maxHeartbeats 1000000 in
theorem set_any (s j i : Int) (A Bl : Option Addr) (c cb : Nat) (us : List Bool) (bl : List Int) (v : Bool) (w : World) (hR : Reads w A (us.map .bool)) (h0 : 0 < us.length) (hn : us.length ≤ 1000)
    (hRb : Reads w Bl (bl.map (.int .i64))) (hm : bl.length ≤ 1000) (hin : ∀ b ∈ bl, 0 ≤ b ∧ b < us.length) :
    Calls Try.prog 40 #[.agg #[.int .i64 s, .int .i64 j, .int .i64 i, .slice A us.length c], .slice Bl bl.length cb, .bool v] w (SetPost s j i us bl v w) := by
  have hA : A ≠ none := by
    obtain ⟨b, off, rfl, _⟩ := hR.at_ (k := 0) (by simpa using h0)
    simp
  have HIN := Lib.hid hin
  clear hin
  go_enter Try.func40, Try.ntmps40
  go_wp2_with (
    go_at_call 47; refine (clone_any A c us _ ((hR.alloc _).alloc _) hA hn).mono ?_; rintro e w1 ⟨v1, rfl, hown, hb1⟩; obtain ⟨g, cap, rfl, hg1, hg2⟩ := own_form hown h0; have b0 : Blk w1 _ _ _ := (hb1.block _ (by simp; omega)).trans (hp20 _ _ _); have b1 : Blk w1 _ _ _ := (hb1.block _ (by simp)).trans (hp21 _ _ _); have c0 := b0.cells; have c1 := b1.cells; have f0 := b0.free; have f1 := b1.free; obtain ⟨hz, hz'⟩ := sz2 hb1; replace hb1 := below2 hb1)
  obtain ⟨W1, hW1⟩ : ∃ W1, W1 = w1.setCell ⟨w.heap.size, 3, none⟩ (.slice (some ⟨g, 0, none⟩) us.length cap) := ⟨_, rfl⟩
  rw [← hW1]
  have B0 : Blk W1 w.heap.size 26 #[.int .i64 s, .int .i64 j, .int .i64 i, .slice (some ⟨g, 0, none⟩) us.length cap] := by rw [hW1]; exact b0.set_ 3 _
  have B1 : Blk W1 (w.heap.size + 1) 26 #[.int .i64 0, .int .i64 0, .int .i64 0, .slice none 0 0] := by rw [hW1]; exact b1.far (by simp) _
  have HO : W1.ownsRow (w.heap.size + 2) 4 1 (.slice (some ⟨g, 0, none⟩) us.length cap) us.length (us.map .bool) := by rw [hW1]; exact ownsRow_setCell_below (own_base hown (by simp)) (by simp) _
  have HB : Below w.heap.size w W1 := by rw [hW1]; exact hb1.setCell (by simp) _
  have hgz : w.heap.size + 2 ≤ g := by simpa using hg1
  have hz : w.heap.size + 2 ≤ W1.heap.size := by rw [hW1]; simp; omega
  clear hW1 hown hb1 b0 b1 hg1 hg2 hR
  go_loopw [15] (fun q wr => ∃ k : Nat, k ≤ bl.length ∧ q = .int .i64 k ∧ wr.ownsRow (w.heap.size + 2) 4 1 (.slice (some ⟨g, 0, none⟩) us.length cap) us.length ((setAll us (bl.take k) v).map .bool) ∧ Below (w.heap.size + 2) W1 wr) (fun q _ => bl.length - (intOf q).toNat)
  case atStart => exact ⟨0, Nat.zero_le _, rfl, HO, Below.refl _ _⟩
  case round =>
    obtain ⟨k, hk, rfl, hown, hnx⟩ := hrel
    have bb0 := B0.below hnx (by omega)
    have bb1 := B1.below hnx (by omega)
    have c0 := bb0.cells
    have c1 := bb1.cells
    have f0 := bb0.free
    have f1 := bb1.free
    have HBw : Below w.heap.size w wr := HB.trans (hnx.mono (by omega))
    have hzr : w.heap.size + 2 ≤ wr.heap.size := Nat.le_trans hz hnx.size
    by_cases hlt : k < bl.length
    · obtain ⟨bq, oq, rfl, hbq, hcq⟩ := (hRb.below HBw).at_ (k := k) (by simpa using hlt)
      have hxin := HIN.out bl[k] (List.getElem_mem hlt)
      have hsn := Lib.hid (setAll_snoc us bl v k hlt)
      rw [List.getElem_map] at hcq
      generalize bl[k] = x at hxin hsn hcq
      obtain ⟨hx0, hx1⟩ := hxin
      have hlen : (setAll us (bl.take k) v).length = us.length := setAll_length _ _ _
      have hct := hown.cellAt x.toNat (by omega)
      rw [List.getElem?_map, List.getElem?_eq_getElem (by omega), Option.map_some] at hct
      have hft := hown.frozenAt x.toNat
      generalize (setAll us (bl.take k) v)[x.toNat] = ux at hct
      have HL := Lib.hid hlen
      clear hlen
      go_wp2
      go_roundw
      case rel => exact ⟨k + 1, by omega, by go_num, by rw [hsn.out, List.map_set]; exact (hown.stored _ _).1, hnx.setCell (p := ⟨g, x.toNat, none⟩) hgz _⟩
      case measure => simp [intOf]; omega
    · obtain rfl : k = bl.length := by omega
      rw [List.take_length] at hown
      go_wp2
      refine bodyPost_ret (v := .agg #[.int .i64 s, .int .i64 j, .int .i64 i, .slice (some ⟨g, 0, none⟩) us.length cap]) (by simp [results, Try.results40, go_sem, c1]) rfl ?_
      refine ⟨g, cap, rfl, ?_, by (repeat' (first | (with_reducible exact Below.refl _ _) | (with_reducible assumption) | (with_reducible refine Below.alloc ?_ ?_ _) | (with_reducible refine Below.drew ?_) | (with_reducible refine below_drewN' ?_ _) | (with_reducible refine Below.setCell ?_ ?_ _) | (with_reducible exact Nat.le_refl _) | omega | (simp; done) | (simp; omega)))⟩
      exact own_base (ownsRow_setCell_below (ownsRow_setCell_below (ownsRow_setCell_below (ownsRow_setCell_below hown (by simp) _) (by simp) _) (by simp) _) (by simp) _) (by omega)

end Go.Proofs.Ytenfheheepkfbaa
