/- The reference's Decode. -/
import Derived.Test.YtenfheheepkfbaaE2
namespace Go.Proofs.Ytenfheheepkfbaa
open Go.RowKit

theorem bit2_tab : ∀ x : Fin 256, ∀ m : Fin 8, bitOf (x.val : Int) m.val = (((x.val : Int) / 2 ^ m.val).tmod 2 == 1) := by decide +kernel
theorem bit2_of {x : Int} (h : 0 ≤ x ∧ x < 256) {m : Nat} (hm : m < 8) : bitOf x m = ((x / 2 ^ m).tmod 2 == 1) := by
  obtain ⟨y, rfl⟩ := fin_of h
  exact bit2_tab y ⟨m, hm⟩

def DecFail (s j i : Int) (xs : List Int) (E : Int) : Prop :=
  E ≠ 0 ∧ ((rgE s j i ≠ 0 ∧ E = rgE s j i) ∨ (rgE s j i = 0 ∧ xs.length ≠ 96 ∧ E = 3) ∨ (rgE s j i = 0 ∧ xs.length = 96 ∧ ¬ noneAfter xs (rgB s j i).toNat 768 ∧ E = 6))
def DecGoing (s j i : Int) (xs : List Int) (B B0 k : Nat) (wr : World) : Prop :=
  rgE s j i = 0 ∧ xs.length = 96 ∧ noneAfter xs (rgB s j i).toNat k ∧ ∃ g, B0 ≤ g ∧ g ≠ B ∧ Blk wr g 4 (boolsV (decS xs (rgB s j i).toNat k)) ∧ Blk wr B 26 #[.int .i64 s, .int .i64 j, .int .i64 i, .slice (some ⟨g, 0, none⟩) (rgB s j i).toNat (rgB s j i).toNat]
theorem DecFail.post {s j i : Int} {xs : List Int} {E : Int} {w w' : World} (h : DecFail s j i xs E) (hb : Below w.heap.size w w') :
    DecPost s j i xs w (.returned (.tuple #[.agg #[.int .i64 0, .int .i64 0, .int .i64 0, .slice none 0 0], .int .i64 E])) w' := by
  rcases h.2 with ⟨h1, rfl⟩ | ⟨h1, h2, rfl⟩ | ⟨h1, h2, h3, rfl⟩
  · exact ⟨hb, .inl ⟨h1, rfl⟩⟩
  · exact ⟨hb, .inr (.inl ⟨h1, h2, rfl⟩)⟩
  · exact ⟨hb, .inr (.inr (.inl ⟨h1, h2, h3, rfl⟩))⟩

set_option maxRecDepth 100000 in
set_option maxHeartbeats 4000000 in
theorem decodeR_any (s j i : Int) (A : Option Addr) (c : Nat) (xs : List Int) (hml : xs.length ≤ 1000) (hbx : Bytes xs) (w : World) (hR : Reads w A (xs.map (.int .u8))) :
    Calls Try.prog 32 #[.agg #[.int .i64 s, .int .i64 j, .int .i64 i], .slice A xs.length c] w (DecPost s j i xs w) := by
  go_enter Try.func32, Try.ntmps32
  go_wp2_with fail
  refine (newR_any s j i _).mono ?_
  rintro e w1 ⟨hb1, ⟨hE, rfl⟩ | ⟨hE, g, rfl, hg, hrow⟩⟩
  focus
    have hE' : (rgE s j i == 0) = false := by simpa using hE
    have ST : Hid (∀ wr : World, ∀ B B0 : Nat, DecFail s j i xs (rgE s j i) ∨ (rgE s j i = 0 ∧ DecGoing s j i xs B B0 0 wr)) := Lib.hid (fun _ _ _ => .inl ⟨hE, .inl ⟨hE, rfl⟩⟩)
    have HE := Lib.hid hE
    clear hE
    have bR : Blk w1 (w.heap.size + 1) 26 #[.int .i64 0, .int .i64 0, .int .i64 0, .slice none 0 0] := Blk.belowAll (by (repeat' (first | (with_reducible assumption) | exact Blk.new' (by simp) | refine Blk.alloc ?_ _))) hb1
    have B1 : Below w.heap.size w w1 := below2 hb1
    clear hb1
    have lR := bR.lt
    go_wp2_with fail
    have bR1 := bR.alloc (.cells #[.int .i64 0, .int .i64 0, .int .i64 0, .slice none 0 0] 26)
    have B2 := B1.alloc B1.size (.cells #[.int .i64 0, .int .i64 0, .int .i64 0, .slice none 0 0] 26)
    have ST1 := Lib.hid (ST.out (w1.alloc (.cells #[.int .i64 0, .int .i64 0, .int .i64 0, .slice none 0 0] 26)) w1.heap.size (w.heap.size + 2))
    clear ST bR B1
  rotate_left
  focus
    have bR : Blk w1 (w.heap.size + 1) 26 #[.int .i64 0, .int .i64 0, .int .i64 0, .slice none 0 0] := Blk.belowAll (by (repeat' (first | (with_reducible assumption) | exact Blk.new' (by simp) | refine Blk.alloc ?_ _))) hb1
    have bQ0 : Blk w1 g 4 (fill (.bool false) (rgB s j i).toNat) := hrow
    have B1 : Below w.heap.size w w1 := below2 hb1
    clear hb1 hrow
    have lR := bR.lt
    have hg2 : w.heap.size + 2 ≤ g := by simpa using hg
    have hgl : g < w1.heap.size := bQ0.lt
    have hE' : (rgE s j i == 0) = true := by simpa using hE
    have bR1 := bR.alloc (.cells #[.int .i64 s, .int .i64 j, .int .i64 i, .slice (some ⟨g, 0, none⟩) (rgB s j i).toNat (rgB s j i).toNat] 26)
    have B2 := B1.alloc B1.size (.cells #[.int .i64 s, .int .i64 j, .int .i64 i, .slice (some ⟨g, 0, none⟩) (rgB s j i).toNat (rgB s j i).toNat] 26)
    by_cases h96 : xs.length = 96
    focus
      have hn : ((xs.length : Int) != 96) = false := by rw [h96]; rfl
      have ST1 : Hid (DecFail s j i xs 0 ∨ (0 = (0 : Int) ∧ DecGoing s j i xs w1.heap.size (w.heap.size + 2) 0 (w1.alloc (.cells #[.int .i64 s, .int .i64 j, .int .i64 i, .slice (some ⟨g, 0, none⟩) (rgB s j i).toNat (rgB s j i).toNat] 26)))) :=
        Lib.hid (.inr ⟨rfl, hE, h96, fun b _ h => absurd h (by omega), g, hg2, by omega, by rw [show decS xs (rgB s j i).toNat 0 = List.replicate _ false from rfl, boolsV_rep]; exact bQ0.alloc _, Blk.new _ _ _⟩)
      have HE := Lib.hid hE
      clear hE bQ0 hg2 hg hgl bR B1
      go_wp2_with fail
    rotate_left
    focus
      have hn : ((xs.length : Int) != 96) = true := by simp; omega
      have ST1 : Hid (DecFail s j i xs 3 ∨ (3 = (0 : Int) ∧ DecGoing s j i xs w1.heap.size (w.heap.size + 2) 0 (w1.alloc (.cells #[.int .i64 s, .int .i64 j, .int .i64 i, .slice (some ⟨g, 0, none⟩) (rgB s j i).toNat (rgB s j i).toNat] 26)))) :=
        Lib.hid (.inl ⟨by decide, .inr (.inl ⟨hE, h96, rfl⟩)⟩)
      have HE := Lib.hid hE
      clear hE bQ0 hg2 hg hgl bR B1
      go_wp2_with fail
    rotate_left
  all_goals
    go_loopw [7, 8, 9] (fun v q _ wr => ∃ (k : Nat) (E : Int), k ≤ 768 ∧ v = .int .i64 E ∧ q = .int .i64 k ∧ (DecFail s j i xs E ∨ (E = 0 ∧ DecGoing s j i xs w1.heap.size (w.heap.size + 2) k wr)) ∧ Blk wr (w.heap.size + 1) 26 #[.int .i64 0, .int .i64 0, .int .i64 0, .slice none 0 0] ∧ Below w.heap.size w wr) (fun _ q _ _ => 768 - (intOf q).toNat)
    case atStart => exact ⟨0, _, Nat.zero_le _, rfl, rfl, (by simpa using ST1.out), bR1, B2⟩
    case round =>
      obtain ⟨k, E, hk, rfl, rfl, hD, bR, hnx⟩ := hrel
      have cR := bR.cells
      have fR := bR.free
      have lR := bR.lt
      rcases hD with hD | ⟨rfl, hrg, hl96, hno, g2, hgB, hgne, bQ, bW⟩
      · have hEE : (E == 0) = false := by simpa using hD.1
        have hEE' : (E != 0) = true := by simpa using hD.1
        have HD := Lib.hid hD
        clear hD
        by_cases hlt : k < 768
        all_goals
          go_wp2_with fail
          refine bodyPost_ret (v := .tuple #[.agg #[.int .i64 0, .int .i64 0, .int .i64 0, .slice none 0 0], .int .i64 E]) (by simp [results, Try.results32, go_sem, cR, lR]) rfl ?_
          exact HD.out.post (by (repeat' (first | (with_reducible exact Below.refl _ _) | (with_reducible assumption) | (with_reducible refine Below.alloc ?_ ?_ _) | (with_reducible refine Below.drew ?_) | (with_reducible refine below_drewN' ?_ _) | (with_reducible refine Below.setCell ?_ ?_ _) | (with_reducible exact Nat.le_refl _) | omega | (simp; done) | (simp; omega))))
      · first
        | exact absurd hl96 (by assumption)
        | exact absurd hrg HE.out
        | (skip
           unfold DecPost
           generalize hNN : (rgB s j i).toNat = n at *
           have NN := Lib.hid hNN
           clear hNN
           have HRG := Lib.hid hrg
           clear hrg
           have fQ := bQ.free
           have cW := bW.cells
           have fW := bW.free
           have lW := bW.lt
           have lQ := bQ.lt
           by_cases hlt : k < 768
           · have hk8 : k / 8 < xs.length := by omega
             obtain ⟨b, off, rfl, hb, hc⟩ := (hR.below hnx).at_ (k := k / 8) (by simpa using hk8)
             rw [List.getElem_map] at hc
             have hq8 : 0 ≤ (k : Int) / 8 ∧ (k : Int) / 8 < 96 := by omega
             have hbit : bitAt xs k = bitOf xs[k / 8] (k % 8) := by unfold bitAt; simp [hk8]
             have HB := Lib.hid hbit
             clear hbit
             have hx0 := hbx _ (List.getElem_mem hk8)
             generalize xs[k / 8] = x at hc HB hx0
             have hb2 := bit2_of hx0 (Nat.mod_lt k (by omega : 0 < 8))
             by_cases hkn : k < n
             · have hd := decide_eq_true hkn
               have hcQ : wr.cell? ⟨g2, k, none⟩ = some (.bool ((decS xs n k).getD k false)) := by rw [bQ.cells]; exact boolsV_get (by rw [decS_length]; exact hkn)
               have hs := Lib.hid (decS_in (xs := xs) hkn)
               have HB2 := Lib.hid hb2
               clear hb2
               go_wp2_with fail
               go_roundw
               case rel => exact ⟨k + 1, 0, by omega, rfl, by go_num, .inr ⟨rfl, HRG.out, hl96, fun b h1 h2 => by rw [NN.out] at h1; exact hno b h1 (by omega), g2, hgB, hgne, by rw [NN.out, hs.out, HB.out, HB2.out, ← boolsV_set]; exact bQ.set_ _ _, by rw [NN.out]; exact bW.far (by simp; omega) _⟩, bR.far (by simp; omega) _, by (repeat' (first | (with_reducible exact Below.refl _ _) | (with_reducible assumption) | (with_reducible refine Below.alloc ?_ ?_ _) | (with_reducible refine Below.drew ?_) | (with_reducible refine below_drewN' ?_ _) | (with_reducible refine Below.setCell ?_ ?_ _) | (with_reducible exact Nat.le_refl _) | omega | (simp; done) | (simp; omega)))⟩
               case measure => simp [intOf]; omega
             · have hd := decide_eq_false hkn
               have hs := Lib.hid (decS_out (xs := xs) hkn)
               cases hbt : bitOf x (k % 8)
               · have hbt' : ((x / 2 ^ (k % 8)).tmod 2 == 1) = false := by rw [← hb2]; exact hbt
                 have HT := Lib.hid hbt
                 clear hbt hb2
                 go_wp2_with fail
                 go_roundw
                 case rel => exact ⟨k + 1, 0, by omega, rfl, by go_num, .inr ⟨rfl, HRG.out, hl96, fun b h1 h2 => by
                   rw [NN.out] at h1
                   by_cases hbk : b = k
                   · subst hbk; rw [HB.out, HT.out]
                   · exact hno b h1 (by omega), g2, hgB, hgne, by rw [NN.out, hs.out]; exact bQ, by rw [NN.out]; exact bW⟩, bR, hnx⟩
                 case measure => simp [intOf]; omega
               · have hbt' : ((x / 2 ^ (k % 8)).tmod 2 == 1) = true := by rw [← hb2]; exact hbt
                 have HT := Lib.hid hbt
                 clear hbt hb2
                 go_wp2_with fail
                 go_roundw
                 case rel => exact ⟨k + 1, 6, by omega, rfl, by go_num, .inl ⟨by decide, .inr (.inr ⟨HRG.out, hl96, fun h => (by rw [NN.out] at h; have := h k (by omega) hlt; rw [HB.out, HT.out] at this; cases this), rfl⟩)⟩, bR, hnx⟩
                 case measure => simp [intOf]; omega
           · obtain rfl : k = 768 := by omega
             go_wp2_with fail
             refine bodyPost_ret (v := .tuple #[.agg #[.int .i64 s, .int .i64 j, .int .i64 i, .slice (some ⟨g2, 0, none⟩) n n], .int .i64 0]) (by simp [results, Try.results32, go_sem, cR, lR]) rfl ?_
             have hnn : noneAfter xs (rgB s j i).toNat 768 := by rw [NN.out]; exact hno
             refine ⟨by (repeat' (first | (with_reducible exact Below.refl _ _) | (with_reducible assumption) | (with_reducible refine Below.alloc ?_ ?_ _) | (with_reducible refine Below.drew ?_) | (with_reducible refine below_drewN' ?_ _) | (with_reducible refine Below.setCell ?_ ?_ _) | (with_reducible exact Nat.le_refl _) | omega | (simp; done) | (simp; omega))), .inr (.inr (.inr ⟨HRG.out, hl96, hnn, g2, by rw [NN.out], by omega, ?_⟩))⟩
             rw [NN.out]
             exact reads_bools (t := 4) (by (repeat' (first | (with_reducible exact bQ) | refine Blk.far ?_ (by simp; omega) _))))

end Go.Proofs.Ytenfheheepkfbaa
