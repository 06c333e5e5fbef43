/- Parts of the proof, put together by program: NC, ND, NP, NO. -/
import Derived.Test.YtfmobeeddlnhcaaGreatDoorPart48
import Derived.Test.YtfmobeeddlnhcaaGreatDoorPart02
import Derived.Test.YtfmobeeddlnhcaaGreatDoorProg
import Derived.ProofKit
import Derived.Deep.Slices
/- The laws of layer 12: far, of one act; done, of a raw call. -/
namespace Go.Proofs.YtfmobeeddlnhcaaGreatDoor
open Go.RowKit Go.Maps

theorem donec_bad (tv : Value) (E ci kd size off n : Int) (A : Option Addr) (m c : Nat) (s : ByteArray) (pv : Value) (hci : ci = 0 ∨ ci = 2 ∨ ci = 3 ∨ ci = 5 ∨ ci = 6) (w : World) (h : StE w tv E) (hE : E ≠ 0) :
    Calls Tryz.prog 18 #[tv, .agg (callC ci kd size off n (.slice A m c) s pv)] w fun e w' => e = .returned (.agg (ansE E)) ∧ Below w.heap.size w w' := by
  rcases hci with rfl | rfl | rfl | rfl | rfl
  · exact done_bad0 tv E kd size off n A m c s pv w h hE
  · exact done_bad2 tv E kd size off n A m c s pv w h hE
  · exact done_bad3 tv E kd size off n A m c s pv w h hE
  · exact done_bad5 tv E kd size off n A m c s pv w h hE
  · exact done_bad6 tv E kd size off n A m c s pv w h hE

set_option maxRecDepth 100000 in
set_option maxHeartbeats 2000000 in
theorem far_one (wh f kd off n size : Int) (A : Option Addr) (m c : Nat) (s : ByteArray) (B : Nat) (w : World) (b : Blk w B 47 (actC wh f kd off n size (.slice A m c) s)) :
    Calls Tryz.prog 14 #[.slice (some ⟨B, 0, none⟩) 1 1, .int .i64 1] w fun e w' => e = .returned (.bool (decide (900 < s.size) || decide (20 < m))) ∧ w' = w := by
  have c6 : w.cell? ⟨B, 6, none⟩ = some (.slice A m c) := (b.cells 6).trans rfl
  have c7 : w.cell? ⟨B, 7, none⟩ = some (.string s) := (b.cells 7).trans rfl
  have lB := b.lt
  clear b
  by_cases h1 : 900 < s.size
  · have hd : (900 : Int) < (s.size : Int) := by omega
    have HV : Hid ((decide (900 < s.size) || decide (20 < m)) = true) := Lib.hid (by simp [h1])
    clear h1
    go_enter Tryz.func14, Tryz.ntmps14
    go_wp2_with fail
    go_loopw [5] (fun q wr => q = .int .i64 0 ∧ wr = w) (fun _ _ => 0)
    case atStart => exact ⟨rfl, rfl⟩
    case round =>
      obtain ⟨rfl, rfl⟩ := hrel
      go_wp2_with fail
      go_ret
      exact ⟨by rw [HV.out]; rfl, rfl⟩
  · have hd : ¬ (900 : Int) < (s.size : Int) := by omega
    by_cases h2 : 20 < m
    · have hd2 : (20 : Int) < (m : Int) := by omega
      have HV : Hid ((decide (900 < s.size) || decide (20 < m)) = true) := Lib.hid (by simp [h2])
      clear h1 h2
      go_enter Tryz.func14, Tryz.ntmps14
      go_wp2_with fail
      go_loopw [5] (fun q wr => q = .int .i64 0 ∧ wr = w) (fun _ _ => 0)
      case atStart => exact ⟨rfl, rfl⟩
      case round =>
        obtain ⟨rfl, rfl⟩ := hrel
        go_wp2_with fail
        go_ret
        exact ⟨by rw [HV.out]; rfl, rfl⟩
    · have hd2 : ¬ (20 : Int) < (m : Int) := by omega
      have HV : Hid ((decide (900 < s.size) || decide (20 < m)) = false) := Lib.hid (by simp [h1, h2])
      clear h1 h2
      go_enter Tryz.func14, Tryz.ntmps14
      go_wp2_with fail
      go_loopw [5] (fun q wr => (q = .int .i64 0 ∨ q = .int .i64 1) ∧ wr = w) (fun q _ => 1 - (intOf q).toNat)
      case atStart => exact ⟨.inl rfl, rfl⟩
      case round =>
        obtain ⟨rfl | rfl, rfl⟩ := hrel
        · go_wp2_with fail
          go_roundw
          case rel => exact ⟨.inr rfl, by trivial⟩
          case measure => simp [intOf]
        · go_wp2_with fail
          go_ret
          exact ⟨by rw [HV.out]; rfl, rfl⟩

end Go.Proofs.YtfmobeeddlnhcaaGreatDoor
/- P12.2 to P12.5: DataNone, walked. -/
namespace Go.Proofs.YtfmobeeddlnhcaaGreatDoor
open Go.RowKit Go.Maps

abbrev tx0 : Array Value := #[.pointer none, .int .i64 0, .int .i64 0, .int .i64 0, .int .i64 0, .int .i64 0, .int .i64 0, .int .i64 0, .int .i64 0, .int .i64 0, .int .i64 0, .int .i64 0, .slice none 0 0, .int .i64 0, .int .i64 0, .int .i64 0, .slice none 0 0, .map none, .bool false, .bool false, .bool false]

set_option maxRecDepth 100000 in
set_option maxHeartbeats 8000000 in
theorem dataNone_any (wh f kd off n size : Int) (A : Option Addr) (m c : Nat) (s : ByteArray) (hf : 0 ≤ f ∧ f ≤ 255) (hz : -9223372036854775808 ≤ size ∧ size ≤ 9223372036854775807) (w : World) (hH : HalfAt w) :
    Calls Tryz.prog 5 #[.agg (actC wh f kd off n size (.slice A m c) s)] w fun e w' => e = .returned (.bool true) ∧ Below w.heap.size w w' := by
  have hp0 := hH.1
  obtain ⟨wA, hA⟩ : ∃ wA, wA = w.alloc (.cells (actC wh f kd off n size (.slice A m c) s) 47) := ⟨_, rfl⟩
  have bA : Blk wA w.heap.size 47 (actC wh f kd off n size (.slice A m c) s) := by rw [hA]; exact Blk.new _ _ _
  have BA : Below w.heap.size w wA := by rw [hA]; (repeat' (first | (with_reducible exact Below.refl _ _) | (with_reducible assumption) | (with_reducible refine Below.alloc ?_ ?_ _) | (with_reducible refine Below.drew ?_) | (with_reducible refine below_drewN' ?_ _) | (with_reducible refine Below.setCell ?_ ?_ _) | (with_reducible exact Nat.le_refl _) | omega | (simp; done) | (simp; omega)))
  obtain ⟨wB, hB⟩ : ∃ wB, wB = wA.alloc (.cells (actC wh f kd off n size (.slice A m c) s) 47) := ⟨_, rfl⟩
  have bB : Blk wB wA.heap.size 47 (actC wh f kd off n size (.slice A m c) s) := by rw [hB]; exact Blk.new _ _ _
  have bAB : Blk wB w.heap.size 47 (actC wh f kd off n size (.slice A m c) s) := by rw [hB]; exact bA.alloc _
  have BB : Below w.heap.size w wB := by rw [hB]; exact BA.alloc BA.size _
  have zA : wA.heap.size = w.heap.size + 1 := by rw [hA]; simp
  have hfar := far_one wh f kd off n size A m c s wA.heap.size wB bB
  rw [zA] at hfar
  have HB := Lib.hid hB
  have cA := bA.cells
  have lA := bA.lt
  clear hB bB zA
  go_enter Tryz.func5, Tryz.ntmps5
  go_wp2_with fail
  rw [← hA]
  clear hA
  go_wp2_with fail
  rw [← HB.out]
  refine hfar.mono ?_
  clear HB cA lA bA BA hfar
  rintro e w1 ⟨rfl, rfl⟩
  by_cases hfr : (decide (900 < s.size) || decide (20 < m)) = true
  · rw [hfr]
    have hHa := awake_any w1 (hH.below BB hp0)
    go_wp2_with fail
    refine hHa.mono ?_
    rintro e w2 ⟨rfl, hb2⟩
    go_wp2_with fail
    go_ret
    exact ⟨rfl, BB.trans (hb2.mono BB.size)⟩
  have hfr' : (decide (900 < s.size) || decide (20 < m)) = false := by simpa using hfr
  rw [hfr']
  have hs9 : s.size ≤ 900 := by simp at hfr; omega
  have HS9 := Lib.hid hs9
  clear hfr hfr' hs9
  have b7 : Blk (w1.setCell ⟨w.heap.size, 0, none⟩ (.int .u8 7)) w.heap.size 47 (actC 7 f kd off n size (.slice A m c) s) := bAB.set_ 0 _
  have B7 : Below w.heap.size w (w1.setCell ⟨w.heap.size, 0, none⟩ (.int .u8 7)) := BB.setCell (p := ⟨w.heap.size, 0, none⟩) (Nat.le_refl _) _
  obtain ⟨w2, hw2⟩ : ∃ w2, w2 = w1.setCell ⟨w.heap.size, 0, none⟩ (.int .u8 7) := ⟨_, rfl⟩
  have fA := bAB.free
  have lA := bAB.lt
  have cA := bAB.cells
  rw [← hw2] at b7 B7
  clear bAB BB
  go_wp2_with fail
  rw [← hw2]
  clear hw2 fA lA cA
  have c7 := b7.cells
  have l7 := b7.lt
  go_wp2_with fail
  refine (of_raw f kd off n size A m c s HS9.out hf hz w2).mono ?_
  clear c7 l7 b7
  rintro e w3 ⟨hb3, ci, pw, hci, rfl, ps, hps⟩
  obtain ⟨Ap, cp, rfl⟩ := own_slice hps
  clear hps
  generalize ps.length = pn
  have B3 := B7.trans (hb3.mono B7.size)
  obtain ⟨w4, hw4⟩ : ∃ w4, w4 = w3.alloc (.cells (callC ci kd size off n (.slice A m c) s (.slice Ap pn cp)) 49) := ⟨_, rfl⟩
  have b4 : Blk w4 w3.heap.size 49 (callC ci kd size off n (.slice A m c) s (.slice Ap pn cp)) := by rw [hw4]; exact Blk.new _ _ _
  have B34 : Below w3.heap.size w3 w4 := by rw [hw4]; exact (Below.refl _ _).alloc (Nat.le_refl _) _
  have l4 := b4.lt
  have B4 : Below w.heap.size w w4 := B3.trans (B34.mono B3.size)
  have HW4 := Lib.hid hw4
  clear hb3 B7 HS9 hw4
  go_wp2_with fail
  rw [← HW4.out]
  have hlay := layout_any 0 0 (by omega) (by omega) w4
  rw [show (8 : Int) + 0 % 21 = 8 from rfl, show (1 : Int) + 0 % 26 = 1 from rfl] at hlay
  go_wp2_with fail
  refine hlay.mono ?_
  rintro e w5 ⟨rfl, hb5⟩
  have B5 := B4.trans (hb5.mono B4.size)
  have b5 := b4.belowAll hb5
  have hbg : Calls Tryz.prog 15 #[.agg #[.int .i64 64, .int .i64 8, .int .i64 1]] w5 (BegunPost w5 64 8 1) := begun_fresh 64 8 1 (by decide) w5 (hH.below B5 hp0)
  have l35 : w3.heap.size < w5.heap.size := Nat.lt_of_lt_of_le l4 hb5.size
  clear hlay hb5 b4 B4 l4 B34
  go_wp2_with fail
  refine hbg.mono ?_
  rintro e w6 ⟨D, T, F, B, y, rfl, -, h6, hb6, hF6, -⟩
  have B6 := B5.trans (hb6.mono B5.size)
  have b6 := b5.belowAll hb6
  have hT : T ∈ F := by obtain ⟨M, wv, nv, bT, hT, -⟩ := h6.tx.mem; exact hT
  have hT5 := hF6 T hT
  have hst : StE (w6.setCell ⟨T, 20, none⟩ (.bool true)) (.pointer (some ⟨T, 0, none⟩)) 9 := h6.tx.ended.st
  have b7 : Blk (w6.setCell ⟨T, 20, none⟩ (.bool true)) w3.heap.size 49 (callC ci kd size off n (.slice A m c) s (.slice Ap pn cp)) := b6.far (p := ⟨T, 20, none⟩) (by show w3.heap.size ≠ T; omega) _
  have B7 : Below w.heap.size w (w6.setCell ⟨T, 20, none⟩ (.bool true)) := B6.setCell (p := ⟨T, 20, none⟩) (by show w.heap.size ≤ T; have := B5.size; omega) _
  have hab := abort_tx T F D (freeTx 64 8 1) w6 h6.tx rfl
  clear hbg h6 hb6 hF6 b6 B6 b5 B5 hT
  go_wp2_with fail
  refine hab.mono ?_
  rintro e w7 ⟨rfl, hw7⟩
  rw [← hw7] at hst b7 B7
  have hd1 := donec_bad (.pointer none) 1 ci kd size off n A m c s (.slice Ap pn cp) hci w7 (.inl ⟨rfl, rfl⟩) (by decide)
  have c7 := b7.cells
  have l7 := b7.lt
  clear hab hw7 hT5
  go_wp2_with fail
  refine hd1.mono ?_
  rintro e w8 ⟨rfl, hb8⟩
  have b8 := b7.belowAll hb8
  have B8 := B7.trans (hb8.mono B7.size)
  have hst8 := hst.below hb8
  have l38 := b8.lt
  clear hd1 c7 l7 b7 B7 hst hb8
  obtain ⟨wX, hX⟩ : ∃ wX, wX = (w8.alloc (.cells (ansE 1) 52)).alloc (.cells tx0 69) := ⟨_, rfl⟩
  have aX : Blk wX w8.heap.size 52 (ansE 1) := by rw [hX]; exact (Blk.new _ _ _).alloc _
  have bX : Blk wX (w8.heap.size + 1) 69 tx0 := by rw [hX]; exact Blk.new' (by simp)
  have B8X : Below w8.heap.size w8 wX := by rw [hX]; (repeat' (first | (with_reducible exact Below.refl _ _) | (with_reducible assumption) | (with_reducible refine Below.alloc ?_ ?_ _) | (with_reducible refine Below.drew ?_) | (with_reducible refine below_drewN' ?_ _) | (with_reducible refine Below.setCell ?_ ?_ _) | (with_reducible exact Nat.le_refl _) | omega | (simp; done) | (simp; omega)))
  have bXX := b8.belowAll B8X
  have BX := B8.trans (B8X.mono B8.size)
  have hstX := hst8.below B8X
  have hd2 := donec_bad (.pointer (some ⟨w8.heap.size + 1, 0, none⟩)) 1 ci kd size off n A m c s (.slice Ap pn cp) hci wX (.inr ⟨w8.heap.size + 1, tx0, rfl, bX, .inl ⟨rfl, rfl⟩⟩) (by decide)
  have HX := Lib.hid hX
  have c8 := b8.cells
  clear hX bX B8X hst8 B8
  go_wp2_with fail
  rw [← HX.out]
  refine hd2.mono ?_
  rintro e wE ⟨rfl, hbE⟩
  have bE := bXX.belowAll hbE
  have aE := aX.belowAll hbE
  have BE := BX.trans (hbE.mono BX.size)
  have hstE := hstX.below hbE
  have lE := bE.lt
  have l8E := aE.lt
  clear hd2 c8 l38 b8 bXX aX BX hstX hbE HX
  obtain ⟨wY, hY⟩ : ∃ wY, wY = wE.alloc (.cells (ansE 1) 52) := ⟨_, rfl⟩
  have dY : Blk wY wE.heap.size 52 (ansE 1) := by rw [hY]; exact Blk.new _ _ _
  have BEY : Below wE.heap.size wE wY := by rw [hY]; (repeat' (first | (with_reducible exact Below.refl _ _) | (with_reducible assumption) | (with_reducible refine Below.alloc ?_ ?_ _) | (with_reducible refine Below.drew ?_) | (with_reducible refine below_drewN' ?_ _) | (with_reducible refine Below.setCell ?_ ?_ _) | (with_reducible exact Nat.le_refl _) | omega | (simp; done) | (simp; omega)))
  have bY := bE.belowAll BEY
  have aY := aE.belowAll BEY
  have BY := BE.trans (BEY.mono BE.size)
  have hd3 := donec_bad (.pointer (some ⟨T, 0, none⟩)) 9 ci kd size off n A m c s (.slice Ap pn cp) hci wY (hstE.below BEY) (by decide)
  have HY := Lib.hid hY
  have cE := bE.cells
  clear hY BEY BE hstE aE
  go_wp2_with fail
  rw [← HY.out]
  refine hd3.mono ?_
  rintro e wF ⟨rfl, hbF⟩
  have aF := aY.belowAll hbF
  have dF := dY.belowAll hbF
  have BF := BY.trans (hbF.mono BY.size)
  have l8F := aF.lt
  have lEF := dF.lt
  clear hd3 cE lE bE bY aY dY BY hbF HY l8E
  obtain ⟨wZ, hZ⟩ : ∃ wZ, wZ = wF.alloc (.cells (ansE 9) 52) := ⟨_, rfl⟩
  have eZ : Blk wZ wF.heap.size 52 (ansE 9) := by rw [hZ]; exact Blk.new _ _ _
  have BFZ : Below wF.heap.size wF wZ := by rw [hZ]; (repeat' (first | (with_reducible exact Below.refl _ _) | (with_reducible assumption) | (with_reducible refine Below.alloc ?_ ?_ _) | (with_reducible refine Below.drew ?_) | (with_reducible refine below_drewN' ?_ _) | (with_reducible refine Below.setCell ?_ ?_ _) | (with_reducible exact Nat.le_refl _) | omega | (simp; done) | (simp; omega)))
  have aZ := aF.belowAll BFZ
  have dZ := dF.belowAll BFZ
  have BZ := BF.trans (BFZ.mono BF.size)
  have HZ := Lib.hid hZ
  have ha1 := alike_none 1 wZ
  have cF := aF.cells
  clear hZ BFZ BF dF
  go_wp2_with fail
  rw [← HZ.out]
  refine ha1.mono ?_
  rintro e wG ⟨rfl, hbG⟩
  have dG := dZ.belowAll hbG
  have eG := eZ.belowAll hbG
  have BG := BZ.trans (hbG.mono BZ.size)
  have ha2 := alike_none 1 wG
  have cG := dG.cells
  have lG := dG.lt
  clear ha1 cF l8F lEF aF aZ dZ eZ BZ hbG HZ
  go_wp2_with fail
  refine ha2.mono ?_
  rintro e wH ⟨rfl, hbH⟩
  have eH := eG.belowAll hbH
  have BH := BG.trans (hbH.mono BG.size)
  have ha3 := alike_none 9 wH
  have cH := eH.cells
  have lH := eH.lt
  clear ha2 cG lG dG eG BG hbH
  go_wp2_with fail
  refine ha3.mono ?_
  rintro e wI ⟨rfl, hbI⟩
  have BI := BH.trans (hbI.mono BH.size)
  have hHa := awake_any wI (hH.below BI hp0)
  clear ha3 cH lH eH BH hbI
  go_wp2_with fail
  refine hHa.mono ?_
  rintro e wJ ⟨rfl, hbJ⟩
  have BJ := BI.trans (hbJ.mono BI.size)
  go_wp2_with fail
  go_ret
  exact ⟨rfl, BJ⟩

end Go.Proofs.YtfmobeeddlnhcaaGreatDoor
/- Arguments opened: a slice of one-cell elements as a list. -/
namespace Go.Proofs.YtfmobeeddlnhcaaGreatDoor
open Go.ChangeShapes Go.WideShapes Go.ChangeAt Go.RowKit Go.Deep

theorem list_of {α : Type} (q : Nat → α → Prop) (n : Nat) (h : ∀ i, i < n → ∃ a, q i a) : ∃ xs : List α, xs.length = n ∧ ∀ i (hi : i < xs.length), q i xs[i] := by
  induction n with
  | zero => exact ⟨[], rfl, fun i hi => by simp at hi⟩
  | succ n ih =>
    obtain ⟨xs, hl, hx⟩ := ih (fun i hi => h i (by omega))
    obtain ⟨a, ha⟩ := h n (by omega)
    refine ⟨xs ++ [a], by simp [hl], fun i hi => ?_⟩
    by_cases hin : i < xs.length
    · rw [List.getElem_append_left hin]; exact hx i hin
    · have : i = n := by simp at hi; omega
      subst this
      rw [List.getElem_append_right (by omega)]
      simpa [hl] using ha

/-- A slice of one-cell elements that came in. -/
theorem open_cells {H : Type} {enc : TypeId × Value → H} {P : Program} {W : World} {α : Type} (mk : α → Value) {t e : TypeId} {fuel : Nat} {v : Value} {x : DataW H × List MemPlace} (ht : P.underlying t = some (.slice e)) (hC : P.cellsOf e = 1)
    (hel : ∀ n cs x, DataW.trod enc P W 0 (fun _ => true) true n e cs = some x → ∃ a, cs = [mk a])
    (h : DataW.trod enc P W 0 (fun _ => true) true fuel t [v] = some x) :
    ∃ (A : Option Addr) (n c : Nat) (xs : List α), v = .slice A n c ∧ xs.length = n ∧ Reads W A (xs.map mk) ∧ n ≤ c ∧ c ≤ maxLen ∧ (A = none → n = 0 ∧ c = 0) := by
  rcases open_slice ht h with ⟨h0, _⟩ | ⟨a, len, cap, m, n, D, Pl, hcs, hb, hl, hm, hmm, hx, hi⟩
  · simp only [List.cons.injEq, and_true] at h0
    subst h0
    exact ⟨none, 0, 0, [], rfl, rfl, Reads.nil, Nat.le_refl _, Nat.zero_le _, fun _ => ⟨rfl, rfl⟩⟩
  · simp only [List.cons.injEq, and_true] at hcs
    subst hcs
    simp only [if_true] at hmm
    have hat : ∀ i, i < len → ∃ u : α, W.cell? (a.add i) = some (mk u) := by
      intro i hi'
      obtain ⟨cs', hc, ht'⟩ := hi i (by omega)
      rw [hC, Nat.mul_one] at hc
      obtain ⟨u, rfl⟩ := hel n cs' _ ht'
      obtain ⟨_, _, hat⟩ := World.cells?_some hc
      have := hat 0 (by omega)
      refine ⟨u, ?_⟩
      simpa [Addr.add] using this
    obtain ⟨xs, hxl, hxs⟩ := list_of (fun i u => W.cell? (a.add i) = some (mk u)) len hat
    refine ⟨some a, len, cap, xs, rfl, hxl, ?_, hl, hm, fun h => by cases h⟩
    rcases Nat.eq_zero_or_pos len with h0 | h0
    · left
      have : xs = [] := List.eq_nil_of_length_eq_zero (by omega)
      simp [this]
    · right
      obtain ⟨b, off, spot⟩ := a
      have h1 := hxs 0 (by omega)
      have hspot : spot = none := by simpa [Addr.add] using World.cell?_spot h1
      subst hspot
      refine ⟨b, off, rfl, ?_, fun j u hu => ?_⟩
      · have := World.block_lt_of_cell? W _ h1
        simpa [Addr.add] using this
      · rw [List.getElem?_map] at hu
        by_cases hj : j < xs.length
        · rw [List.getElem?_eq_getElem hj, Option.map_some, Option.some.injEq] at hu
          subst hu
          have := hxs j hj
          unfold Addr.add at this
          split at this
          · rename_i hj0; subst hj0; simpa using this
          · exact this
        · rw [List.getElem?_eq_none (by omega)] at hu; simp at hu

end Go.Proofs.YtfmobeeddlnhcaaGreatDoor
/- Arguments opened: an act. -/
namespace Go.Proofs.YtfmobeeddlnhcaaGreatDoor
open Go.ChangeShapes Go.WideShapes Go.ChangeAt Go.RowKit Go.Deep

theorem Tryz.cellsInt : Tryz.prog.cellsOf 3 = 1 := by kernel_rfl
theorem Tryz.cellsU8 : Tryz.prog.cellsOf 5 = 1 := by kernel_rfl
theorem Tryz.cellsStr : Tryz.prog.cellsOf 9 = 1 := by kernel_rfl
theorem Tryz.cellsInts : Tryz.prog.cellsOf 40 = 1 := by kernel_rfl
theorem Tryz.cellsAct : Tryz.prog.cellsOf 47 = 8 := by kernel_rfl

section
variable {H : Type} {enc : TypeId × Value → H} {W : World}

set_option maxRecDepth 100000 in
theorem open_ints' {fuel : Nat} {v : Value} {x : DataW H × List MemPlace} (h : DataW.trod enc Tryz.prog W 0 (fun _ => true) true fuel 40 [v] = some x) :
    ∃ (A : Option Addr) (n c : Nat) (xs : List Int), v = .slice A n c ∧ xs.length = n ∧ Reads W A (xs.map (Value.int .i64)) ∧ n ≤ c ∧ c ≤ maxLen ∧ (A = none → n = 0 ∧ c = 0) :=
  open_cells (Value.int .i64) Tryz.underlying40 Tryz.cellsInt (fun n cs x hx => by obtain ⟨b, rfl, _⟩ := DataW.trod_int Tryz.underlying3 hx; exact ⟨b, rfl⟩) h

set_option maxRecDepth 100000 in
/-- An act as its cells. -/
theorem open_act_cells {fuel : Nat} {cs : List Value} (hsz : cs.length = 8) {x : DataW H × List MemPlace} (h : DataW.trod enc Tryz.prog W 0 (fun _ => true) true fuel 47 cs = some x) :
    ∃ (wh f kd off n size : Int) (A : Option Addr) (m c : Nat) (l : List Int) (s : ByteArray), cs = [.int .u8 wh, .int .u8 f, .int .i64 kd, .int .i64 off, .int .i64 n, .int .i64 size, .slice A m c, .string s] ∧
      (Lit.int .u8 wh).wf = true ∧ (Lit.int .u8 f).wf = true ∧ (Lit.int .i64 kd).wf = true ∧ (Lit.int .i64 off).wf = true ∧ (Lit.int .i64 n).wf = true ∧ (Lit.int .i64 size).wf = true ∧ l.length = m ∧ Reads W A (l.map (Value.int .i64)) ∧ m ≤ c ∧ c ≤ maxLen ∧ (A = none → m = 0 ∧ c = 0) ∧ s.size ≤ maxLen := by
  match cs, hsz with
  | [c0, c1, c2, c3, c4, c5, c6, c7], _ =>
    obtain ⟨xs, n, _, _, _, hlen, hg⟩ := DataW.trod_struct Tryz.underlying47 h
    have g0 : DataW.trod enc Tryz.prog W 0 (fun _ => true) true n 5 [c0] = xs[0]? := by have := hg 0 _ rfl; simpa [Tryz.cellsU8, Value.cells] using this
    have g1 : DataW.trod enc Tryz.prog W 0 (fun _ => true) true n 5 [c1] = xs[1]? := by have := hg 1 _ rfl; simpa [Tryz.cellsU8, Value.cells] using this
    have g2 : DataW.trod enc Tryz.prog W 0 (fun _ => true) true n 3 [c2] = xs[2]? := by have := hg 2 _ rfl; simpa [Tryz.cellsInt, Value.cells] using this
    have g3 : DataW.trod enc Tryz.prog W 0 (fun _ => true) true n 3 [c3] = xs[3]? := by have := hg 3 _ rfl; simpa [Tryz.cellsInt, Value.cells] using this
    have g4 : DataW.trod enc Tryz.prog W 0 (fun _ => true) true n 3 [c4] = xs[4]? := by have := hg 4 _ rfl; simpa [Tryz.cellsInt, Value.cells] using this
    have g5 : DataW.trod enc Tryz.prog W 0 (fun _ => true) true n 3 [c5] = xs[5]? := by have := hg 5 _ rfl; simpa [Tryz.cellsInt, Value.cells] using this
    have g6 : DataW.trod enc Tryz.prog W 0 (fun _ => true) true n 40 [c6] = xs[6]? := by have := hg 6 _ rfl; simpa [Tryz.cellsInts, Value.cells] using this
    have g7 : DataW.trod enc Tryz.prog W 0 (fun _ => true) true n 9 [c7] = xs[7]? := by have := hg 7 _ rfl; simpa [Tryz.cellsStr, Value.cells] using this
    clear hg
    match xs, hlen with
    | [y0, y1, y2, y3, y4, y5, y6, y7], _ =>
      simp only [List.getElem?_cons_zero, List.getElem?_cons_succ] at g0 g1 g2 g3 g4 g5 g6 g7
      obtain ⟨a0, e0, _, w0⟩ := DataW.trod_int Tryz.underlying5 g0
      obtain ⟨a1, e1, _, w1⟩ := DataW.trod_int Tryz.underlying5 g1
      obtain ⟨a2, e2, _, w2⟩ := DataW.trod_int Tryz.underlying3 g2
      obtain ⟨a3, e3, _, w3⟩ := DataW.trod_int Tryz.underlying3 g3
      obtain ⟨a4, e4, _, w4⟩ := DataW.trod_int Tryz.underlying3 g4
      obtain ⟨a5, e5, _, w5⟩ := DataW.trod_int Tryz.underlying3 g5
      obtain ⟨s, e7, _, w7⟩ := DataW.trod_string Tryz.underlying9 g7
      simp at e0 e1 e2 e3 e4 e5 e7
      subst e0 e1 e2 e3 e4 e5 e7
      obtain ⟨A, m, c, l, rfl, q1, q2, q3, q4, q5⟩ := open_ints' g6
      exact ⟨a0, a1, a2, a3, a4, a5, A, m, c, l, s, rfl, w0, w1, w2, w3, w4, w5, q1, q2, q3, q4, q5, w7⟩

set_option maxRecDepth 100000 in
/-- An act that came in. -/
theorem open_act {r : Reach} {b0 : Nat} {v : Value} {d : DataW H} {p : List MemPlace} (hv : Value.okWide Tryz.prog W r b0 47 v) (h : DataW.Trod enc Tryz.prog W 0 (fun _ => true) true 47 v d p) :
    ∃ (wh f kd off n size : Int) (A : Option Addr) (m c : Nat) (s : ByteArray), v = .agg #[.int .u8 wh, .int .u8 f, .int .i64 kd, .int .i64 off, .int .i64 n, .int .i64 size, .slice A m c, .string s] ∧
      (Lit.int .u8 f).wf = true ∧ (Lit.int .i64 size).wf = true := by
  obtain ⟨cs, rfl, hsz⟩ := okWide_struct Tryz.underlying47 hv
  rw [Tryz.cellsAct] at hsz
  obtain ⟨l0⟩ := cs
  obtain ⟨fuel, hf⟩ := h
  obtain ⟨wh, f, kd, off, n, size, A, m, c, l, s, e, -, wf, -, -, -, wz, -⟩ := open_act_cells (cs := l0) hsz (by simpa [Value.cells] using hf)
  subst e
  exact ⟨wh, f, kd, off, n, size, A, m, c, s, rfl, wf, wz⟩
end
theorem wf_u8_iff {f : Int} (h : (Lit.int .u8 f).wf = true) : 0 ≤ f ∧ f ≤ 255 := by
  simp [Lit.wf, IntKind.min, IntKind.max, IntKind.bits, IntKind.signed] at h; omega
theorem wf_i64_iff {f : Int} (h : (Lit.int .i64 f).wf = true) : -9223372036854775808 ≤ f ∧ f ≤ 9223372036854775807 := by
  simp [Lit.wf, IntKind.min, IntKind.max, IntKind.bits, IntKind.signed] at h; omega

end Go.Proofs.YtfmobeeddlnhcaaGreatDoor
