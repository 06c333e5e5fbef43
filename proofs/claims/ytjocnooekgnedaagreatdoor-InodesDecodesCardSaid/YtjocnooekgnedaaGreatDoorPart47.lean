/- Parts of the proof, put together by program: LH, LI, IL, ID. -/
import Derived.Test.YtjocnooekgnedaaGreatDoorPart45
import Derived.Test.YtjocnooekgnedaaGreatDoorPart46
import Derived.Shelf.SlLaysF0
import Derived.Test.YtjocnooekgnedaaGreatDoorProg
import Derived.Shelf.SlSortCmp.WholeK
set_option linter.unusedVariables false
set_option linter.unusedSimpArgs false
/- Layer 11: All. -/
namespace Go.Proofs.YtjocnooekgnedaaGreatDoor
open Go.RowKit Go.Shelf Go.Maps Go.Sort

attribute [local go_sem] Oper.semAt_some

theorem own_from (base C : Nat) (e : TypeId) (size : Nat) (v : Value) (k : Nat) (xs : List Value) {A B : World} {row : Option Nat} (ho : A.ownsRow base e size v k xs) (hg : A.grownBy B row) (hr : ∀ r, row = some r → C ≤ r ∧ ∃ o : Obj, A.heap[r]? = some o ∧ o.isCells = false) : B.ownsRow base e size v k xs :=
  own_block ho (fun g e => by
    rcases ho.2 with ⟨rfl, _⟩ | ⟨g', cap, cur, rfl, _, hgb, _⟩
    · cases e
    · have e' : g' = g := by simpa [Value.ownBlock] using e
      subst e'
      refine hg.block g' (Array.getElem?_eq_some_iff.1 hgb).1 (fun e2 => ?_)
      obtain ⟨o, h1, h2⟩ := (hr g' e2.symm).2
      rw [hgb] at h1; cases h1; cases h2)
/-- A row of another type is left alone where a row grows. -/
theorem row_kept {W w2 : World} {Bx base size1 size2 k m : Nat} {e1 e2 : TypeId} {v bv u : Value} {xs ys : List Value} {tmp : Obj} (hrow : W.ownsRow base e1 size1 v k xs) (hb : W.ownsRow base e2 size2 bv m ys) (hne : e1 ≠ e2)
    (hgrow : (W.alloc tmp).grownBy w2 v.ownBlock) (hB : Bx < base) : (w2.setCell ⟨Bx, 0, none⟩ u).ownsRow base e2 size2 bv m ys :=
  own_block hb (fun g e => by
    rcases hb.2 with ⟨rfl, _⟩ | ⟨g', cap, cur, rfl, hge, hgb, _⟩
    · cases e
    · have e' : g' = g := by simpa [Value.ownBlock] using e
      subst e'
      have hl := (Array.getElem?_eq_some_iff.1 hgb).1
      refine (Below.heap_setCell _ _ _ _ (by show g' ≠ Bx; omega)).trans ((hgrow.block g' (by simp; omega) (fun e9 => ?_)).trans (Below.heap_alloc _ _ _ hl))
      rcases hrow.2 with ⟨rfl, _⟩ | ⟨g2, cap2, cur2, rfl, _, hgb2, _⟩
      · cases e9
      · have e8 : g2 = g' := by simpa [Value.ownBlock, eq_comm] using e9
        subst e8
        rw [hgb] at hgb2
        simp at hgb2
        exact hne hgb2.2.symm)
def nodeL (y : TxS) (x : DevS) (z : EachX) : List Value := (inoC (y.iget x ((z.k : Int) + 1)).1 z.bv z.av).toList
def ZRows (base : Nat) (y : TxS) (x : DevS) (W : World) (z : EachX) : Prop :=
  W.ownsRow base 3 1 z.bv (y.iget x ((z.k : Int) + 1)).1.blocks.length ((y.iget x ((z.k : Int) + 1)).1.blocks.map (.int .i64)) ∧ W.ownsRow base 3 1 z.av (y.iget x ((z.k : Int) + 1)).1.attrs.length ((y.iget x ((z.k : Int) + 1)).1.attrs.map (.int .i64))
def NodesBox (Bo base : Nat) (y : TxS) (x : DevS) (l : List EachX) (W : World) : Prop :=
  (∃ v, Boxed W Bo 63 v ∧ W.ownsRow base 26 8 v l.length (l.flatMap (nodeL y x)) ∧ (v = .slice none 0 0 ↔ l = [])) ∧ ∀ z ∈ l, ZRows base y x W z
theorem nodesBox_own (Bo base C : Nat) (y : TxS) (x : DevS) : OwnFrom C (fun (l : List EachX) W => NodesBox Bo base y x l W) := fun l A B row hs hg hr =>
  ⟨(Own.from (holdsRow_own base Bo 63 26 8 (fun l : List EachX => l.length) (fun l => l.flatMap (nodeL y x)) (fun l v => v = .slice none 0 0 ↔ l = [])) C) l A B row hs.1 hg hr,
   fun z hz => ⟨own_from base C _ _ _ _ _ (hs.2 z hz).1 hg hr, own_from base C _ _ _ _ _ (hs.2 z hz).2 hg hr⟩⟩
theorem Tryz.infoNode : (Tryz.prog.info? 26).map (fun i => (i.zero, i.size, i.bytes)) = some (some (.agg inoZ), 8, 96) := by kernel_rfl
def AllPost (y : TxS) (x : DevS) (m : Nat) (w : World) (e : Ending) (w' : World) : Prop :=
  ∃ v zs, e = .returned (.tuple #[v, .int .i64 0]) ∧ zs.length = m ∧ (∀ j, (h : j < zs.length) → zs[j].k = j) ∧ w'.ownsRow w.heap.size 26 8 v zs.length (zs.flatMap (nodeL y x)) ∧ (∀ z ∈ zs, ZRows w.heap.size y x w' z) ∧ (v = .slice none 0 0 ↔ zs = []) ∧ Below w.heap.size w w'

set_option maxRecDepth 100000 in
set_option maxHeartbeats 4000000 in
theorem All_tx (hDe : DecodeAll) (T : Nat) (F : List Nat) (D : Nat) (y : TxS) (B : List Nat) (x : DevS) (vs : List Ino) (w : World) (h : TxAt w T F D y) (hd : DevAt w D B x) (hs : y.stateE = 0) (htab : Tab y x vs) :
    Calls Tryz.prog 26 #[.pointer (some ⟨T, 0, none⟩)] w (AllPost y x y.i.toNat w) := by
  have hbd := h.ok.bds
  have hz0 : ∀ k, k < y.i.toNat → (y.iget x ((k : Int) + 1)).2 = 0 := fun k hk => by
    have := htab.len
    rw [htab.get k (by omega)]
  obtain ⟨wA, hA⟩ : ∃ wA, wA = (w.alloc (.cells #[.slice none 0 0] 63)).alloc (.cells #[.int .i64 0] 30) := ⟨_, rfl⟩
  have bR1 : Blk wA w.heap.size 63 #[.slice none 0 0] := by rw [hA]; exact (by (repeat' (first | (with_reducible assumption) | exact Blk.new' (by simp) | refine Blk.alloc ?_ _)))
  have bR2 : Blk wA (w.heap.size + 1) 30 #[.int .i64 0] := by rw [hA]; exact (by (repeat' (first | (with_reducible assumption) | exact Blk.new' (by simp) | refine Blk.alloc ?_ _)))
  have BA : Below w.heap.size w wA := by rw [hA]; (repeat' (first | (with_reducible exact Below.refl _ _) | (with_reducible assumption) | (with_reducible refine Below.alloc ?_ ?_ _) | (with_reducible refine Below.drew ?_) | (with_reducible refine below_drewN' ?_ _) | (with_reducible refine Below.setCell ?_ ?_ _) | (with_reducible exact Nat.le_refl _) | omega | (simp; done) | (simp; omega)))
  have hop := iopen_tx T F D y wA (h.below BA) hs
  have HX := Lib.hid (And.intro h hd)
  have HS := Lib.hid hs
  have HZ := Lib.hid hz0
  have hi60 : y.i.toNat ≤ 60 := by omega
  clear h hd hs htab hz0 hbd
  refine calls_of_marks Tryz.func26 rfl ?_
  simp only [Tryz.ntmps26, List.size_toArray, List.length_cons, List.length_nil, Nat.reduceAdd, Nat.reduceSub, Array.replicate_succ, Array.replicate_zero, List.push_toArray, List.append_toArray, List.nil_append, List.cons_append]
  go_wp2_with fail
  rw [← hA]
  clear hA
  go_wp2_with fail
  refine hop.mono ?_
  rintro e w1 ⟨rfl, hb1⟩
  obtain ⟨w2, hw2⟩ : ∃ w2, w1.alloc (.cells (layC y) 23) = w2 := ⟨_, rfl⟩
  obtain ⟨N2, hN2⟩ : ∃ N2, w1.heap.size = N2 := ⟨_, rfl⟩
  have b12 : Below w1.heap.size w1 w2 := by rw [← hw2]; exact (Below.refl _ _).alloc (Nat.le_refl _) _
  have bL2 : Blk w2 N2 23 (layC y) := by rw [← hw2, ← hN2]; exact Blk.new _ _ _
  have z2 : w2.heap.size = N2 + 1 := by rw [← hw2, ← hN2]; simp
  have bR12 := (bR1.belowAll hb1).belowAll b12
  have bR22 := (bR2.belowAll hb1).belowAll b12
  have B1 := BA.trans (hb1.mono BA.size)
  have B2 := B1.trans (b12.mono B1.size)
  have HW := Lib.hid hw2
  have HN := Lib.hid hN2
  have hN2' : w.heap.size + 2 ≤ N2 := by
    have h1 := bR2.lt
    have h2 := hb1.size
    omega
  clear hw2 hN2 b12 hop BA hb1 B1 bR1 bR2
  go_upto_region 2 with fail
  rw [HW.out, HN.out]
  obtain ⟨w3, hw3⟩ : ∃ w3, w3 = w2.alloc (.cells #[.slice none 0 0] 63) := ⟨_, rfl⟩
  have bO3 : Blk w3 (N2 + 1) 63 #[.slice none 0 0] := by rw [hw3]; exact Blk.new' z2.symm
  have b23 : Below w2.heap.size w2 w3 := by rw [hw3]; exact (Below.refl _ _).alloc (Nat.le_refl _) _
  have z3 : w3.heap.size = N2 + 2 := by rw [hw3]; simp; omega
  have bL3 := bL2.belowAll b23
  have bR13 := bR12.belowAll b23
  have bR23 := bR22.belowAll b23
  have B3 := B2.trans (b23.mono B2.size)
  have hea := each_any T y w3
  rw [z3] at hea
  have cL := bL3.cells
  have lL := bL3.lt
  have Z2 := Lib.hid z2
  rw [hw3] at cL lL
  clear z2
  go_wp2_with fail
  rw [← hw3, Z2.out]
  have HW3 := Lib.hid hw3
  clear hw3 cL lL bL2 bR12 bR22
  refine hea.mono ?_
  rintro e w4 ⟨rfl, hw4⟩
  have b1 : Blk w4 (N2 + 2) 42 #[.pointer (some ⟨T, 0, none⟩)] := by rw [hw4, ← z3]; exact (by (repeat' (first | (with_reducible assumption) | exact Blk.new' (by simp) | refine Blk.alloc ?_ _)))
  have b2 : Blk w4 (N2 + 2 + 1) 23 (layC y) := by rw [hw4, ← z3]; exact (by (repeat' (first | (with_reducible assumption) | exact Blk.new' (by simp) | refine Blk.alloc ?_ _)))
  have b3 : Blk w4 (N2 + 2 + 2) 3 #[.int .i64 (2 + y.j)] := by rw [hw4, ← z3]; exact (by (repeat' (first | (with_reducible assumption) | exact Blk.new' (by simp) | refine Blk.alloc ?_ _)))
  have z4 : w4.heap.size = N2 + 5 := by rw [hw4]; simp; omega
  have b34 : Below w3.heap.size w3 w4 := by rw [hw4]; (repeat' (first | (with_reducible exact Below.refl _ _) | (with_reducible assumption) | (with_reducible refine Below.alloc ?_ ?_ _) | (with_reducible refine Below.drew ?_) | (with_reducible refine below_drewN' ?_ _) | (with_reducible refine Below.setCell ?_ ?_ _) | (with_reducible exact Nat.le_refl _) | omega | (simp; done) | (simp; omega)))
  have bO4 := bO3.belowAll b34
  have bR14 := bR13.belowAll b34
  have bR24 := bR23.belowAll b34
  have B4 := B3.trans (b34.mono B3.size)
  obtain ⟨i0, hi, hz0, hzs, hzb⟩ := info_parts Tryz.infoNode
  have HHI := Lib.hid hi
  have Z4 := Lib.hid z4
  clear hea hw4 bL3 bO3 bR13 bR23 b34 hi z4 z3 b23
  go_wp2_with fail
  have z4 := Z4.out
  refine range_meet2 (n := 6) (fun E W => W.heap[E]? = some (.deferred (some [])) ∧ E = N2 + 5 ∧ ∃ xs : List EachX, xs.length = y.i.toNat ∧ (∀ j, (h : j < xs.length) → xs[j].k = j) ∧ NodesBox (N2 + 1) w4.heap.size y x xs W ∧ KeepEx w4.heap.size [N2 + 1] w4 W)
    (fun _ _ => False) ?loop ?after ?back
  case loop =>
    refine wpIn_rangeFunc_good rfl (by omega) (gf := 80) (lb := #[.pointer (some ⟨N2 + 2 + 1, 0, none⟩), .pointer (some ⟨N2 + 2, 0, none⟩), .pointer (some ⟨N2 + 2 + 2, 0, none⟩)]) rfl trivial (enters_of Tryz.func80 (by kernel_rfl) rfl)
      (each_good hDe (6 - 1) (by omega) T F D y B x (N2 + 2) (N2 + 2 + 1) (N2 + 2 + 2) w w4 HX.out.1 HX.out.2 HS.out B4 [N2 + 1] (by simp; omega) b1 b2 b3 (by simp) (by simp) (by simp))
      keepEx_t (keepEx_b (Nat.le_refl _)) (Below.refl _ _) (fun _ => rfl)
      (fun pre W => NodesBox (N2 + 1) w4.heap.size y x pre W ∧ KeepEx w4.heap.size [N2 + 1] w4 W ∧ pre.length ≤ y.i.toNat ∧ ∀ j, (h : j < pre.length) → pre[j].k = j)
      (fun _ _ _ => False)
      (OwnFrom.and (nodesBox_own _ _ _ _ _) (OwnFrom.and (ownFrom_keepEx (Nat.le_refl _) (Nat.le_refl _)) ownFrom_pure'))
      (fun _ _ _ _ hf => hf) ⟨⟨⟨_, bO4, World.ownsRow_nil _ _ _ _, by simp⟩, fun z hz => absurd hz (by simp)⟩, KeepEx.refl _ _ _, Nat.zero_le _, fun j h => absurd h (by simp)⟩
      (fun pre z a' W => ∃ g, w4.heap.size ≤ g ∧ a' = { tmps := #[.pointer (some ⟨T, 0, none⟩), undef, .pointer (some ⟨w.heap.size, 0, none⟩), .pointer (some ⟨w.heap.size + 1, 0, none⟩), .pointer (some ⟨N2, 0, none⟩), .int .i64 (2 + y.j), .int .i64 0, .pointer (some ⟨N2 + 1, 0, none⟩), undef, .pointer (some ⟨g, 0, none⟩), .tuple #[.agg (layC y), .int .i64 (2 + y.j), .int .i64 0], .pointer (some ⟨T, 0, none⟩), .tuple #[.agg (layC y), .int .i64 (2 + y.j), .int .i64 0], .agg (layC y), .int .i64 (2 + y.j), .int .i64 0, .int .i64 0, .bool false, undef, .pointer (some ⟨T, 0, none⟩), .agg (layC y), .int .i64 (2 + y.j), .func (.func 80) #[] #[.pointer (some ⟨N2 + 2 + 1, 0, none⟩), .pointer (some ⟨N2 + 2, 0, none⟩), .pointer (some ⟨N2 + 2 + 2, 0, none⟩)], .int .i64 ((z.k : Int) + 1), .agg (eachC (y.iget x ((z.k : Int) + 1)).1 z.bv z.av (y.iget x ((z.k : Int) + 1)).2), undef, undef, undef, undef, undef, undef, undef, undef, undef, undef, undef], defers := [] } ∧ Blk W g 118 (eachC (y.iget x ((z.k : Int) + 1)).1 z.bv z.av (y.iget x ((z.k : Int) + 1)).2) ∧ z.k = pre.length ∧ z.k < y.i.toNat ∧ ZRows w4.heap.size y x W z)
      ?ax ?assign ?body ?done ?stop
    case ax =>
      rintro pre z a' s X1 Y1 row ⟨g, hg, ha, hb, hz, hz2, hr⟩ h1 h2
      exact ⟨g, hg, ha, blk_own w4.heap.size g _ _ () X1 Y1 row hb h1 h2, hz, hz2, own_from w4.heap.size w4.heap.size _ _ _ _ _ hr.1 h1 h2, own_from w4.heap.size w4.heap.size _ _ _ _ _ hr.2 h1 h2⟩
    case assign =>
      rintro l pre z W K hI hG hK
      obtain ⟨k, bv, av⟩ := z
      have hk1 := hG.at_
      have hk2 := hG.lt
      have hrb := hG.rb
      have hra := hG.ra
      simp only at hrb hra hk1 hk2
      obtain ⟨Ab, cb, rfl⟩ := own_slice hrb
      obtain ⟨Aa, ca, rfl⟩ := own_slice hra
      clear hG
      have HI := Lib.hid hI
      have HK := Lib.hid hK
      have HK1 := Lib.hid hk1
      have HRR := Lib.hid (And.intro hrb hra)
      obtain ⟨W5, hW5⟩ : ∃ W5, W5 = W.alloc (.cells (eachC (y.iget x ((k : Int) + 1)).1 (.slice Ab (y.iget x ((k : Int) + 1)).1.blocks.length cb) (.slice Aa (y.iget x ((k : Int) + 1)).1.attrs.length ca) (y.iget x ((k : Int) + 1)).2) 118) := ⟨_, rfl⟩
      have hbl : Below W.heap.size W W5 := by rw [hW5]; exact (Below.refl _ _).alloc (Nat.le_refl _) _
      have hke : KeepEx w4.heap.size [N2 + 1] W W5 := KeepEx.of_below (hbl.mono hI.2.1.size)
      have hbk : Blk W5 W.heap.size 118 (eachC (y.iget x ((k : Int) + 1)).1 (.slice Ab (y.iget x ((k : Int) + 1)).1.blocks.length cb) (.slice Aa (y.iget x ((k : Int) + 1)).1.attrs.length ca) (y.iget x ((k : Int) + 1)).2) := by rw [hW5]; exact Blk.new _ _ _
      have hnb : NodesBox (N2 + 1) w4.heap.size y x pre W5 := by
        obtain ⟨⟨⟨v, hv, hrow, hnil⟩, hzr⟩, hK1, -⟩ := hI
        have := hK1.size
        exact ⟨⟨v, (hbl.block _ (by omega)).trans hv, own_below hrow hbl, hnil⟩, fun z hz => ⟨own_below (hzr z hz).1 hbl, own_below (hzr z hz).2 hbl⟩⟩
      have HB := Lib.hid hbl
      have HE := Lib.hid hke
      have HBK := Lib.hid hbk
      have HNB := Lib.hid hnb
      have HW5 := Lib.hid hW5
      clear hI hK hbl hke hk1 hrb hra hbk hnb hW5
      gi_wp2
      rw [← HW5.out]
      exact HK.out _ _ (keepsFrom_ex (bs := []) (KeepEx.of_below HB.out) (fun _ h => absurd h (by simp))) HE.out ⟨HNB.out, HI.out.2.1.trans HE.out, HI.out.2.2⟩ ⟨W.heap.size, HI.out.2.1.size, rfl, HBK.out, HK1.out, hk2, own_below HRR.out.1 HB.out, own_below HRR.out.2 HB.out⟩
    case body =>
      rintro l pre z a' W hsz ⟨⟨⟨v, hv, hrow, hnil⟩, hzr⟩, hKe, hple, hpre⟩ ⟨g, hg, rfl, hb, hz1, hz2, hzz⟩
      obtain ⟨k, bv, av⟩ := z
      simp only at hb hz1 hz2
      have he0 := HZ.out k hz2
      have hnl : nodeL y x ⟨k, bv, av⟩ = (inoC (y.iget x ((k : Int) + 1)).1 bv av).toList := rfl
      have hzz2 := hzz
      unfold ZRows at hzz2
      simp only at hzz2
      obtain ⟨Ab, cb, e1⟩ := own_slice hzz2.1
      obtain ⟨Aa, ca, e2⟩ := own_slice hzz2.2
      have HZZ := Lib.hid hzz
      have HZR := Lib.hid hzr
      have HPR := Lib.hid hpre
      have HZ1 := Lib.hid hz1
      have HKE := Lib.hid hKe
      have hsz2 := hKe.size
      have hpl : pre.length ≤ 60 := by omega
      generalize y.iget x ((k : Int) + 1) = r at *
      obtain ⟨rv, re⟩ := r
      simp only at hb he0 e1 e2 hnl ⊢
      subst he0
      generalize rv.blocks.length = nb at e1
      generalize rv.attrs.length = na at e2
      subst e1 e2
      obtain ⟨ov, oc, rfl⟩ := own_slice hrow
      have hc := hv.cell
      have hf := hv.frozen
      have hvl : N2 + 1 < W.heap.size := hv.lt
      have cP := hb.cells
      have lP := hb.lt
      have hi := HHI.out
      have HNL := Lib.hid hnl
      clear hzz hzz2 hzr hpre hz1 hKe hb hnl b1 b2 b3 bO4 bR14 bR24
      gi_wp2_with (gi_at_builtin; refine wpListIn_append_own _ rfl _ _ 63 rfl w4.heap.size 26 i0 _ 8 96 Tryz.underlying63 hi hz0 hzs hzb rfl (by decide) _ _ _ rfl (hrow.alloc _) ⟨W.heap.size, 0, none⟩ 1 1 (inoC rv (.slice Ab nb cb) (.slice Aa na ca)).toList rfl rfl (fun j u hu => by rw [addr_add, Nat.zero_add, (Blk.new W 26 (inoC rv (.slice Ab nb cb) (.slice Aa na ca))).cells]; simpa using hu) (by intro u hu; simp at hu; rcases hu with rfl | rfl | rfl | rfl | rfl | rfl | rfl | rfl <;> rfl) (by simp only [maxLen]; omega) (by omega) (by simp; omega) ?_; intro v' w5 hown' hgrow _; obtain ⟨g', cap', rfl⟩ := ownsRow_succ hown'; obtain ⟨hv1, hv2, hr2, hk2, hb2⟩ := box_appended hv hrow (by omega) (by omega) hown' hgrow; have hc1 := hv1.cell; have hf1 := hv1.frozen; have HGR := Lib.hid hgrow)
      rw [← z4]
      have hq : ∀ z, ZRows w4.heap.size y x W z → ZRows w4.heap.size y x (w5.setCell ⟨N2 + 1, 0, none⟩ (.slice (some ⟨g', 0, none⟩) (pre.length + 1) cap')) z := fun z hz => ⟨row_kept hrow hz.1 (by decide) HGR.out (by omega), row_kept hrow hz.2 (by decide) HGR.out (by omega)⟩
      refine ⟨hk2.from _, hb2, ⟨⟨_, hv2, ?_, by simp⟩, fun z hz => ?_⟩, HKE.out.trans hb2, ?_, fun j hj => ?_⟩
      · rw [List.flatMap_append, List.flatMap_singleton, HNL.out, List.length_append, List.length_singleton]
        exact hr2
      · rcases List.mem_append.1 hz with hz | hz
        · exact hq z (HZR.out z hz)
        · rw [List.mem_singleton.1 hz]
          exact hq _ HZZ.out
      · rw [List.length_append, List.length_singleton]
        have := HZ1.out
        omega
      · rw [List.getElem_append]
        split
        · exact HPR.out j _
        · rename_i h9
          rw [List.length_append, List.length_singleton] at hj
          simp
          have := HZ1.out
          omega
    case done =>
      rintro E xs W rfl hS ⟨hnb, hKe, hple, hpre⟩ hKd
      refine ⟨_, rfl, .inl ⟨.inl rfl, hKd, z4, xs, ?_, hpre, hnb, hKe⟩⟩
      rcases hS with hS | ⟨k, hk, hk2⟩
      · exact hS
      · exact absurd (HZ.out k (by omega)) hk2
    case stop =>
      rintro E c pre W rfl _ hf
      exact hf.elim
  case after =>
    rintro E W ⟨hKd, hE, xs, hxl, hxk, ⟨⟨v, hv, hrow, hnil⟩, hzr⟩, hK⟩
    have r1 := hK.blk bR14 bR14.lt (by simp; omega)
    have r2 := hK.blk bR24 bR24.lt (by simp; omega)
    have hbe : Below w.heap.size w W := B4.trans (hK.toBelow (by omega) (by simp; omega))
    obtain ⟨ov, oc, rfl⟩ := own_slice hrow
    have hc := hv.cell
    have hvl : N2 + 1 < W.heap.size := hv.lt
    have k1 := r1.cells
    have k2 := r2.cells
    have kl1 := r1.lt
    have kl2 := r2.lt
    have kf1 := r1.free
    have kf2 := r2.free
    have HKd := Lib.hid hKd
    have HXK := Lib.hid hxk
    have HXL := Lib.hid hxl
    have HZR := Lib.hid hzr
    have HNIL := Lib.hid hnil
    clear hK hKd hxk hxl hzr hnil b1 b2 b3 bR14 bR24 bO4
    go_wp2_with fail
    obtain ⟨q1, q2⟩ := two_set r1 r2 (by omega) (.slice ov xs.length oc) (.int .i64 0)
    have hB := (hbe.setCell (p := ⟨w.heap.size, 0, none⟩) (by simp) (.slice ov xs.length oc)).setCell (p := ⟨w.heap.size + 1, 0, none⟩) (by simp) (.int .i64 0)
    have hkd := HKd.out
    rw [hE] at hkd
    have hKf := (Below.heap_setCell (W.setCell ⟨w.heap.size, 0, none⟩ (.slice ov xs.length oc)) ⟨w.heap.size + 1, 0, none⟩ (.int .i64 0) (N2 + 5) (by simp; omega)).trans ((Below.heap_setCell W ⟨w.heap.size, 0, none⟩ (.slice ov xs.length oc) (N2 + 5) (by simp; omega)).trans hkd)
    have d1 := (blk_put (o := .deferred none) q1 (by omega : _ ≠ N2 + 5)).cells
    have d2 := (blk_put (o := .deferred none) q2 (by omega : _ ≠ N2 + 5)).cells
    have hkeep : ∀ {e : TypeId} {size : Nat} {v : Value} {k : Nat} {l : List Value}, W.ownsRow w4.heap.size e size v k l → (((W.setCell ⟨w.heap.size, 0, none⟩ (.slice ov xs.length oc)).setCell ⟨w.heap.size + 1, 0, none⟩ (.int .i64 0)).putObj (N2 + 5) (.deferred none)).ownsRow w.heap.size e size v k l := fun h =>
      own_base (ownsRow_putObj (ownsRow_setCell_below (ownsRow_setCell_below h (by show w.heap.size < _; omega) _) (by show w.heap.size + 1 < _; omega) _) _ hKf rfl) (by omega)
    refine marks_ret (.tuple #[.slice ov xs.length oc, .int .i64 0]) hKf (by simp [results, Tryz.results26, go_sem, d1, d2]) ?_
    exact ⟨_, xs, rfl, HXL.out, HXK.out, hkeep hrow, fun z hz => ⟨hkeep (HZR.out z hz).1, hkeep (HZR.out z hz).2⟩, HNIL.out, below_put hB (by omega)⟩
  case back =>
    rintro E W hf
    exact hf.elim
end Go.Proofs.YtjocnooekgnedaaGreatDoor
/- Layer 11: All on a transaction that takes no calls. -/
namespace Go.Proofs.YtjocnooekgnedaaGreatDoor
open Go.RowKit Go.Shelf Go.Maps

attribute [local go_sem] Oper.semAt_some

set_option maxRecDepth 100000 in
set_option maxHeartbeats 4000000 in
theorem All_bad (tv : Value) (E : Int) (w : World) (h : StE w tv E) (hE : E ≠ 0) :
    Calls Tryz.prog 26 #[tv] w fun e w' => e = .returned (.tuple #[.slice none 0 0, .int .i64 E]) ∧ Below w.heap.size w w' := by
  obtain ⟨wA, hA⟩ : ∃ wA, wA = (w.alloc (.cells #[.slice none 0 0] 63)).alloc (.cells #[.int .i64 0] 30) := ⟨_, rfl⟩
  have bR1 : Blk wA w.heap.size 63 #[.slice none 0 0] := by rw [hA]; exact (by (repeat' (first | (with_reducible assumption) | exact Blk.new' (by simp) | refine Blk.alloc ?_ _)))
  have bR2 : Blk wA (w.heap.size + 1) 30 #[.int .i64 0] := by rw [hA]; exact (by (repeat' (first | (with_reducible assumption) | exact Blk.new' (by simp) | refine Blk.alloc ?_ _)))
  have BA : Below w.heap.size w wA := by rw [hA]; (repeat' (first | (with_reducible exact Below.refl _ _) | (with_reducible assumption) | (with_reducible refine Below.alloc ?_ ?_ _) | (with_reducible refine Below.drew ?_) | (with_reducible refine below_drewN' ?_ _) | (with_reducible refine Below.setCell ?_ ?_ _) | (with_reducible exact Nat.le_refl _) | omega | (simp; done) | (simp; omega)))
  have hop := iopen_bad tv E wA (h.below BA) hE
  have hE' : (E != 0) = true := by simpa using hE
  obtain ⟨tp, rfl⟩ : ∃ p, tv = .pointer p := by rcases h with ⟨rfl, _⟩ | ⟨T, cs, rfl, _⟩ <;> exact ⟨_, rfl⟩
  clear hE h
  refine calls_of_marks Tryz.func26 rfl ?_
  simp only [Tryz.ntmps26, List.size_toArray, List.length_cons, List.length_nil, Nat.reduceAdd, Nat.reduceSub, Array.replicate_succ, Array.replicate_zero, List.push_toArray, List.append_toArray, List.nil_append, List.cons_append]
  go_wp2_with fail
  rw [← hA]
  clear hA
  go_wp2_with fail
  refine hop.mono ?_
  rintro e w1 ⟨rfl, hb1⟩
  obtain ⟨w2, hw2⟩ : ∃ w2, w1.alloc (.cells lay0 23) = w2 := ⟨_, rfl⟩
  have b12 : Below w1.heap.size w1 w2 := by rw [← hw2]; exact (Below.refl _ _).alloc (Nat.le_refl _) _
  have bR13 := (bR1.belowAll hb1).belowAll b12
  have bR23 := (bR2.belowAll hb1).belowAll b12
  have B1 := BA.trans (hb1.mono BA.size)
  have B2 := B1.trans (b12.mono B1.size)
  have HW := Lib.hid hw2
  clear hw2 b12 hop BA hb1 B1 bR1 bR2
  go_upto_region 2 with fail
  rw [HW.out]
  have kc1 := bR13.cells
  have f1 := bR13.free
  have l1 := bR13.lt
  have kc2 := bR23.cells
  have f2 := bR23.free
  have l2 := bR23.lt
  go_wp2_with fail
  obtain ⟨r1, r2⟩ := two_set bR13 bR23 (by omega) (.slice none 0 0) (.int .i64 E)
  have d1 := r1.cells
  have d2 := r2.cells
  refine marks_ret0 (.tuple #[.slice none 0 0, .int .i64 E]) (by simp [results, Tryz.results26, go_sem, d1, d2]) ?_
  exact ⟨rfl, (B2.setCell (p := ⟨w.heap.size, 0, none⟩) (by simp) _).setCell (p := ⟨w.heap.size + 1, 0, none⟩) (by simp) _⟩
end Go.Proofs.YtjocnooekgnedaaGreatDoor
/- The kit's contract of slices.SortFunc at records, laid over this program (written by the kit's lay-plain). -/
namespace Go.Proofs.YtjocnooekgnedaaGreatDoor
open Go.Shelf
def Tryz.sortRec_ren : Go.Shelf.Ren := ⟨fun | 6 => 57 | 15 => 65 | 14 => 85 | 28 => 101 | 29 => 102 | 20 => 126 | 21 => 127 | 22 => 128 | 23 => 129 | 24 => 130 | 25 => 131 | 26 => 132 | 27 => 133 | 46 => 169 | 47 => 143 | 48 => 144 | 49 => 170 | 50 => 171 | 57 => 188 | n => n, fun | 22 => 70 | 24 => 122 | 25 => 128 | 3 => 3 | 39 => 145 | 0 => 0 | 53 => 81 | 55 => 40 | 4 => 4 | 46 => 188 | 45 => 187 | 50 => 193 | 5 => 5 | 9 => 9 | 66 => 230 | 70 => 100 | 76 => 269 | 77 => 270 | n => n, fun | n => n⟩
theorem Tryz.sortRec : Go.Proofs.SlLaysF0.n6 Tryz.prog Tryz.sortRec_ren := {
  mixed := by kernel_rfl
  f6 := ⟨Tryz.f57.name, by decide, Tryz.func57.trans (congrArg some (by kernel_rfl))⟩
  f14 := ⟨Tryz.f85.name, by decide, Tryz.func85.trans (congrArg some (by kernel_rfl))⟩
  f15 := Tryz.func65.trans (congrArg some (by kernel_rfl))
  f20 := ⟨Tryz.f126.name, by decide, Tryz.func126.trans (congrArg some (by kernel_rfl))⟩
  f21 := ⟨Tryz.f127.name, by decide, Tryz.func127.trans (congrArg some (by kernel_rfl))⟩
  f22 := ⟨Tryz.f128.name, by decide, Tryz.func128.trans (congrArg some (by kernel_rfl))⟩
  f23 := ⟨Tryz.f129.name, by decide, Tryz.func129.trans (congrArg some (by kernel_rfl))⟩
  f24 := ⟨Tryz.f130.name, by decide, Tryz.func130.trans (congrArg some (by kernel_rfl))⟩
  f25 := ⟨Tryz.f131.name, by decide, Tryz.func131.trans (congrArg some (by kernel_rfl))⟩
  f26 := ⟨Tryz.f132.name, by decide, Tryz.func132.trans (congrArg some (by kernel_rfl))⟩
  f27 := ⟨Tryz.f133.name, by decide, Tryz.func133.trans (congrArg some (by kernel_rfl))⟩
  f28 := Tryz.func101.trans (congrArg some (by kernel_rfl))
  f29 := Tryz.func102.trans (congrArg some (by kernel_rfl))
  f46 := ⟨Tryz.f169.name, by decide, Tryz.func169.trans (congrArg some (by kernel_rfl))⟩
  f47 := Tryz.func143.trans (congrArg some (by kernel_rfl))
  f48 := Tryz.func144.trans (congrArg some (by kernel_rfl))
  f49 := ⟨Tryz.f170.name, by decide, Tryz.func170.trans (congrArg some (by kernel_rfl))⟩
  f50 := ⟨Tryz.f171.name, by decide, Tryz.func171.trans (congrArg some (by kernel_rfl))⟩
  f57 := ⟨Tryz.f188.name, by decide, Tryz.func188.trans (congrArg some (by kernel_rfl))⟩
  t0 := Tryz.underlying0
  a0 := Tryz.isAgg0
  z0 := Tryz.sizeOf0
  v0 := Tryz.zeroValue0
  t3 := Tryz.underlying3
  a3 := Tryz.isAgg3
  z3 := Tryz.sizeOf3
  v3 := Tryz.zeroValue3
  t4 := Tryz.underlying4
  a4 := Tryz.isAgg4
  z4 := Tryz.sizeOf4
  v4 := Tryz.zeroValue4
  t5 := Tryz.underlying5
  a5 := Tryz.isAgg5
  z5 := Tryz.sizeOf5
  v5 := Tryz.zeroValue5
  t9 := Tryz.underlying9
  a9 := Tryz.isAgg9
  z9 := Tryz.sizeOf9
  v9 := Tryz.zeroValue9
  t22 := Tryz.underlying70
  a22 := Tryz.isAgg70
  z22 := Tryz.sizeOf70
  v22 := Tryz.zeroValue70
  t25 := Tryz.underlying128
  a25 := Tryz.isAgg128
  z25 := Tryz.sizeOf128
  v25 := Tryz.zeroValue128
  t39 := Tryz.underlying145
  a39 := Tryz.isAgg145
  z39 := Tryz.sizeOf145
  v39 := Tryz.zeroValue145
  t45 := Tryz.underlying187
  a45 := Tryz.isAgg187
  z45 := Tryz.sizeOf187
  v45 := Tryz.zeroValue187
  t46 := Tryz.underlying188
  a46 := Tryz.isAgg188
  z46 := Tryz.sizeOf188
  v46 := Tryz.zeroValue188
  t50 := Tryz.underlying193
  a50 := Tryz.isAgg193
  z50 := Tryz.sizeOf193
  v50 := Tryz.zeroValue193
  t53 := Tryz.underlying81
  a53 := Tryz.isAgg81
  z53 := Tryz.sizeOf81
  v53 := Tryz.zeroValue81
  t55 := Tryz.underlying40
  a55 := Tryz.isAgg40
  z55 := Tryz.sizeOf40
  v55 := Tryz.zeroValue40
  t66 := Tryz.underlying230
  a66 := Tryz.isAgg230
  z66 := Tryz.sizeOf230
  v66 := Tryz.zeroValue230
  t70 := Tryz.underlying100
  a70 := Tryz.isAgg100
  z70 := Tryz.sizeOf100
  v70 := Tryz.zeroValue100
  t76 := Tryz.underlying269
  a76 := Tryz.isAgg269
  z76 := Tryz.sizeOf269
  v76 := Tryz.zeroValue269
  t77 := Tryz.underlying270
  a77 := Tryz.isAgg270
  z77 := Tryz.sizeOf270
  v77 := Tryz.zeroValue270 }
end Go.Proofs.YtjocnooekgnedaaGreatDoor
/- Layer 10: the records sorted by their sectors. -/
namespace Go.Proofs.YtjocnooekgnedaaGreatDoor
open Go.RowKit Go.Maps Go.Shelf Go.Sort

/-- A record on a sector of a device. -/
structure BRec where
  val : Rec
  ok : 0 ≤ val.at_ ∧ val.at_ ≤ 100000
instance : Inhabited BRec := ⟨⟨⟨0, 0, ⟨#[]⟩⟩, by decide⟩⟩
def encB (x : BRec) : List Value := [.int .i64 x.1.at_, .int .i64 x.1.kind, .string x.1.data]
def cfB (x y : BRec) : Int := x.1.at_ - y.1.at_
theorem swoB : SWO (ltOf cfB) where
  irrefl x := by unfold ltOf cfB; simp
  trans x y z h1 h2 := by unfold ltOf cfB at *; simp at *; omega
  ntrans x y z h1 h2 := by unfold ltOf cfB at *; simp at *; omega

set_option maxHeartbeats 1000000 in
theorem cmp_rec (x y : BRec) (W : World) : Calls Tryz.prog 58 #[.agg #[.int .i64 x.1.at_, .int .i64 x.1.kind, .string x.1.data], .agg #[.int .i64 y.1.at_, .int .i64 y.1.kind, .string y.1.data]] W fun e w' => e = .returned (.int .i64 (cfB x y)) ∧ ∃ q os', w' = grow (W.drewN q) os' := by
  have hx := x.2
  have hy := y.2
  have hw : IntKind.i64.wrap (x.1.at_ - y.1.at_) = x.1.at_ - y.1.at_ := by rw [IntKind.wrap_i64]; omega
  have HC : Hid (cfB x y = x.1.at_ - y.1.at_) := Lib.hid rfl
  generalize cfB x y = r at *
  go_enter Tryz.func58, Tryz.ntmps58
  go_wp2_with fail
  go_ret
  exact ⟨by rw [HC.out]; rfl, 0, _, by rw [alloc_eq_grow, alloc_eq_grow, grow_grow]; rfl⟩

theorem isAggRec : ∀ w, (isAgg 122).run Tryz.prog w = .ok true w := fun _ => by kernel_rfl
theorem sizeRec : ∀ w, (Go.sizeOf 122).run Tryz.prog w = .ok 3 w := fun _ => by kernel_rfl

/-- The list of a row, as the sort has it. -/
theorem sort_list {d d' : Array BRec} (hp : PermIn 0 d.size d d') (hs : SortedIn (ltOf cfB) 0 d.size d') : (d'.toList.map (·.1)).Perm (d.toList.map (·.1)) ∧ (d'.toList.map (·.1)).Pairwise (fun a b : Rec => a.at_ ≤ b.at_) ∧ d'.size = d.size := by
  obtain ⟨h1, -, h3⟩ := hp
  have e1 : d'.extract 0 d.size = d' := by rw [← h1, Array.extract_size]
  have e2 : d.extract 0 d.size = d := Array.extract_size
  rw [e1, e2] at h3
  refine ⟨h3.map _, ?_, h1⟩
  refine List.pairwise_map.2 (List.pairwise_iff_getElem.2 fun i j hi hj hij => ?_)
  have h := hs i j (Nat.zero_le _) hij (by simpa [h1] using hj)
  have hi' : i < d'.size := by simpa using hi
  have hj' : j < d'.size := by simpa using hj
  rw [getElem!_pos d' i hi', getElem!_pos d' j hj'] at h
  unfold ltOf cfB at h
  simp at h
  simp only [Array.getElem_toList]
  omega

end Go.Proofs.YtjocnooekgnedaaGreatDoor
