/- Parts of the proof, put together by program: LF, LG. -/
import Derived.Test.YtjocnooekgnedaaGreatDoorPart44
import Derived.Test.YtjocnooekgnedaaGreatDoorPart34
import Derived.Test.YtjocnooekgnedaaGreatDoorPart36
import Derived.Test.YtjocnooekgnedaaGreatDoorPart33
set_option linter.unusedVariables false
set_option linter.unusedSimpArgs false
/- Layer 11: Alloc. -/
namespace Go.Proofs.YtjocnooekgnedaaGreatDoor
open Go.RowKit Go.Shelf Go.Maps

attribute [local go_sem] Oper.semAt_some

/-- Numbers that are not free are passed by. -/
theorem ialTo_skip {y : TxS} {x : DevS} (v : Ino) {m : Nat} : ∀ k, k ≤ m → (∀ g, g < k → (y.iget x ((g : Int) + 1)).2 = 0 ∧ (y.iget x ((g : Int) + 1)).1.kind ≠ 0) → y.ialTo x v m m = y.ialTo x v m (m - k) := by
  intro k
  induction k with
  | zero => intro _ _; rfl
  | succ k ih =>
    intro hk h
    rw [ih (by omega) (fun g hg => h g (by omega))]
    have h1 := h k (by omega)
    rw [show m - k = (m - (k + 1)) + 1 by omega]
    conv => lhs; unfold TxS.ialTo
    rw [show ((m - (m - (k + 1) + 1) : Nat) : Int) + 1 = (k : Int) + 1 by omega, if_neg (by rw [h1.1]; simp), if_neg h1.2]
theorem ialTo_at {y : TxS} {x : DevS} (v : Ino) {m k : Nat} (hk : k < m) (h : ∀ g, g < k → (y.iget x ((g : Int) + 1)).2 = 0 ∧ (y.iget x ((g : Int) + 1)).1.kind ≠ 0) :
    y.ialTo x v m m = if (y.iget x ((k : Int) + 1)).2 ≠ 0 then (0, (y.iget x ((k : Int) + 1)).2, y) else if (y.iget x ((k : Int) + 1)).1.kind = 0 then
      (if (y.iput ((k : Int) + 1) v).1 ≠ 0 then (0, (y.iput ((k : Int) + 1) v).1, (y.iput ((k : Int) + 1) v).2) else ((k : Int) + 1, 0, (y.iput ((k : Int) + 1) v).2)) else y.ialTo x v m (m - (k + 1)) := by
  rw [ialTo_skip v k (by omega) h, show m - k = (m - (k + 1)) + 1 by omega]
  conv => lhs; unfold TxS.ialTo
  rw [show ((m - (m - (k + 1) + 1) : Nat) : Int) + 1 = (k : Int) + 1 by omega]
theorem keepsFrom_ex {B : Nat} {bs : List Nat} {W W' : World} (h : KeepEx W.heap.size bs W W') (hb : ∀ k ∈ bs, k < B) : KeepsFrom B W W' :=
  ⟨h.size, fun k o hB hk _ => (h.block k (Array.getElem?_eq_some_iff.1 hk).1 (fun hm => by have := hb k hm; omega)).trans hk⟩
theorem blk_own {β : Type} (B g : Nat) (t : TypeId) (cs : Array Value) : OwnFrom B (fun (_ : β) W => Blk W g t cs) := fun _ X _ _ hs hg hr =>
  hs.grown hg (fun e => by obtain ⟨_, o, ho, hc⟩ := hr g e.symm; rw [show X.heap[g]? = _ from hs] at ho; cases ho; cases hc)
def AlPost11 (w : World) (T : Nat) (F : List Nat) (D : Nat) (r : Int × Int × TxS) (e : Ending) (w' : World) : Prop := e = .returned (.tuple #[.int .i64 r.1, .int .i64 r.2.1]) ∧ ∃ F', TxAt w' T F' D r.2.2 ∧ Grow w F w' F'
theorem range_meet2 {n : Nat} {P : Program} {c : Code} {K : Act → World → Prop} {Q' : Exit → Act → World → Prop} {a : Act} {w : World} (Post PostR : Nat → World → Prop)
    (h : c.wpIn Fence.wide n P (fun e a' w' => ∃ D, a' = { a with defers := { target := .collected D, args := #[] } :: a.defers } ∧ (((e = .normal ∨ e = .exit 0) ∧ Post D w') ∨ (e = .ret ∧ PostR D w'))) a w)
    (hk : ∀ D w', Post D w' → K { a with defers := { target := .collected D, args := #[] } :: a.defers } w')
    (hr : ∀ D w', PostR D w' → Q' .ret { a with defers := { target := .collected D, args := #[] } :: a.defers } w') : c.wp P (Exit.inBlock 0 (Exit.then K Q')) a w :=
  wp_mono (wpIn_wide.1 h) (by
    rintro e a' w' ⟨D, rfl, (⟨he, hp⟩ | ⟨rfl, hp⟩)⟩
    · rcases he with rfl | rfl
      · exact hk D w' hp
      · exact hk D w' hp
    · exact hr D w' hp)

theorem marks_ret0 {n : Nat} {P : Program} {fn : Func} {R : Ending → World → Prop} {tmps : Array Value} {W : World} (v : Value) (hr : (results fn tmps).run P W = .ok v W) (hR : R (.returned v) W) : bodyPostM Fence.wide n P fn R .ret { tmps, defers := [] } W := ⟨v, hr, hR⟩
theorem two_set {W : World} {g1 g2 : Nat} {t1 t2 : TypeId} {a b : Value} (r1 : Blk W g1 t1 #[a]) (r2 : Blk W g2 t2 #[b]) (h : g1 ≠ g2) (u u2 : Value) :
    Blk ((W.setCell ⟨g1, 0, none⟩ u).setCell ⟨g2, 0, none⟩ u2) g1 t1 #[u] ∧ Blk ((W.setCell ⟨g1, 0, none⟩ u).setCell ⟨g2, 0, none⟩ u2) g2 t2 #[u2] :=
  ⟨(r1.set_ 0 u).far h u2, (r2.far (p := ⟨g1, 0, none⟩) (Ne.symm h) u).set_ 0 u2⟩

theorem alp_put {w W : World} {T D E : Nat} {F F' : List Nat} {y : TxS} (o : Obj) (hE : E ∉ F') (hw : w.heap.size ≤ E) (ht : TxAt W T F' D y) (hg : Grow w F W F') : TxAt (W.putObj E o) T F' D y ∧ Grow w F (W.putObj E o) F' :=
  ⟨ht.frame (fun b hm => World.putObj_heap_other (fun e => hE (e ▸ hm))) (by simp), ⟨hg.keep.trans (KeepEx.grown (grownBy_putObj' W E o) hg.keep.size (fun k e => by cases e; exact .inr hw)), hg.new⟩⟩

theorem al_stored {w W V : World} {T D R1 R2 B0 : Nat} {F F' : List Nat} {y : TxS} {t1 t2 : TypeId} {a b : Value} (u1 u2 : Value) (h12 : R1 ≠ R2) (hR1 : w.heap.size ≤ R1 ∧ R1 < B0) (hR2 : w.heap.size ≤ R2 ∧ R2 < B0) (hk : KeepEx W.heap.size F W V)
    (hF : ∀ b ∈ F, b < B0) (n1 : R1 ∉ F') (n2 : R2 ∉ F') (r1 : Blk V R1 t1 #[a]) (r2 : Blk V R2 t2 #[b]) (ht : TxAt V T F' D y) (hg : Grow w F V F') :
    KeepsFrom B0 W ((V.setCell ⟨R1, 0, none⟩ u1).setCell ⟨R2, 0, none⟩ u2) ∧ TxAt ((V.setCell ⟨R1, 0, none⟩ u1).setCell ⟨R2, 0, none⟩ u2) T F' D y ∧ Grow w F ((V.setCell ⟨R1, 0, none⟩ u1).setCell ⟨R2, 0, none⟩ u2) F' ∧
      Blk ((V.setCell ⟨R1, 0, none⟩ u1).setCell ⟨R2, 0, none⟩ u2) R1 t1 #[u1] ∧ Blk ((V.setCell ⟨R1, 0, none⟩ u1).setCell ⟨R2, 0, none⟩ u2) R2 t2 #[u2] := by
  have hm : KeepEx W.heap.size (R1 :: R2 :: F) W V := ⟨hk.os, hk.tape, hk.output, hk.size, fun k h hn => hk.block k h (fun hm => hn (by simp [hm]))⟩
  refine ⟨keepsFrom_ex (bs := R1 :: R2 :: F) ((hm.trans (KeepEx.setCell _ (.inl (by simp)) _)).trans (KeepEx.setCell _ (.inl (by simp)) _)) (fun k hk => ?_), (ht.set_ n1 _).set_ n2 _,
    ⟨(hg.keep.trans (KeepEx.setCell _ (.inr hR1.1) _)).trans (KeepEx.setCell _ (.inr hR2.1) _), hg.new⟩, two_set r1 r2 h12 u1 u2⟩
  rcases List.mem_cons.1 hk with e | hk
  · omega
  rcases List.mem_cons.1 hk with e | hk
  · omega
  · exact hF k hk

set_option maxRecDepth 100000 in
set_option maxHeartbeats 4000000 in
theorem Alloc_tx (hDe : DecodeAll) (hN : EncodeAll) (T : Nat) (F : List Nat) (D : Nat) (y : TxS) (B : List Nat) (x : DevS) (v : Ino) (A : Option Addr) (c : Nat) (A2 : Option Addr) (c2 : Nat) (w : World) (h : TxAt w T F D y) (hd : DevAt w D B x) (hs : y.stateE = 0) (hv : InoIn w v A c A2 c2) :
    Calls Tryz.prog 22 #[.pointer (some ⟨T, 0, none⟩), .agg (inoC v (.slice A v.blocks.length c) (.slice A2 v.attrs.length c2))] w (AlPost11 w T F D (y.ialloc x v)) := by
  have hbd := h.ok.bds
  have hrg := h.ok.rg
  obtain ⟨wA, hA⟩ : ∃ wA, wA = (((w.alloc (.cells #[.pointer (some ⟨T, 0, none⟩)] 42)).alloc (.cells (inoC v (.slice A v.blocks.length c) (.slice A2 v.attrs.length c2)) 26)).alloc (.cells #[.int .i64 0] 3)).alloc (.cells #[.int .i64 0] 30) := ⟨_, rfl⟩
  have bT : Blk wA w.heap.size 42 #[.pointer (some ⟨T, 0, none⟩)] := by rw [hA]; exact (by (repeat' (first | (with_reducible assumption) | exact Blk.new' (by simp) | refine Blk.alloc ?_ _)))
  have bV : Blk wA (w.heap.size + 1) 26 (inoC v (.slice A v.blocks.length c) (.slice A2 v.attrs.length c2)) := by rw [hA]; exact (by (repeat' (first | (with_reducible assumption) | exact Blk.new' (by simp) | refine Blk.alloc ?_ _)))
  have bR1 : Blk wA (w.heap.size + 2) 3 #[.int .i64 0] := by rw [hA]; exact (by (repeat' (first | (with_reducible assumption) | exact Blk.new' (by simp) | refine Blk.alloc ?_ _)))
  have bR2 : Blk wA (w.heap.size + 3) 30 #[.int .i64 0] := by rw [hA]; exact (by (repeat' (first | (with_reducible assumption) | exact Blk.new' (by simp) | refine Blk.alloc ?_ _)))
  have BA : Below w.heap.size w wA := by rw [hA]; (repeat' (first | (with_reducible exact Below.refl _ _) | (with_reducible assumption) | (with_reducible refine Below.alloc ?_ ?_ _) | (with_reducible refine Below.drew ?_) | (with_reducible refine below_drewN' ?_ _) | (with_reducible refine Below.setCell ?_ ?_ _) | (with_reducible exact Nat.le_refl _) | omega | (simp; done) | (simp; omega)))
  have hop := iopen_tx T F D y wA (h.below BA) hs
  have HX := Lib.hid (And.intro h hd)
  have HS := Lib.hid hs
  have HV := Lib.hid hv
  have HRG := Lib.hid hrg
  have HBD := Lib.hid hbd
  clear h hd hs hv hbd hrg
  refine calls_of_marks Tryz.func22 rfl ?_
  simp only [Tryz.ntmps22, List.size_toArray, List.length_cons, List.length_nil, Nat.reduceAdd, Nat.reduceSub, Array.replicate_succ, Array.replicate_zero, List.push_toArray, List.append_toArray, List.nil_append, List.cons_append]
  go_wp2_with fail
  rw [← hA]
  clear hA
  go_wp2_with fail
  refine hop.mono ?_
  rintro e w1 ⟨rfl, hb1⟩
  obtain ⟨w2, hw2⟩ : ∃ w2, w1.alloc (.cells (layC y) 23) = w2 := ⟨_, rfl⟩
  obtain ⟨N2, hN2⟩ : ∃ N2, w1.heap.size = N2 := ⟨_, rfl⟩
  have b12 : Below w1.heap.size w1 w2 := by rw [← hw2]; exact (Below.refl _ _).alloc (Nat.le_refl _) _
  have bL2 : Blk w2 N2 23 (layC y) := by rw [← hw2, ← hN2]; exact Blk.new _ _ _
  have bT2 := (bT.belowAll hb1).belowAll b12
  have bV2 := (bV.belowAll hb1).belowAll b12
  have bR12 := (bR1.belowAll hb1).belowAll b12
  have bR22 := (bR2.belowAll hb1).belowAll b12
  have B1 := BA.trans (hb1.mono BA.size)
  have B2 := B1.trans (b12.mono B1.size)
  have hck := check_ino y.s y.j y.i v A c A2 c2 w2 (HV.out.below B2)
  have HW := Lib.hid hw2
  have HN := Lib.hid hN2
  have hN2' : w.heap.size + 4 ≤ N2 := by
    have h1 := bR2.lt
    have h2 := hb1.size
    omega
  clear hw2 hN2 b12 hop bV BA hb1 B1 bT bR1 bR2
  go_upto_region 2 with fail
  rw [HW.out, HN.out]
  have cL := bL2.cells
  have lL := bL2.lt
  have cV := bV2.cells
  have lV := bV2.lt
  have cT := bT2.cells
  have lT := bT2.lt
  go_wp2_with fail
  refine hck.mono ?_
  rintro e w3 ⟨rfl, hb3⟩
  have bT3 := bT2.belowAll hb3
  have bV3 := bV2.belowAll hb3
  have bL3 := bL2.belowAll hb3
  have bR13 := bR12.belowAll hb3
  have bR23 := bR22.belowAll hb3
  have B3 := B2.trans (hb3.mono B2.size)
  have kc1 := bR13.cells
  have f1 := bR13.free
  have l1 := bR13.lt
  have kc2 := bR23.cells
  have f2 := bR23.free
  have l2 := bR23.lt
  clear hck hb3 bT2 bV2 bL2 bR12 bR22 cL lL cV lV cT lT
  by_cases hE : inoE y.s y.j y.i v = 0
  rotate_left
  · as_aux_lemma =>
      have HG : Hid (y.ialloc x v = (0, inoE y.s y.j y.i v, y)) := Lib.hid (by unfold TxS.ialloc; rw [if_neg (by simpa using HS.out), if_pos hE])
      have dE : (inoE y.s y.j y.i v != 0) = true := by simpa using hE
      generalize inoE y.s y.j y.i v = E at *
      clear hE
      go_wp2_with fail
      obtain ⟨r1, r2⟩ := two_set bR13 bR23 (by omega) (.int .i64 0) (.int .i64 E)
      have d1 := r1.cells
      have d2 := r2.cells
      refine marks_ret0 (.tuple #[.int .i64 0, .int .i64 E]) (by simp [results, Tryz.results22, go_sem, d1, d2]) ?_
      rw [HG.out]
      have B4 : Below w.heap.size w ((w3.setCell ⟨w.heap.size + 2, 0, none⟩ (.int .i64 0)).setCell ⟨w.heap.size + 3, 0, none⟩ (.int .i64 E)) := (B3.setCell (by simp) _).setCell (by simp) _
      exact ⟨rfl, F, HX.out.1.below B4, Grow.of_below B4 F⟩
  have dE : (inoE y.s y.j y.i v != 0) = false := by simpa using hE
  by_cases hk0 : v.kind = 0
  · as_aux_lemma =>
      have HG : Hid (y.ialloc x v = (0, 14, y)) := Lib.hid (by unfold TxS.ialloc; rw [if_neg (by simpa using HS.out), if_neg (by simpa using hE), if_pos hk0])
      have cV := bV3.cells
      have lV := bV3.lt
      have d0 : (v.kind == 0) = true := by simpa using hk0
      clear hk0
      generalize inoE y.s y.j y.i v = E at *
      subst hE
      go_wp2_with fail
      obtain ⟨r1, r2⟩ := two_set bR13 bR23 (by omega) (.int .i64 0) (.int .i64 14)
      have d1 := r1.cells
      have d2 := r2.cells
      refine marks_ret0 (.tuple #[.int .i64 0, .int .i64 14]) (by simp [results, Tryz.results22, go_sem, d1, d2]) ?_
      rw [HG.out]
      have B4 : Below w.heap.size w ((w3.setCell ⟨w.heap.size + 2, 0, none⟩ (.int .i64 0)).setCell ⟨w.heap.size + 3, 0, none⟩ (.int .i64 14)) := (B3.setCell (by simp) _).setCell (by simp) _
      exact ⟨rfl, F, HX.out.1.below B4, Grow.of_below B4 F⟩
  · have HG : Hid (y.ialloc x v = y.ialTo x v y.i.toNat y.i.toNat) := Lib.hid (by unfold TxS.ialloc; rw [if_neg (by simpa using HS.out), if_neg (by simpa using hE), if_neg hk0])
    have d0 : (v.kind == 0) = false := by simpa using hk0
    have hea := each_any T y w3
    have cV := bV3.cells
    have lV := bV3.lt
    have cL := bL3.cells
    have lL := bL3.lt
    have cT := bT3.cells
    have lT := bT3.lt
    clear hk0
    generalize inoE y.s y.j y.i v = E at *
    subst hE
    go_wp2_with fail
    refine hea.mono ?_
    rintro e w4 ⟨rfl, hw4⟩
    obtain ⟨X, hX⟩ : ∃ X, w3.heap.size = X := ⟨_, rfl⟩
    have b1 : Blk w4 X 42 #[.pointer (some ⟨T, 0, none⟩)] := by rw [hw4, ← hX]; exact (by (repeat' (first | (with_reducible assumption) | exact Blk.new' (by simp) | refine Blk.alloc ?_ _)))
    have b2 : Blk w4 (X + 1) 23 (layC y) := by rw [hw4, ← hX]; exact (by (repeat' (first | (with_reducible assumption) | exact Blk.new' (by simp) | refine Blk.alloc ?_ _)))
    have b3 : Blk w4 (X + 2) 3 #[.int .i64 (2 + y.j)] := by rw [hw4, ← hX]; exact (by (repeat' (first | (with_reducible assumption) | exact Blk.new' (by simp) | refine Blk.alloc ?_ _)))
    have z4 : w4.heap.size = X + 3 := by rw [hw4, ← hX]; simp
    have b34 : Below w3.heap.size w3 w4 := by rw [hw4]; (repeat' (first | (with_reducible exact Below.refl _ _) | (with_reducible assumption) | (with_reducible refine Below.alloc ?_ ?_ _) | (with_reducible refine Below.drew ?_) | (with_reducible refine below_drewN' ?_ _) | (with_reducible refine Below.setCell ?_ ?_ _) | (with_reducible exact Nat.le_refl _) | omega | (simp; done) | (simp; omega)))
    have bT4 := bT3.belowAll b34
    have bV4 := bV3.belowAll b34
    have bR14 := bR13.belowAll b34
    have bR24 := bR23.belowAll b34
    have B4 := B3.trans (b34.mono B3.size)
    have hXl : N2 + 1 ≤ X := by rw [← hX]; exact lL
    rw [hX]
    clear hea hw4 cV lV cL lL cT lT bT3 bV3 bL3 bR13 bR23 b34 kc1 f1 l1 kc2 f2 l2
    go_wp2_with fail
    refine range_meet2 (n := 6) (fun E W => W.heap[E]? = some (.deferred (some [])) ∧ X + 3 ≤ E ∧ y.ialTo x v y.i.toNat y.i.toNat = (0, 11, y) ∧ KeepEx (X + 3) [] w4 W)
      (fun E W => W.heap[E]? = some (.deferred (some [])) ∧ X + 3 ≤ E ∧ ∃ F', TxAt W T F' D (y.ialTo x v y.i.toNat y.i.toNat).2.2 ∧ Grow w F W F' ∧ Blk W (w.heap.size + 2) 3 #[.int .i64 (y.ialTo x v y.i.toNat y.i.toNat).1] ∧ Blk W (w.heap.size + 3) 30 #[.int .i64 (y.ialTo x v y.i.toNat y.i.toNat).2.1] ∧ E ∉ F') ?loop ?after ?back
    case loop =>
      refine wpIn_rangeFunc_good rfl (by omega) (gf := 80) (lb := #[.pointer (some ⟨X + 1, 0, none⟩), .pointer (some ⟨X, 0, none⟩), .pointer (some ⟨X + 2, 0, none⟩)]) rfl trivial (enters_of Tryz.func80 (by kernel_rfl) rfl)
        (each_good hDe (6 - 1) (by omega) T F D y B x X (X + 1) (X + 2) w w4 HX.out.1 HX.out.2 HS.out B4 [] (by simp) b1 b2 b3 (by simp) (by simp) (by simp))
        keepEx_t (keepEx_b (Nat.le_refl _)) (Below.refl _ _) (fun _ => rfl)
        (fun pre W => KeepEx w4.heap.size [] w4 W ∧ ∀ g, g < pre.length → (y.iget x ((g : Int) + 1)).2 = 0 ∧ (y.iget x ((g : Int) + 1)).1.kind ≠ 0)
        (fun c _ W => c = .ret ∧ ∃ F', X + 3 ∉ F' ∧ X + 4 ∉ F' ∧ TxAt W T F' D (y.ialTo x v y.i.toNat y.i.toNat).2.2 ∧ Grow w F W F' ∧ Blk W (w.heap.size + 2) 3 #[.int .i64 (y.ialTo x v y.i.toNat y.i.toNat).1] ∧ Blk W (w.heap.size + 3) 30 #[.int .i64 (y.ialTo x v y.i.toNat y.i.toNat).2.1])
        (OwnFrom.and (ownFrom_keepEx (Nat.le_refl _) (Nat.le_refl _)) ownFrom_pure')
        ?ix ⟨KeepEx.refl _ _ _, fun g h => absurd h (by simp)⟩
        (fun pre z a' W => ∃ g, X + 3 ≤ g ∧ a' = { tmps := #[.pointer (some ⟨T, 0, none⟩), .agg (inoC v (.slice A v.blocks.length c) (.slice A2 v.attrs.length c2)), .pointer (some ⟨w.heap.size, 0, none⟩), .pointer (some ⟨w.heap.size + 1, 0, none⟩), .pointer (some ⟨w.heap.size + 1 + 1, 0, none⟩), .pointer (some ⟨w.heap.size + 1 + 1 + 1, 0, none⟩), .pointer (some ⟨N2, 0, none⟩), .int .i64 (2 + y.j), .int .i64 0, .int .i64 0, .int .i64 ((z.k : Int) + 1), .pointer (some ⟨g, 0, none⟩), undef, .tuple #[.agg (layC y), .int .i64 (2 + y.j), .int .i64 0], .pointer (some ⟨T, 0, none⟩), .tuple #[.agg (layC y), .int .i64 (2 + y.j), .int .i64 0], .agg (layC y), .int .i64 (2 + y.j), .int .i64 0, .int .i64 0, .bool false, undef, .agg (layC y), .agg (inoC v (.slice A v.blocks.length c) (.slice A2 v.attrs.length c2)), .int .i64 0, .int .i64 0, .bool false, undef, .pointer (some ⟨w.heap.size + 1, 0, none⟩), .int .i64 v.kind, .bool false, .pointer (some ⟨T, 0, none⟩), .agg (layC y), .int .i64 (2 + y.j), .func (.func 80) #[] #[.pointer (some ⟨X + 1, 0, none⟩), .pointer (some ⟨X, 0, none⟩), .pointer (some ⟨X + 2, 0, none⟩)], .int .i64 ((z.k : Int) + 1), .agg (eachC (y.iget x ((z.k : Int) + 1)).1 z.bv z.av (y.iget x ((z.k : Int) + 1)).2), undef, undef, undef, undef, undef, undef, undef, undef, undef, undef, undef, undef, undef, undef, undef, undef, undef], defers := [] } ∧ Blk W g 118 (eachC (y.iget x ((z.k : Int) + 1)).1 z.bv z.av (y.iget x ((z.k : Int) + 1)).2) ∧ z.k = pre.length ∧ z.k < y.i.toNat)
        ?ax ?assign ?body ?done ?stop
      case ix =>
        rintro c s W o' ⟨rfl, F', h1, h2, ht, hg, r1, r2⟩
        have e4 : w4.heap.size + 1 = X + 4 := by omega
        rw [e4]
        obtain ⟨ht', hg'⟩ := alp_put o' h2 (by omega) ht hg
        exact ⟨rfl, F', h1, h2, ht', hg', blk_put r1 (by omega), blk_put r2 (by omega)⟩
      case ax =>
        rintro pre z a' s X1 Y1 row ⟨g, hg, ha, hb, hz⟩ h1 h2
        exact ⟨g, hg, ha, blk_own w4.heap.size g _ _ () X1 Y1 row hb h1 h2, hz⟩
      case assign =>
        rintro l pre z W K hI hG hK
        obtain ⟨k, bv, av⟩ := z
        have hk1 := hG.at_
        have hk2 := hG.lt
        obtain ⟨Ab, cb, e1⟩ := own_slice hG.rb
        obtain ⟨Aa, ca, e2⟩ := own_slice hG.ra
        simp only at e1 e2 hk1 hk2
        subst e1 e2
        clear hG
        have HI := Lib.hid hI
        have HK := Lib.hid hK
        have hbl : Below W.heap.size W (W.alloc (.cells (eachC (y.iget x ((k : Int) + 1)).1 (.slice Ab (y.iget x ((k : Int) + 1)).1.blocks.length cb) (.slice Aa (y.iget x ((k : Int) + 1)).1.attrs.length ca) (y.iget x ((k : Int) + 1)).2) 118)) := (Below.refl _ _).alloc (Nat.le_refl _) _
        have hke : KeepEx w4.heap.size [] W (W.alloc (.cells (eachC (y.iget x ((k : Int) + 1)).1 (.slice Ab (y.iget x ((k : Int) + 1)).1.blocks.length cb) (.slice Aa (y.iget x ((k : Int) + 1)).1.attrs.length ca) (y.iget x ((k : Int) + 1)).2) 118)) := KeepEx.of_below (hbl.mono hI.1.size)
        have HB := Lib.hid hbl
        have HE := Lib.hid hke
        have HK1 := Lib.hid hk1
        clear hI hK hbl hke hk1
        gi_wp2
        refine HK.out _ _ (keepsFrom_ex (bs := []) (KeepEx.of_below HB.out) (fun _ h => absurd h (by simp))) HE.out ⟨HI.out.1.trans HE.out, HI.out.2⟩ ⟨W.heap.size, by have := HI.out.1.size; omega, rfl, Blk.new _ _ _, HK1.out, hk2⟩
      case body =>
        rintro l pre z a' W hsz ⟨hKe, hpre⟩ ⟨g, hg, rfl, hb, hz1, hz2⟩
        obtain ⟨k, bv, av⟩ := z
        simp only at hb hz1 hz2
        have hat := ialTo_at (y := y) (x := x) v hz2 (fun g hg => hpre g (by omega))
        have hpre2 : (y.iget x ((k : Int) + 1)).2 = 0 → (y.iget x ((k : Int) + 1)).1.kind ≠ 0 → ∀ g, g < (pre ++ [(⟨k, bv, av⟩ : EachX)]).length → (y.iget x ((g : Int) + 1)).2 = 0 ∧ (y.iget x ((g : Int) + 1)).1.kind ≠ 0 := fun h1 h2 g hg => by
          rw [List.length_append, List.length_singleton] at hg
          by_cases e : g = k
          · subst e; exact ⟨h1, h2⟩
          · exact hpre g (by omega)
        have HP := Lib.hid hpre2
        have hbe : Below w.heap.size w W := B4.trans (hKe.toBelow (by omega) (by simp))
        have bTW := hKe.blk bT4 bT4.lt (by simp)
        have bVW := hKe.blk bV4 bV4.lt (by simp)
        have bR1W := hKe.blk bR14 bR14.lt (by simp)
        have bR2W := hKe.blk bR24 bR24.lt (by simp)
        have HKE := Lib.hid hKe
        have hput := Put_tx hN T F D y ((k : Int) + 1) v A c A2 c2 W (HX.out.1.below hbe) HS.out (HV.out.below hbe)
        have HAT := Lib.hid hat
        have HZ := Lib.hid hz1
        have HFB : Hid (∀ b ∈ F, b < w4.heap.size) := Lib.hid (fun b hb => by have := (HX.out.1.lt b hb).2; omega)
        clear hz1 hpre hpre2 hat hKe bT4 bV4 bR14 bR24 b1 b2 b3
        generalize y.ialTo x v y.i.toNat y.i.toNat = res at *
        generalize y.ialTo x v y.i.toNat (y.i.toNat - (k + 1)) = rest at *
        generalize y.iget x ((k : Int) + 1) = r at *
        obtain ⟨rv, re⟩ := r
        simp only at hb HAT HP
        have e8 : W.cell? ⟨g, 8, none⟩ = some (.int .i64 re) := (hb.cells 8).trans rfl
        have e0 : W.cell? ⟨g, 0, none⟩ = some (.int .i64 rv.kind) := (hb.cells 0).trans rfl
        have lg := hb.lt
        have k1 := bR1W.cells
        have k2 := bR2W.cells
        have kl1 := bR1W.lt
        have kl2 := bR2W.lt
        have kf1 := bR1W.free
        have kf2 := bR2W.free
        by_cases hre : re = 0
        rotate_left
        · as_aux_lemma =>
            have HG : Hid (res = (0, re, y)) := Lib.hid (by rw [HAT.out, if_pos hre])
            have dre : (re != 0) = true := by simpa using hre
            clear hre HAT HP hput hb
            gi_wp2_with fail
            gi_region
            all_goals gi_wp2
            all_goals
              rw [HG.out]
              obtain ⟨hkf, ht, hg', q1, q2⟩ := al_stored (w := w) (W := W) (V := W.drew) (B0 := w4.heap.size) (.int .i64 0) (.int .i64 re) (by omega) (by omega) (by omega) (KeepEx.of_below (Below.refl _ _).drew) HFB.out (HX.out.1.far (by omega)) (HX.out.1.far (by omega)) bR1W.drew bR2W.drew (HX.out.1.below hbe.drew) (Grow.of_below hbe.drew F)
              rw [show ((W.setCell ⟨w.heap.size + 2, 0, none⟩ (.int .i64 0)).setCell ⟨w.heap.size + 3, 0, none⟩ (.int .i64 re)).drew = (W.drew.setCell ⟨w.heap.size + 2, 0, none⟩ (.int .i64 0)).setCell ⟨w.heap.size + 3, 0, none⟩ (.int .i64 re) from rfl]
              exact ⟨hkf, rfl, F, HX.out.1.far (by omega), HX.out.1.far (by omega), ht, hg', q1, q2⟩
        · subst hre
          by_cases hk0 : rv.kind = 0
          rotate_left
          · as_aux_lemma =>
              have dk : (rv.kind == 0) = false := by simpa using hk0
              clear HAT hput k1 k2 kl1 kl2 kf1 kf2 bTW bVW bR1W bR2W hb
              gi_wp2_with fail
              exact ⟨⟨Nat.le_refl _, fun _ _ _ h _ => h⟩, KeepEx.refl _ _ _, by rw [← z4]; exact HKE.out, HP.out trivial hk0⟩
          · have dk : (rv.kind == 0) = true := by simpa using hk0
            have kT := bTW.cells
            have kV := bVW.cells
            have lT := bTW.lt
            have lV := bVW.lt
            gi_wp2_with fail
            refine ⟨trivial, ((callsIn_wide (n := 3)).2 hput).mono ?_⟩
            rintro e W5 ⟨rfl, F5, ht5, hg5⟩
            have hn3 : X + 3 ∉ F5 := fun hm => (hg5.new _ hm).elim (HX.out.1.far (by omega)) (fun h => by omega)
            have hn4 : X + 4 ∉ F5 := fun hm => (hg5.new _ hm).elim (HX.out.1.far (by omega)) (fun h => by omega)
            have hnR1 : w.heap.size + 2 ∉ F5 := fun hm => (hg5.new _ hm).elim (HX.out.1.far (by omega)) (fun h => by omega)
            have hnR2 : w.heap.size + 3 ∉ F5 := fun hm => (hg5.new _ hm).elim (HX.out.1.far (by omega)) (fun h => by omega)
            have b15 := hg5.blk bR1W (HX.out.1.far (by omega))
            have b25 := hg5.blk bR2W (HX.out.1.far (by omega))
            have hg6 := (Grow.of_below hbe F).trans hg5
            have k1 := b15.cells
            have k2 := b25.cells
            have kl1 := b15.lt
            have kl2 := b25.lt
            have kf1 := b15.free
            have kf2 := b25.free
            have hkk := hg5.keep
            rw [if_neg (by simp), if_pos hk0] at HAT
            clear hput hg5 bR1W bR2W kT kV lT lV bTW bVW hb e8 e0 lg
            by_cases hp0 : (y.iput ((k : Int) + 1) v).1 = 0
            rotate_left
            · rw [if_pos hp0] at HAT
              have dp : ((y.iput ((k : Int) + 1) v).1 != 0) = true := by simpa using hp0
              clear hp0
              generalize y.iput ((k : Int) + 1) v = pr at *
              obtain ⟨pe, py⟩ := pr
              simp only at ht5 HAT dp ⊢
              gi_wp2_with fail
              rw [HAT.out]
              obtain ⟨hkf, ht, hg', q1, q2⟩ := al_stored (w := w) (W := W) (V := W5) (B0 := w4.heap.size) (.int .i64 0) (.int .i64 pe) (by omega) (by omega) (by omega) hkk HFB.out hnR1 hnR2 b15 b25 ht5 hg6
              exact ⟨hkf, rfl, F5, hn3, hn4, ht, hg', q1, q2⟩
            · rw [if_neg (by simpa using hp0)] at HAT
              have dp : ((y.iput ((k : Int) + 1) v).1 != 0) = false := by simpa using hp0
              clear hp0
              generalize y.iput ((k : Int) + 1) v = pr at *
              obtain ⟨pe, py⟩ := pr
              simp only at ht5 HAT dp ⊢
              gi_wp2_with fail
              rw [HAT.out]
              obtain ⟨hkf, ht, hg', q1, q2⟩ := al_stored (w := w) (W := W) (V := W5) (B0 := w4.heap.size) (.int .i64 ((k : Int) + 1)) (.int .i64 0) (by omega) (by omega) (by omega) hkk HFB.out hnR1 hnR2 b15 b25 ht5 hg6
              exact ⟨hkf, rfl, F5, hn3, hn4, ht, hg', q1, q2⟩
      case done =>
        rintro E xs W rfl hS ⟨hKe, hpre⟩ hKd
        refine ⟨_, rfl, .inl ⟨.inl rfl, hKd, by omega, ?_, by rw [← z4]; exact hKe⟩⟩
        rcases hS with hS | ⟨k, hk, hk2⟩
        · rw [ialTo_skip v y.i.toNat (Nat.le_refl _) (fun g hg => hpre g (by omega)), Nat.sub_self]
          rfl
        · exact absurd (hpre k (by omega)).1 hk2
      case stop =>
        rintro E c pre W rfl _ ⟨rfl, F', h1, h2, ht, hg, r1, r2⟩ hKd
        refine wpIn_ret ⟨_, rfl, .inr ⟨rfl, hKd, by omega, F', ht, hg, r1, r2, by rw [z4]; exact h1⟩⟩
    case after =>
      rintro E W ⟨hKd, hE, hres, hK⟩
      rw [← z4] at hK
      have hbe : Below w.heap.size w W := B4.trans (hK.toBelow (by omega) (by simp))
      have r1 := hK.blk bR14 bR14.lt (by simp)
      have r2 := hK.blk bR24 bR24.lt (by simp)
      have k1 := r1.cells
      have k2 := r2.cells
      have kl1 := r1.lt
      have kl2 := r2.lt
      have kf1 := r1.free
      have kf2 := r2.free
      have HKd := Lib.hid hKd
      have HR := Lib.hid hres
      clear hK hKd bT4 bV4 bR14 bR24 b1 b2 b3 hres
      go_wp2_with fail
      obtain ⟨q1, q2⟩ := two_set r1 r2 (by omega) (.int .i64 0) (.int .i64 11)
      have hB := (hbe.setCell (p := ⟨w.heap.size + 2, 0, none⟩) (by simp) (.int .i64 0)).setCell (p := ⟨w.heap.size + 3, 0, none⟩) (by simp) (.int .i64 11)
      have hKf := (Below.heap_setCell (W.setCell ⟨w.heap.size + 2, 0, none⟩ (.int .i64 0)) ⟨w.heap.size + 3, 0, none⟩ (.int .i64 11) E (by simp; omega)).trans ((Below.heap_setCell W ⟨w.heap.size + 2, 0, none⟩ (.int .i64 0) E (by simp; omega)).trans HKd.out)
      have d1 := (blk_put (o := .deferred none) q1 (by omega : _ ≠ E)).cells
      have d2 := (blk_put (o := .deferred none) q2 (by omega : _ ≠ E)).cells
      refine marks_ret (.tuple #[.int .i64 0, .int .i64 11]) hKf (by simp [results, Tryz.results22, go_sem, d1, d2]) ?_
      obtain ⟨ht, hg⟩ := alp_put (E := E) (.deferred none) (HX.out.1.far (by omega)) (by omega) (HX.out.1.below hB) (Grow.of_below hB F)
      rw [HG.out, HR.out]
      exact ⟨rfl, F, ht, hg⟩
    case back =>
      rintro E W ⟨hKd, hE, F', ht, hg, r1, r2, hEF⟩
      have d1 := (blk_put (o := .deferred none) r1 (by omega : _ ≠ E)).cells
      have d2 := (blk_put (o := .deferred none) r2 (by omega : _ ≠ E)).cells
      have HR := HG.out
      generalize y.ialTo x v y.i.toNat y.i.toNat = res at *
      generalize y.ialloc x v = res2 at *
      subst HR
      refine marks_ret (.tuple #[.int .i64 res2.1, .int .i64 res2.2.1]) hKd (by simp [results, Tryz.results22, go_sem, d1, d2]) ?_
      obtain ⟨ht', hg'⟩ := alp_put (.deferred none) hEF (by omega) ht hg
      exact ⟨rfl, F', ht', hg'⟩
end Go.Proofs.YtjocnooekgnedaaGreatDoor
/- Layer 11: Alloc on a transaction that takes no calls; All. -/
namespace Go.Proofs.YtjocnooekgnedaaGreatDoor
open Go.RowKit Go.Shelf Go.Maps

attribute [local go_sem] Oper.semAt_some

set_option maxRecDepth 100000 in
set_option maxHeartbeats 4000000 in
theorem Alloc_bad (tv : Value) (E : Int) (v : Ino) (A : Option Addr) (c : Nat) (A2 : Option Addr) (c2 : Nat) (w : World) (h : StE w tv E) (hE : E ≠ 0) :
    Calls Tryz.prog 22 #[tv, .agg (inoC v (.slice A v.blocks.length c) (.slice A2 v.attrs.length c2))] w fun e w' => e = .returned (.tuple #[.int .i64 0, .int .i64 E]) ∧ Below w.heap.size w w' := by
  obtain ⟨tp, rfl⟩ : ∃ p, tv = .pointer p := by rcases h with ⟨rfl, _⟩ | ⟨T, cs, rfl, _⟩ <;> exact ⟨_, rfl⟩
  obtain ⟨wA, hA⟩ : ∃ wA, wA = (((w.alloc (.cells #[.pointer tp] 42)).alloc (.cells (inoC v (.slice A v.blocks.length c) (.slice A2 v.attrs.length c2)) 26)).alloc (.cells #[.int .i64 0] 3)).alloc (.cells #[.int .i64 0] 30) := ⟨_, rfl⟩
  have bT : Blk wA w.heap.size 42 #[.pointer tp] := by rw [hA]; exact (by (repeat' (first | (with_reducible assumption) | exact Blk.new' (by simp) | refine Blk.alloc ?_ _)))
  have bR1 : Blk wA (w.heap.size + 2) 3 #[.int .i64 0] := by rw [hA]; exact (by (repeat' (first | (with_reducible assumption) | exact Blk.new' (by simp) | refine Blk.alloc ?_ _)))
  have bR2 : Blk wA (w.heap.size + 3) 30 #[.int .i64 0] := by rw [hA]; exact (by (repeat' (first | (with_reducible assumption) | exact Blk.new' (by simp) | refine Blk.alloc ?_ _)))
  have BA : Below w.heap.size w wA := by rw [hA]; (repeat' (first | (with_reducible exact Below.refl _ _) | (with_reducible assumption) | (with_reducible refine Below.alloc ?_ ?_ _) | (with_reducible refine Below.drew ?_) | (with_reducible refine below_drewN' ?_ _) | (with_reducible refine Below.setCell ?_ ?_ _) | (with_reducible exact Nat.le_refl _) | omega | (simp; done) | (simp; omega)))
  have hop := iopen_bad (.pointer tp) E wA (h.below BA) hE
  have hE' : (E != 0) = true := by simpa using hE
  clear hE h
  refine calls_of_marks Tryz.func22 rfl ?_
  simp only [Tryz.ntmps22, List.size_toArray, List.length_cons, List.length_nil, Nat.reduceAdd, Nat.reduceSub, Array.replicate_succ, Array.replicate_zero, List.push_toArray, List.append_toArray, List.nil_append, List.cons_append]
  go_wp2_with fail
  rw [← hA]
  clear hA
  go_wp2_with fail
  refine hop.mono ?_
  rintro e w1 ⟨rfl, hb1⟩
  obtain ⟨w2, hw2⟩ : ∃ w2, w1.alloc (.cells lay0 23) = w2 := ⟨_, rfl⟩
  have b12 : Below w1.heap.size w1 w2 := by rw [← hw2]; exact (Below.refl _ _).alloc (Nat.le_refl _) _
  have bT3 := (bT.belowAll hb1).belowAll b12
  have bR13 := (bR1.belowAll hb1).belowAll b12
  have bR23 := (bR2.belowAll hb1).belowAll b12
  have B1 := BA.trans (hb1.mono BA.size)
  have B2 := B1.trans (b12.mono B1.size)
  have HW := Lib.hid hw2
  clear hw2 b12 hop BA hb1 B1 bT bR1 bR2
  go_upto_region 2 with fail
  rw [HW.out]
  have kc1 := bR13.cells
  have f1 := bR13.free
  have l1 := bR13.lt
  have kc2 := bR23.cells
  have f2 := bR23.free
  have l2 := bR23.lt
  go_wp2_with fail
  obtain ⟨r1, r2⟩ := two_set bR13 bR23 (by omega) (.int .i64 0) (.int .i64 E)
  have d1 := r1.cells
  have d2 := r2.cells
  refine marks_ret0 (.tuple #[.int .i64 0, .int .i64 E]) (by simp [results, Tryz.results22, go_sem, d1, d2]) ?_
  exact ⟨rfl, (B2.setCell (p := ⟨w.heap.size + 2, 0, none⟩) (by simp) _).setCell (p := ⟨w.heap.size + 3, 0, none⟩) (by simp) _⟩
end Go.Proofs.YtjocnooekgnedaaGreatDoor
