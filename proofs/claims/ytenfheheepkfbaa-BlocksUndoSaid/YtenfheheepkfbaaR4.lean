/- Count. -/
import Derived.Test.YtenfheheepkfbaaR3
namespace Go.Proofs.Ytenfheheepkfbaa
open Go.RowKit Go.Shelf

attribute [local go_sem] Oper.semAt_some

theorem boxed_own {β : Type} (B C : Nat) (t : TypeId) (f : β → Value) : OwnFrom C (fun (s : β) W => Boxed W B t (f s)) :=
  fun s X Y row hs hg hr => hs.kept hg (fun e => by
    obtain ⟨_, o, ho, hc⟩ := hr B e.symm
    rw [show X.heap[B]? = _ from hs] at ho; cases ho; cases hc)

/-- What Count counts. -/
def CountN (s j i : Int) (us : List Bool) : Int := if CkE s j i us.length = 0 then ((frees us 0).length : Int) else 0

set_option maxRecDepth 100000 in
set_option maxHeartbeats 2000000 in
theorem count_any (s j i : Int) (A : Option Addr) (c : Nat) (us : List Bool) (hus : us.length ≤ 1000) (w : World) (hR : Reads w A (us.map .bool)) :
    Calls Try.prog 19 #[.agg #[.int .i64 s, .int .i64 j, .int .i64 i, .slice A us.length c]] w fun e w' =>
      e = .returned (.tuple #[.int .i64 (CountN s j i us), .int .i64 (CkE s j i us.length)]) ∧ Below w.heap.size w w' := by
  by_cases hE : CkE s j i us.length = 0
  · have hE' : (CkE s j i us.length != 0) = false := by simpa using hE
    have hN : CountN s j i us = ((frees us 0).length : Int) := by simp only [CountN, if_pos hE]
    have hpos : 0 < us.length := by
      unfold CkE at hE
      split at hE
      · rename_i hg
        split at hE
        · rename_i hl; have := rg_bds hg; have := (rg_ok hg).2.2.2.2; omega
        · omega
      · exact absurd hE (by assumption)
    have HE := Lib.hid hE
    have HN := Lib.hid hN
    clear hE hN
    refine calls_of_marks Try.func19 rfl ?_
    simp only [Try.ntmps19, List.size_toArray, List.length_cons, List.length_nil, Nat.reduceAdd, Nat.reduceSub, Array.replicate_succ, Array.replicate_zero, List.push_toArray, List.append_toArray, List.nil_append, List.cons_append]
    go_wp2_with fail
    refine (check_any s j i A us.length c _ (by unfold maxLen; omega)).mono ?_
    rintro e w1 ⟨rfl, hb1⟩
    have bS : Blk w1 w.heap.size 26 #[.int .i64 s, .int .i64 j, .int .i64 i, .slice A us.length c] := Blk.belowAll (by (repeat' (first | (with_reducible assumption) | exact Blk.new' (by simp) | refine Blk.alloc ?_ _))) hb1
    have bN : Blk w1 (w.heap.size + 1) 3 #[.int .i64 0] := Blk.belowAll (by (repeat' (first | (with_reducible assumption) | exact Blk.new' (by simp) | refine Blk.alloc ?_ _))) hb1
    replace hb1 : Below w.heap.size w w1 := below2 hb1
    have cS := bS.cells
    have cN := bN.cells
    go_wp2_with (go_at_call 39; refine (free_any _ _ _ _ _ _ _ _).mono ?_; rintro e w' ⟨rfl, rfl⟩)
    obtain ⟨b, off, hA, hb, _⟩ := hR.at_ (k := 0) (by simp; omega)
    have hcs : ∀ k (h : k < us.length), w.cell? ⟨b, off + k, none⟩ = some (.bool us[k]) := by
      intro k h
      obtain ⟨b', off', hA', _, hc'⟩ := hR.at_ (k := k) (by simpa using h)
      rw [hA] at hA'
      simp only [Option.some.injEq, Addr.mk.injEq, and_true] at hA'
      obtain ⟨rfl, rfl⟩ := hA'
      rw [hc', List.getElem_map]
    have HA := Lib.hid hA
    clear hA
    have hz : w.heap.size + 1 < w1.heap.size := bN.lt
    obtain ⟨W1, hW1⟩ : ∃ W1, W1 = (w1.alloc (.cells #[.int .i64 s, .int .i64 j, .int .i64 i, .slice A us.length c] 26)).alloc (.cells #[.int .i64 0] 3) := ⟨_, rfl⟩
    rw [← hW1]
    have bN1 : Boxed W1 (w.heap.size + 1) 3 (.int .i64 0) := by rw [hW1]; exact (bN.alloc _).alloc _
    have bI0 : Blk W1 w1.heap.size 26 #[.int .i64 s, .int .i64 j, .int .i64 i, .slice A us.length c] := by rw [hW1]; exact (Blk.new _ _ _).alloc _
    have bI1 : Blk W1 (w1.heap.size + 1) 3 #[.int .i64 ((0 : Nat) : Int)] := by rw [hW1]; exact Blk.new' (by simp)
    have hB1 : Below w.heap.size w W1 := by rw [hW1]; exact (hb1.alloc hb1.size _).alloc (by simp; omega) _
    have hs1 : W1.heap.size = w1.heap.size + 2 := by rw [hW1]; simp
    have hcs1 : ∀ k (h : k < us.length), W1.cell? ⟨b, off + k, none⟩ = some (.bool us[k]) := fun k h => (hB1.cell (p := ⟨b, off + k, none⟩) hb).trans (hcs k h)
    clear hW1 bS bN cS cN hb1 hcs
    have HCS := Lib.hid hcs1
    clear hcs1
    refine range_meet (n := 6) (fun D W => W.heap[D]? = some (.deferred (some [])) ∧ w1.heap.size + 2 ≤ D ∧ Boxed W (w.heap.size + 1) 3 (.int .i64 ((frees us 0).length : Int)) ∧ KeepEx (w1.heap.size + 2) [w.heap.size + 1] W1 W) ?loop ?after
    case loop =>
      refine wpIn_rangeFunc_ownG rfl (by omega) (gf := 46) (lb := #[.pointer (some ⟨w1.heap.size, 0, none⟩), .pointer (some ⟨w1.heap.size + 1, 0, none⟩)]) rfl trivial (enters_of Try.func46 (by kernel_rfl) rfl)
        (free_stops Fence.wide (6 - 1) trivial rfl (by omega) w1.heap.size (w1.heap.size + 1) (w1.heap.size + 2) s j i A c 0 us hpos hus W1 [w.heap.size + 1] (by simp; omega) (by simp; omega) (by omega) (by omega) (by omega) bI0 bI1 b off HA.out (by omega) (by simp; omega) HCS.out)
        keepEx_t (keepEx_b (by omega)) (Below.refl _ _) (fun _ => rfl)
        (fun pre W => Boxed W (w.heap.size + 1) 3 (.int .i64 (pre.length : Int)) ∧ KeepEx (w1.heap.size + 2) [w.heap.size + 1] W1 W)
        (fun _ _ _ => False)
        (OwnFrom.and (boxed_own _ _ _ (fun pre : List Int => .int .i64 (pre.length : Int))) (ownFrom_keepEx (by omega) (by omega)))
        (fun _ _ _ _ _ hs _ _ => hs)
        ⟨bN1, KeepEx.refl _ _ _⟩
        (fun x => { tmps := #[.agg #[.int .i64 s, .int .i64 j, .int .i64 i, .slice A us.length c], .pointer (some ⟨w.heap.size, 0, none⟩), .pointer (some ⟨w.heap.size + 1, 0, none⟩), .int .i64 0, .int .i64 (CkE s j i us.length), .agg #[.int .i64 s, .int .i64 j, .int .i64 i, .slice A us.length c], .int .i64 (CkE s j i us.length), .int .i64 (CkE s j i us.length), .bool false, undef,
          .agg #[.int .i64 s, .int .i64 j, .int .i64 i, .slice A us.length c], .func (.func 46) #[] #[.pointer (some ⟨w1.heap.size, 0, none⟩), .pointer (some ⟨w1.heap.size + 1, 0, none⟩)], .int .i64 x, undef, undef, undef], defers := [] }) ?assign ?body ?done ?stop
      case assign =>
        intro l x W K hK
        gi_wp2
        simpa using hK
      case body =>
        rintro l pre x W ⟨hv, hK⟩ hlt
        have hc := hv.cell
        have hf := hv.frozen
        gi_wp2
        refine ⟨(KeepsOthers.setCell _ _ _).from _, KeepEx.setCell _ (.inl (by simp)) _, ?_, hK.trans (KeepEx.setCell _ (.inl (by simp)) _)⟩
        have := hv.set (.int .i64 ((pre.length : Int) + 1))
        simpa using this
      case done =>
        rintro D ys W hD rfl ⟨hbox, hK⟩ hKd
        exact ⟨.inl rfl, D, rfl, hKd, by omega, hbox, hK⟩
      case stop =>
        rintro D c pre W _ _ h _
        exact h.elim
    case after =>
      rintro D W ⟨hKd, hD, hv, hK⟩
      have hc := hv.cell
      have hf := hv.frozen
      have hBW : Below w.heap.size w W := hB1.trans (hK.toBelow (by omega) (by simp))
      go_wp2
      refine gen_world (C := bodyPostM Fence.wide 9 Try.prog Try.f19 (fun e w' => e = .returned (.tuple #[.int .i64 (CountN s j i us), .int .i64 (CkE s j i us.length)]) ∧ Below w.heap.size w w') Exit.ret _)
        (F := fun Wf => Blk Wf (w.heap.size + 1) 3 #[.int .i64 ((frees us 0).length : Int)] ∧ Wf.heap[D]? = some (.deferred (some [])) ∧ Below w.heap.size w Wf) ?_ ?_
      · refine ⟨Blk.set_ hv 0 _, ?_, by (repeat' (first | (with_reducible exact Below.refl _ _) | (with_reducible assumption) | (with_reducible refine Below.alloc ?_ ?_ _) | (with_reducible refine Below.drew ?_) | (with_reducible refine below_drewN' ?_ _) | (with_reducible refine Below.setCell ?_ ?_ _) | (with_reducible exact Nat.le_refl _) | omega | (simp; done) | (simp; omega)))⟩
        (repeat (first | (with_reducible exact hKd) | refine (Below.heap_setCell _ _ _ _ (by simp; omega)).trans ?_))
      · rintro Wf ⟨BN, hKf, HBf⟩
        have cN' := (blk_put (o := .deferred none) BN (by omega : _ ≠ D)).cells
        refine marks_ret (.tuple #[.int .i64 ((frees us 0).length : Int), .int .i64 0]) hKf (by simp [results, Try.results19, go_sem, cN']) ?_
        exact ⟨by rw [HN.out, HE.out], below_put HBf (by omega)⟩
  · have hE' : (CkE s j i us.length != 0) = true := by simpa using hE
    have hN : CountN s j i us = 0 := by simp only [CountN, if_neg hE]
    have HE := Lib.hid hE
    have HN := Lib.hid hN
    clear hE hN
    go_enter Try.func19, Try.ntmps19
    go_wp2_with fail
    refine (check_any s j i A us.length c _ (by unfold maxLen; omega)).mono ?_
    rintro e w1 ⟨rfl, hb1⟩
    have bN : Blk w1 (w.heap.size + 1) 3 #[.int .i64 0] := Blk.belowAll (by (repeat' (first | (with_reducible assumption) | exact Blk.new' (by simp) | refine Blk.alloc ?_ _))) hb1
    replace hb1 : Below w.heap.size w w1 := below2 hb1
    have cN := bN.cells
    have fN := bN.free
    go_wp2_with fail
    refine bodyPost_ret (v := .tuple #[.int .i64 0, .int .i64 (CkE s j i us.length)]) (by simp [results, Try.results19, go_sem, cN]) rfl ?_
    exact ⟨by rw [HN.out], by (repeat' (first | (with_reducible exact Below.refl _ _) | (with_reducible assumption) | (with_reducible refine Below.alloc ?_ ?_ _) | (with_reducible refine Below.drew ?_) | (with_reducible refine below_drewN' ?_ _) | (with_reducible refine Below.setCell ?_ ?_ _) | (with_reducible exact Nat.le_refl _) | omega | (simp; done) | (simp; omega)))⟩

end Go.Proofs.Ytenfheheepkfbaa
