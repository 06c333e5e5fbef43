/- Parts of the proof, put together by program: R4, TA. -/
import Derived.Test.YtfgfdjaiamaelaaGreatDoorPart27
import Derived.Test.YtfgfdjaiamaelaaGreatDoorPart40
/- Count. -/
namespace Go.Proofs.YtfgfdjaiamaelaaGreatDoor
open Go.RowKit Go.Shelf

attribute [local go_sem] Oper.semAt_some

theorem boxed_own {β : Type} (B C : Nat) (t : TypeId) (f : β → Value) : OwnFrom C (fun (s : β) W => Boxed W B t (f s)) :=
  fun s X Y row hs hg hr => hs.kept hg (fun e => by
    obtain ⟨_, o, ho, hc⟩ := hr B e.symm
    rw [show X.heap[B]? = _ from hs] at ho; cases ho; cases hc)

/-- What Count counts. -/
def CountN (s j i : Int) (us : List Bool) : Int := if CkE s j i us.length = 0 then ((frees us 0).length : Int) else 0

set_option maxRecDepth 100000 in
set_option maxHeartbeats 2000000 in
theorem count_any (s j i : Int) (A : Option Addr) (c : Nat) (us : List Bool) (hus : us.length ≤ 1000) (w : World) (hR : Reads w A (us.map .bool)) :
    Calls Tryz.prog 48 #[.agg #[.int .i64 s, .int .i64 j, .int .i64 i, .slice A us.length c]] w fun e w' =>
      e = .returned (.tuple #[.int .i64 (CountN s j i us), .int .i64 (CkE s j i us.length)]) ∧ Below w.heap.size w w' := by
  by_cases hE : CkE s j i us.length = 0
  · have hE' : (CkE s j i us.length != 0) = false := by simpa using hE
    have hN : CountN s j i us = ((frees us 0).length : Int) := by simp only [CountN, if_pos hE]
    have hpos : 0 < us.length := by
      unfold CkE at hE
      split at hE
      · rename_i hg
        split at hE
        · rename_i hl; have := rg_bds hg; have := (rg_ok hg).2.2.2.2; omega
        · omega
      · exact absurd hE (by assumption)
    have HE := Lib.hid hE
    have HN := Lib.hid hN
    clear hE hN
    refine calls_of_marks Tryz.func48 rfl ?_
    simp only [Tryz.ntmps48, List.size_toArray, List.length_cons, List.length_nil, Nat.reduceAdd, Nat.reduceSub, Array.replicate_succ, Array.replicate_zero, List.push_toArray, List.append_toArray, List.nil_append, List.cons_append]
    go_wp2_with fail
    refine (check_any s j i A us.length c _ (by unfold maxLen; omega)).mono ?_
    rintro e w1 ⟨rfl, hb1⟩
    have bS : Blk w1 w.heap.size 69 #[.int .i64 s, .int .i64 j, .int .i64 i, .slice A us.length c] := Blk.belowAll (by (repeat' (first | (with_reducible assumption) | exact Blk.new' (by simp) | refine Blk.alloc ?_ _))) hb1
    have bN : Blk w1 (w.heap.size + 1) 3 #[.int .i64 0] := Blk.belowAll (by (repeat' (first | (with_reducible assumption) | exact Blk.new' (by simp) | refine Blk.alloc ?_ _))) hb1
    replace hb1 : Below w.heap.size w w1 := below2 hb1
    have cS := bS.cells
    have cN := bN.cells
    go_wp2_with (go_at_call 79; refine (free_any _ _ _ _ _ _ _ _).mono ?_; rintro e w' ⟨rfl, rfl⟩)
    obtain ⟨b, off, hA, hb, _⟩ := hR.at_ (k := 0) (by simp; omega)
    have hcs : ∀ k (h : k < us.length), w.cell? ⟨b, off + k, none⟩ = some (.bool us[k]) := by
      intro k h
      obtain ⟨b', off', hA', _, hc'⟩ := hR.at_ (k := k) (by simpa using h)
      rw [hA] at hA'
      simp only [Option.some.injEq, Addr.mk.injEq, and_true] at hA'
      obtain ⟨rfl, rfl⟩ := hA'
      rw [hc', List.getElem_map]
    have HA := Lib.hid hA
    clear hA
    have hz : w.heap.size + 1 < w1.heap.size := bN.lt
    obtain ⟨W1, hW1⟩ : ∃ W1, W1 = (w1.alloc (.cells #[.int .i64 s, .int .i64 j, .int .i64 i, .slice A us.length c] 69)).alloc (.cells #[.int .i64 0] 3) := ⟨_, rfl⟩
    rw [← hW1]
    have bN1 : Boxed W1 (w.heap.size + 1) 3 (.int .i64 0) := by rw [hW1]; exact (bN.alloc _).alloc _
    have bI0 : Blk W1 w1.heap.size 69 #[.int .i64 s, .int .i64 j, .int .i64 i, .slice A us.length c] := by rw [hW1]; exact (Blk.new _ _ _).alloc _
    have bI1 : Blk W1 (w1.heap.size + 1) 3 #[.int .i64 ((0 : Nat) : Int)] := by rw [hW1]; exact Blk.new' (by simp)
    have hB1 : Below w.heap.size w W1 := by rw [hW1]; exact (hb1.alloc hb1.size _).alloc (by simp; omega) _
    have hs1 : W1.heap.size = w1.heap.size + 2 := by rw [hW1]; simp
    have hcs1 : ∀ k (h : k < us.length), W1.cell? ⟨b, off + k, none⟩ = some (.bool us[k]) := fun k h => (hB1.cell (p := ⟨b, off + k, none⟩) hb).trans (hcs k h)
    clear hW1 bS bN cS cN hb1 hcs
    have HCS := Lib.hid hcs1
    clear hcs1
    refine range_meet (n := 6) (fun D W => W.heap[D]? = some (.deferred (some [])) ∧ w1.heap.size + 2 ≤ D ∧ Boxed W (w.heap.size + 1) 3 (.int .i64 ((frees us 0).length : Int)) ∧ KeepEx (w1.heap.size + 2) [w.heap.size + 1] W1 W) ?loop ?after
    case loop =>
      refine wpIn_rangeFunc_ownG rfl (by omega) (gf := 115) (lb := #[.pointer (some ⟨w1.heap.size, 0, none⟩), .pointer (some ⟨w1.heap.size + 1, 0, none⟩)]) rfl trivial (enters_of Tryz.func115 (by kernel_rfl) rfl)
        (free_stops Fence.wide (6 - 1) trivial rfl (by omega) w1.heap.size (w1.heap.size + 1) (w1.heap.size + 2) s j i A c 0 us hpos hus W1 [w.heap.size + 1] (by simp; omega) (by simp; omega) (by omega) (by omega) (by omega) bI0 bI1 b off HA.out (by omega) (by simp; omega) HCS.out)
        keepEx_t (keepEx_b (by omega)) (Below.refl _ _) (fun _ => rfl)
        (fun pre W => Boxed W (w.heap.size + 1) 3 (.int .i64 (pre.length : Int)) ∧ KeepEx (w1.heap.size + 2) [w.heap.size + 1] W1 W)
        (fun _ _ _ => False)
        (OwnFrom.and (boxed_own _ _ _ (fun pre : List Int => .int .i64 (pre.length : Int))) (ownFrom_keepEx (by omega) (by omega)))
        (fun _ _ _ _ _ hs _ _ => hs)
        ⟨bN1, KeepEx.refl _ _ _⟩
        (fun x => { tmps := #[.agg #[.int .i64 s, .int .i64 j, .int .i64 i, .slice A us.length c], .pointer (some ⟨w.heap.size, 0, none⟩), .pointer (some ⟨w.heap.size + 1, 0, none⟩), .int .i64 0, .int .i64 (CkE s j i us.length), .agg #[.int .i64 s, .int .i64 j, .int .i64 i, .slice A us.length c], .int .i64 (CkE s j i us.length), .int .i64 (CkE s j i us.length), .bool false, undef,
          .agg #[.int .i64 s, .int .i64 j, .int .i64 i, .slice A us.length c], .func (.func 115) #[] #[.pointer (some ⟨w1.heap.size, 0, none⟩), .pointer (some ⟨w1.heap.size + 1, 0, none⟩)], .int .i64 x, undef, undef, undef], defers := [] }) ?assign ?body ?done ?stop
      case assign =>
        intro l x W K hK
        gi_wp2
        simpa using hK
      case body =>
        rintro l pre x W ⟨hv, hK⟩ hlt
        have hc := hv.cell
        have hf := hv.frozen
        gi_wp2
        refine ⟨(KeepsOthers.setCell _ _ _).from _, KeepEx.setCell _ (.inl (by simp)) _, ?_, hK.trans (KeepEx.setCell _ (.inl (by simp)) _)⟩
        have := hv.set (.int .i64 ((pre.length : Int) + 1))
        simpa using this
      case done =>
        rintro D ys W hD rfl ⟨hbox, hK⟩ hKd
        exact ⟨.inl rfl, D, rfl, hKd, by omega, hbox, hK⟩
      case stop =>
        rintro D c pre W _ _ h _
        exact h.elim
    case after =>
      rintro D W ⟨hKd, hD, hv, hK⟩
      have hc := hv.cell
      have hf := hv.frozen
      have hBW : Below w.heap.size w W := hB1.trans (hK.toBelow (by omega) (by simp))
      go_wp2
      refine gen_world (C := bodyPostM Fence.wide 9 Tryz.prog Tryz.f48 (fun e w' => e = .returned (.tuple #[.int .i64 (CountN s j i us), .int .i64 (CkE s j i us.length)]) ∧ Below w.heap.size w w') Exit.ret _)
        (F := fun Wf => Blk Wf (w.heap.size + 1) 3 #[.int .i64 ((frees us 0).length : Int)] ∧ Wf.heap[D]? = some (.deferred (some [])) ∧ Below w.heap.size w Wf) ?_ ?_
      · refine ⟨Blk.set_ hv 0 _, ?_, by (repeat' (first | (with_reducible exact Below.refl _ _) | (with_reducible assumption) | (with_reducible refine Below.alloc ?_ ?_ _) | (with_reducible refine Below.drew ?_) | (with_reducible refine below_drewN' ?_ _) | (with_reducible refine Below.setCell ?_ ?_ _) | (with_reducible exact Nat.le_refl _) | omega | (simp; done) | (simp; omega)))⟩
        (repeat (first | (with_reducible exact hKd) | refine (Below.heap_setCell _ _ _ _ (by simp; omega)).trans ?_))
      · rintro Wf ⟨BN, hKf, HBf⟩
        have cN' := (blk_put (o := .deferred none) BN (by omega : _ ≠ D)).cells
        refine marks_ret (.tuple #[.int .i64 ((frees us 0).length : Int), .int .i64 0]) hKf (by simp [results, Tryz.results48, go_sem, cN']) ?_
        exact ⟨by rw [HN.out, HE.out], below_put HBf (by omega)⟩
  · have hE' : (CkE s j i us.length != 0) = true := by simpa using hE
    have hN : CountN s j i us = 0 := by simp only [CountN, if_neg hE]
    have HE := Lib.hid hE
    have HN := Lib.hid hN
    clear hE hN
    go_enter Tryz.func48, Tryz.ntmps48
    go_wp2_with fail
    refine (check_any s j i A us.length c _ (by unfold maxLen; omega)).mono ?_
    rintro e w1 ⟨rfl, hb1⟩
    have bN : Blk w1 (w.heap.size + 1) 3 #[.int .i64 0] := Blk.belowAll (by (repeat' (first | (with_reducible assumption) | exact Blk.new' (by simp) | refine Blk.alloc ?_ _))) hb1
    replace hb1 : Below w.heap.size w w1 := below2 hb1
    have cN := bN.cells
    have fN := bN.free
    go_wp2_with fail
    refine bodyPost_ret (v := .tuple #[.int .i64 0, .int .i64 (CkE s j i us.length)]) (by simp [results, Tryz.results48, go_sem, cN]) rfl ?_
    exact ⟨by rw [HN.out], by (repeat' (first | (with_reducible exact Below.refl _ _) | (with_reducible assumption) | (with_reducible refine Below.alloc ?_ ?_ _) | (with_reducible refine Below.drew ?_) | (with_reducible refine below_drewN' ?_ _) | (with_reducible refine Below.setCell ?_ ?_ _) | (with_reducible exact Nat.le_refl _) | omega | (simp; done) | (simp; omega)))⟩

end Go.Proofs.YtfgfdjaiamaelaaGreatDoor
/- The laws of layer 10: a transaction at play: its calls in one form. -/
namespace Go.Proofs.YtfgfdjaiamaelaaGreatDoor
open Go.RowKit Go.Maps

/-- A transaction on its device; both are younger than the world w0. -/
structure Play (w0 w : World) (T : Nat) (F : List Nat) (D : Nat) (y : TxS) (B : List Nat) (x : DevS) : Prop where
  td : TD w T F D y B x
  bl : Below w0.heap.size w0 w
  fl : ∀ b ∈ F, w0.heap.size ≤ b
  bb : ∀ b ∈ B, w0.heap.size ≤ b

section
variable {w0 w w' : World} {T : Nat} {F F' : List Nat} {D : Nat} {y y' : TxS} {B B' : List Nat} {x x' : DevS}
theorem Play.below (h : Play w0 w T F D y B x) (hb : Below w.heap.size w w') : Play w0 w' T F D y B x := ⟨h.td.below hb, h.bl.trans (hb.mono h.bl.size), h.fl, h.bb⟩
theorem Play.did (h : Play w0 w T F D y B x) (ht : TxAt w' T F' D y') (g : Grow w F w' F') : Play w0 w' T F' D y' B x :=
  ⟨h.td.grow ht g, h.bl.trans (g.below h.bl.size h.fl), g.lo h.bl.size h.fl, h.bb⟩
theorem Play.drewN (h : Play w0 w T F D y B x) (n : Nat) : Play w0 (w.drewN n) T F D y B x := h.below (below_drewN' (Below.refl _ _) n)
theorem Play.size (h : Play w0 w T F D y B x) : w0.heap.size ≤ w.heap.size := h.bl.size
theorem Play.half (h : Play w0 w T F D y B x) : HalfAt w := h.td.dev.half
theorem Play.endKeep (h : Play w0 w T F D y B x) : Grow w F (w.setCell ⟨T, 20, none⟩ (.bool true)) F := ⟨KeepEx.setCell w (.inl h.td.tx.TF) _, fun _ hb => .inl hb⟩
theorem Play.end_ (h : Play w0 w T F D y B x) : Play w0 (w.setCell ⟨T, 20, none⟩ (.bool true)) T F D y.end_ B x := h.did h.td.tx.ended h.endKeep
theorem Play.keep (h : Play w0 w T F D y B x) (ht : TD w' T F' D y' B' x') (g : Grow w (F ++ B) w' (F' ++ B')) : Play w0 w' T F' D y' B' x' :=
  have hF : ∀ b ∈ F ++ B, w0.heap.size ≤ b := fun b hb => (List.mem_append.1 hb).elim (h.fl b) (h.bb b)
  have hn := g.lo h.bl.size hF
  ⟨ht, h.bl.trans (g.below h.bl.size hF), fun b hb => hn b (List.mem_append_left _ hb), fun b hb => hn b (List.mem_append_right _ hb)⟩
theorem Grow.appR (h : Grow w F w' F') (B : List Nat) : Grow w (F ++ B) w' (F' ++ B) :=
  ⟨h.keep.widen fun _k hk => List.mem_append_left _ hk, fun b hb => (List.mem_append.1 hb).elim (fun hb => (h.new b hb).imp (List.mem_append_left _) id) (fun hb => .inl (List.mem_append_right _ hb))⟩
theorem Play.reads (h : Play w0 w T F D y B x) {A : Option Addr} {xs : List Value} (hr : Reads w0 A xs) : Reads w A xs := hr.below h.bl
end

def PlayPost (w0 w : World) (T : Nat) (F : List Nat) (D : Nat) (E : Int) (y : TxS) (B : List Nat) (x : DevS) (e : Ending) (w' : World) : Prop :=
  e = .returned (.int .i64 E) ∧ ∃ F', Play w0 w' T F' D y B x ∧ Grow w (F ++ B) w' (F' ++ B)

section
variable {w0 w : World} {T : Nat} {F : List Nat} {D : Nat} {y : TxS} {B : List Nat} {x : DevS}
theorem play_write (h : Play w0 w T F D y B x) (a k : Int) (d : ByteArray) (ha : -9223372036854775808 ≤ a ∧ a ≤ 9223372036854775807) (hdl : d.size ≤ 1000000) :
    Calls Tryz.prog 12 #[.pointer (some ⟨T, 0, none⟩), .int .i64 a, .int .i64 k, .string d] w (PlayPost w0 w T F D (y.write a k d).1 (y.write a k d).2 B x) := by
  refine (write_tx T F D y a k d w h.td.tx ha hdl).mono ?_
  rintro e w' ⟨he, F', ht, g⟩
  exact ⟨he, F', h.did ht g, g.appR B⟩
theorem play_free (h : Play w0 w T F D y B x) (Bl : Option Addr) (cb : Nat) (l : List Int) (hl : l.length ≤ 1000) (hB : Reads w Bl (l.map (.int .i64))) :
    Calls Tryz.prog 13 #[.pointer (some ⟨T, 0, none⟩), .slice Bl l.length cb] w (PlayPost w0 w T F D (y.free l).1 (y.free l).2 B x) := by
  refine (free_tx T F D y Bl cb l hl w h.td.tx hB).mono ?_
  rintro e w' ⟨he, F', ht, g⟩
  exact ⟨he, F', h.did ht g, g.appR B⟩
theorem play_take (h : Play w0 w T F D y B x) (near many : Int) :
    Calls Tryz.prog 11 #[.pointer (some ⟨T, 0, none⟩), .int .i64 near, .int .i64 many] w fun e w' => ∃ A c, e = .returned (.tuple #[.slice A (y.takeL near many).length c, .int .i64 (y.take near many).1]) ∧
      ∃ F', Play w0 w' T F' D (y.take near many).2 B x ∧ Grow w (F ++ B) w' (F' ++ B) ∧ Keeps w' (F' ++ B) A c (y.takeL near many) := by
  refine (take_tx T F D y near many w h.td.tx).mono ?_
  rintro e w' ⟨v, he, ho, F', ht, g, hv⟩
  obtain ⟨A, c, rfl, hk⟩ := Keeps.of_did (F' := F' ++ B) ho fun q hq hm => (List.mem_append.1 hm).elim (hv q hq) fun hm => by
    have h1 := (own_lt ho q hq).1
    have h2 := (h.td.dev.lt q hm).2
    omega
  exact ⟨A, c, he, F', h.did ht g, g.appR B, hk⟩
theorem play_read (h : Play w0 w T F D y B x) (a : Int) :
    Calls Tryz.prog 10 #[.pointer (some ⟨T, 0, none⟩), .int .i64 a] w fun e w' => e = .returned (.tuple #[.int .i64 (y.read x a).1, .string (y.read x a).2.1, .int .i64 (y.read x a).2.2]) ∧ Below w.heap.size w w' :=
  read_tx T F D y B x a w h.td.tx h.td.dev
theorem play_abort (h : Play w0 w T F D y B x) (he : y.ended = false) :
    Calls Tryz.prog 21 #[.pointer (some ⟨T, 0, none⟩)] w (PlayPost w0 w T F D 0 y.end_ B x) := by
  refine (abort_tx T F D y w h.td.tx he).mono ?_
  rintro e w' ⟨rfl, rfl⟩
  exact ⟨rfl, F, h.end_, h.endKeep.appR B⟩
set_option maxRecDepth 100000 in
set_option maxHeartbeats 1000000 in
theorem abort_ended (T : Nat) (F : List Nat) (D : Nat) (y : TxS) (w : World) (h : TxAt w T F D y) (he : y.ended = true) :
    Calls Tryz.prog 21 #[.pointer (some ⟨T, 0, none⟩)] w fun e w' => e = .returned (.int .i64 9) ∧ w' = w := by
  have qT : ∀ (w : World) (r : Option Nat), (binOp .eql 101 (.map r) (.map none)).run Tryz.prog w = .ok (.bool r.isNone) w := fun w r => run_eql_map_nil w _ _ _ r Tryz.underlying101
  obtain ⟨ok, ⟨M, wv, nv, bT, -⟩, lt⟩ := h
  have c17 : w.cell? ⟨T, 17, none⟩ = some (.map (some M)) := (bT.cells 17).trans rfl
  have c20 : w.cell? ⟨T, 20, none⟩ = some (.bool y.ended) := (bT.cells 20).trans rfl
  have lT := bT.lt
  rw [he] at c20
  clear bT ok lt
  go_enter Tryz.func21, Tryz.ntmps21
  go_wp2_with fail
  go_ret
  exact ⟨rfl, rfl⟩

/-- Commit, done as it says. -/
theorem play_commit {x' : DevS} (h : Play w0 w T F D y B x) (hc : y.Clean) (hE : y.stateE = 0) (hcm : y.commit x = (0, x')) :
    Calls Tryz.prog 16 #[.pointer (some ⟨T, 0, none⟩)] w fun e w' => e = .returned (.int .i64 0) ∧ ∃ B', Play w0 w' T F D y.end_ B' x' ∧ Grow w (F ++ B) w' (F ++ B') := by
  refine (commit_tx T F D y B x w h.td hc hE).mono ?_
  rintro e w' ⟨he, B', ht, g⟩
  rw [hcm] at he ht
  exact ⟨he, B', h.keep ht g, g⟩
theorem play_begin {s j i : Int} {us : List Bool} {N : Nat} (h : Play w0 w T F D y B x) (hr : rgE s j i = 0) (hl : Live x s j i us N) :
    Calls Tryz.prog 17 #[.pointer (some ⟨D, 0, none⟩), .agg #[.int .i64 s, .int .i64 j, .int .i64 i]] w fun e w' => ∃ T' F', e = .returned (.tuple #[.pointer (some ⟨T', 0, none⟩), .int .i64 0]) ∧ Play w0 w' T' F' D (begTx s j i us) B x ∧ Grow w (F ++ B) w' (F' ++ B) := by
  obtain ⟨h1, h2, h3⟩ := begin_live hr hl
  refine (begin_dev D s j i B x w h.td.dev h3).mono ?_
  rintro e w' ⟨hb, E, hE, ⟨h5, -⟩ | ⟨-, T', F', rfl, ht, hF⟩⟩
  · exact absurd ((h1 E).1 hE) h5
  rw [h2] at ht
  exact ⟨T', F', rfl, ⟨⟨ht, h.td.dev.below hb, fun b hb hm => by have := hF b hb; have := (h.td.dev.lt b hm).2; omega⟩, h.bl.trans (hb.mono h.bl.size), fun b hb => Nat.le_trans h.bl.size (hF b hb), h.bb⟩, KeepEx.of_below hb, fun b hm => (List.mem_append.1 hm).elim (fun hm => .inr (hF b hm)) (fun hm => .inl (List.mem_append_right _ hm))⟩
/-- The device is saved. -/
theorem play_save (h : Play w0 w T F D y B x) :
    Calls Tryz.prog 23 #[.pointer (some ⟨D, 0, none⟩)] w fun e w' => ∃ sv cv, e = .returned (.agg (stateC sv cv x.taken x.power x.off)) ∧ w'.ownsRow w.heap.size 137 128 sv x.stable.length (x.stable.flatMap secV) ∧ w'.ownsRow w.heap.size 140 129 cv x.cache.length (x.cache.flatMap dwV) ∧ Below w.heap.size w w' := by
  obtain ⟨S, c, M, cv, m, -⟩ := h.td.dev.mem
  exact save_any D S c M cv x h.td.dev.ok w m
end

set_option maxRecDepth 100000 in
set_option maxHeartbeats 2000000 in
theorem left_tx (T : Nat) (F : List Nat) (D : Nat) (y : TxS) (w : World) (h : TxAt w T F D y) (hE : y.stateE = 0) :
    Calls Tryz.prog 14 #[.pointer (some ⟨T, 0, none⟩)] w fun e w' => e = .returned (.tuple #[.int .i64 (CountN y.s y.j y.i y.may), .int .i64 y.left, .int .i64 0]) ∧ Below w.heap.size w w' := by
  have hst := state_any _ _ w h.st
  rw [hE] at hst
  have hml : y.may.length = y.now.length := orL_length (h.ok.now.trans h.ok.was.symm)
  have hbd := h.ok.bds
  have HCK : Hid (CkE y.s y.j y.i y.may.length = 0) := Lib.hid (by rw [hml]; exact ok_ckE h.ok)
  have HML := Lib.hid hml
  have HNL : Hid (y.may.length ≤ 1000) := Lib.hid (by omega)
  clear hml hE hbd
  go_enter Tryz.func14, Tryz.ntmps14
  go_wp2_with fail
  refine hst.mono ?_
  rintro e w1 ⟨rfl, hb1⟩
  have h1 := h.below hb1
  clear hst h
  go_wp2_with fail
  refine (may_tx T F D y w1 h1).mono ?_
  rintro e w2 ⟨g, cap, rfl, ho, hb2⟩
  have B2 := hb1.trans (hb2.mono hb1.size)
  have h2 := h1.below hb2
  have hct := count_any y.s y.j y.i (some ⟨g, 0, none⟩) cap y.may HNL.out w2 (by rw [← HML.out] at ho; exact Reads.of_own ho)
  obtain ⟨cn, hcn⟩ : ∃ cn, CountN y.s y.j y.i y.may = cn := ⟨_, rfl⟩
  rw [HCK.out, HML.out, hcn] at hct
  have HCN := Lib.hid hcn
  clear hcn
  clear h1 hb1 hb2 ho
  go_wp2_with fail
  refine hct.mono ?_
  rintro e w3 ⟨rfl, hb3⟩
  have B3 := B2.trans (hb3.mono B2.size)
  have h3 := h2.below hb3
  clear hct h2 B2 hb3
  go_wp2_with fail
  refine (left_any T F D y _ h3).mono ?_
  rintro e w4 ⟨rfl, hb4⟩
  have B4 := B3.trans (hb4.mono B3.size)
  go_wp2_with fail
  refine bodyPost_ret (v := .tuple #[.int .i64 cn, .int .i64 y.left, .int .i64 0]) (by simp [results, Tryz.results14, go_sem]) rfl ?_
  exact ⟨by rw [HCN.out], B4⟩
end Go.Proofs.YtfgfdjaiamaelaaGreatDoor
