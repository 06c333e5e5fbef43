/- Runs. -/
import Derived.Test.YtenfheheepkfbaaR5
import Derived.Test.YtenfheheepkfbaaR4
import Derived.Test.YtenfheheepkfbaaE1
namespace Go.Proofs.Ytenfheheepkfbaa
open Go.RowKit Go.Shelf

attribute [local go_sem] Oper.semAt_some

/-- The iterator over the free blocks, its blocks known to be in range. -/
theorem free_stopsF (F : Fence) (n : Nat) (h7 : F.fn 46) (hro : F.round = none) (hn : 1 ≤ n) (Bs Bn n₀ : Nat) (s j i : Int) (A : Option Addr) (c near : Nat) (us : List Bool) (hnear : near < us.length) (hus : us.length ≤ 1000)
    (w : World) (bs : List Nat) (xBs : Bs ∉ bs) (xBn : Bn ∉ bs) (hBs : Bs < n₀) (hBn : Bn < n₀) (hn₀ : n₀ ≤ w.heap.size)
    (b0 : Blk w Bs 26 #[.int .i64 s, .int .i64 j, .int .i64 i, .slice A us.length c]) (b1 : Blk w Bn 3 #[.int .i64 near])
    (b off : Nat) (hA : A = some ⟨b, off, none⟩) (hb : b < n₀) (xb : b ∉ bs) (hcs : ∀ k (h : k < us.length), w.cell? ⟨b, off + k, none⟩ = some (.bool us[k])) :
    SeqStopsK F n Try.prog 46 #[.pointer (some ⟨Bs, 0, none⟩), .pointer (some ⟨Bn, 0, none⟩)] (fun x : Fin us.length => #[Value.int .i64 ((x.val : Nat) : Int)]) (KeepEx n₀ bs) (fun ys => ys.map (fun x => ((x.val : Nat) : Int)) = frees us near)
      (fun _ => True) us.length w := fun l J Jx W hW _ _ hY h0 => by
  refine (free1_in F n h7 hro hn l Bs Bn n₀ s j i A c near us hnear hus hBs hBn bs xBs xBn (fun pre W => ∃ p : List (Fin us.length), p.map (fun x => ((x.val : Nat) : Int)) = pre ∧ J p W) (fun _ W => ∃ p : List (Fin us.length), Jx p W) ?_ W (b0.belowAll hW).cells ?_ b off hA hb xb ?_ ⟨[], rfl, h0⟩).mono ?_
  · rintro pre x W1 ⟨p, rfl, hJ⟩ hl hx0 hx1
    have hx : ((x.toNat : Nat) : Int) = x := by omega
    have := hY p ⟨x.toNat, by omega⟩ W1 hJ (by simpa using hl)
    simp only [hx] at this
    refine this.mono ?_
    rintro e W' (⟨he, h1, h2⟩ | ⟨he, h1⟩)
    · exact .inl ⟨he, ⟨_, by simp [hx], h1⟩, h2⟩
    · exact .inr ⟨he, _, h1⟩
  · have := (b1.belowAll hW).cells 0
    simpa using this
  · intro k h
    exact (hW.cell (p := ⟨b, off + k, none⟩) (by show b < _; omega)).trans (hcs k h)
  · rintro e W' ⟨hv, ⟨ys, hys, p, hp, hJ⟩ | ⟨pre, _, p, hJ⟩⟩
    · exact ⟨hv, .inl ⟨p, hp.trans hys, hJ⟩⟩
    · exact ⟨hv, .inr ⟨p, trivial, hJ⟩⟩

/-- A run's list and the end of the last one, with one more free block. -/
def runStep (st : List Int × Int) (x : Int) : List Int × Int :=
  ((if x = st.2 then st.1 else st.1 ++ [x, 0]).set ((if x = st.2 then st.1 else st.1 ++ [x, 0]).length - 1) ((if x = st.2 then st.1 else st.1 ++ [x, 0]).getD ((if x = st.2 then st.1 else st.1 ++ [x, 0]).length - 1) 0 + 1), x + 1)
def runsOf (pre : List Int) : List Int × Int := pre.foldl runStep ([], -1)
theorem runsOf_nil : runsOf [] = ([], -1) := rfl
theorem runsOf_snoc (pre : List Int) (x : Int) : runsOf (pre ++ [x]) = runStep (runsOf pre) x := by simp [runsOf]
theorem runStep_old {l : List Int} {m : Nat} {x z : Int} (hl : l.length = (m + 1) * 2) (hz : l[m * 2 + 1]? = some z) : runStep (l, x) x = (l.set (m * 2 + 1) (z + 1), x + 1) := by
  have : l.length - 1 = m * 2 + 1 := by omega
  simp [runStep, this, List.getD_eq_getElem?_getD, hz]
theorem runStep_new {l : List Int} {m : Nat} {x e : Int} (hl : l.length = m * 2) (hx : x ≠ e) : runStep (l, e) x = ((l ++ [x, 0]).set (m * 2 + 1) (0 + 1), x + 1) := by
  simp only [runStep]
  rw [if_neg hx]
  have : (l ++ [x, 0]).length - 1 = m * 2 + 1 := by simp; omega
  rw [this]
  have : (l ++ [x, 0]).getD (m * 2 + 1) 0 = 0 := by
    rw [List.getD_eq_getElem?_getD, List.getElem?_append_right (by omega)]
    simp [hl]
  rw [this]

/-- What is known of runs of n blocks. -/
def RInv (st : List Int × Int) (n : Nat) : Prop := ∃ m, st.1.length = m * 2 ∧ m ≤ n ∧ ((m = 0 ∧ st.2 = -1) ∨ (∃ m' z, m = m' + 1 ∧ st.1[m' * 2 + 1]? = some z ∧ 0 ≤ z ∧ z ≤ n))
theorem RInv.nil : RInv ([], -1) 0 := ⟨0, rfl, Nat.le_refl _, .inl ⟨rfl, rfl⟩⟩
theorem RInv.step {st : List Int × Int} {n : Nat} {x : Int} (h : RInv st n) (hx : 0 ≤ x) : RInv (runStep st x) (n + 1) := by
  obtain ⟨l, e⟩ := st
  obtain ⟨m, hl, hm, h⟩ := h
  simp only at hl h
  by_cases hxe : x = e
  · subst hxe
    rcases h with ⟨_, h⟩ | ⟨m', z, rfl, hz, h0, h1⟩
    · omega
    · rw [runStep_old hl hz]
      exact ⟨m' + 1, by simpa using hl, by omega, .inr ⟨m', z + 1, rfl, by simp [List.getElem?_set]; omega, by omega, by omega⟩⟩
  · rw [runStep_new hl hxe]
    exact ⟨m + 1, by simp [hl]; omega, by omega, .inr ⟨m, 0 + 1, rfl, by simp [List.getElem?_set]; omega, by omega, by omega⟩⟩

/-- A box of a list of runs that the call has gathered. -/
def RunsBox (B base : Nat) (l : List Int) (W : World) : Prop :=
  ∃ v, Boxed W B 55 v ∧ W.ownsRow base 59 2 v (l.length / 2) (l.map (Value.int .i64)) ∧ True

theorem Try.info59 : (Try.prog.info? 59).map (fun i => (i.zero, i.size, i.bytes)) = some (some (.agg #[.int .i64 0, .int .i64 0]), 2, 16) := by kernel_rfl

def runsL (us : List Bool) : List Int := (runsOf (frees us 0)).1
def RunsPost (s j i : Int) (us : List Bool) (w : World) (e : Ending) (w' : World) : Prop :=
  Below w.heap.size w w' ∧ ((CkE s j i us.length ≠ 0 ∧ e = .returned (.tuple #[.slice none 0 0, .int .i64 (CkE s j i us.length)])) ∨
    (CkE s j i us.length = 0 ∧ ∃ av cv, e = .returned (.tuple #[.slice av ((runsL us).length / 2) cv, .int .i64 0]) ∧
      w'.ownsRow w.heap.size 59 2 (.slice av ((runsL us).length / 2) cv) ((runsL us).length / 2) ((runsL us).map (.int .i64))))

theorem own_cell {W : World} {base g m cap : Nat} {e : TypeId} {l : List Int} (h : W.ownsRow base e 2 (.slice (some ⟨g, 0, none⟩) m cap) m (l.map (Value.int .i64))) {k : Nat} {z : Int} (hk : l[k]? = some z) (hl : l.length = m * 2) : W.cell? ⟨g, k, none⟩ = some (.int .i64 z) := by
  have hlt : k < l.length := by
    rcases Nat.lt_or_ge k l.length with h | h
    · exact h
    · rw [List.getElem?_eq_none h] at hk; cases hk
  rw [h.cellAt k (by omega), List.getElem?_map, hk]; rfl

theorem cells_new (W : World) (t : TypeId) (cs : Array Value) : ∀ j u, cs.toList[j]? = some u → (W.alloc (.cells cs t)).cell? ((⟨W.heap.size, 0, none⟩ : Addr).add j) = some u := by
  intro j u h
  have hp : (⟨W.heap.size, 0, none⟩ : Addr).add j = ⟨W.heap.size, j, none⟩ := by unfold Addr.add; split <;> simp_all
  rw [hp, (Blk.new W t cs).cells]
  simpa using h
theorem KeepEx.more {B : Nat} {bs bs' : List Nat} {w w' : World} (h : KeepEx B bs w w') (hs : ∀ k, k ∈ bs → k ∈ bs') : KeepEx B bs' w w' := ⟨h.os, h.tape, h.output, h.size, fun k hk hn => h.block k hk (fun hm => hn (hs k hm))⟩
/-- The end of a round: the last run's Many is stored, and the end. -/
theorem runs_close {W : World} {Bo Be base g cap m : Nat} {l : List Int} {e : Int} (hv : Boxed W Bo 55 (.slice (some ⟨g, 0, none⟩) m cap)) (hbe : Boxed W Be 3 (.int .i64 e))
    (hrow : W.ownsRow base 59 2 (.slice (some ⟨g, 0, none⟩) m cap) m (l.map (Value.int .i64))) (hl : l.length = m * 2) (hBo : Bo < base) (hBe : Be < base) (hne : Bo ≠ Be) (hg : base ≤ g) (k : Nat) (z y : Int) :
    KeepsOthers W ((W.setCell ⟨g, k, none⟩ (.int .i64 z)).setCell ⟨Be, 0, none⟩ (.int .i64 y)) ∧ KeepEx base [Bo, Be] W ((W.setCell ⟨g, k, none⟩ (.int .i64 z)).setCell ⟨Be, 0, none⟩ (.int .i64 y)) ∧
      RunsBox Bo base (l.set k z) ((W.setCell ⟨g, k, none⟩ (.int .i64 z)).setCell ⟨Be, 0, none⟩ (.int .i64 y)) ∧ Boxed ((W.setCell ⟨g, k, none⟩ (.int .i64 z)).setCell ⟨Be, 0, none⟩ (.int .i64 y)) Be 3 (.int .i64 y) := by
  refine ⟨(KeepsOthers.setCell _ _ _).trans (KeepsOthers.setCell _ _ _), (KeepEx.setCell _ (.inr hg) _).trans (KeepEx.setCell _ (.inl (by simp)) _), ⟨_, Blk.far (Blk.far hv (by simp; omega) _) (by simpa using hne) _, ?_, trivial⟩, ?_⟩
  · have h2 : (l.set k z).length / 2 = m := by rw [List.length_set]; omega
    rw [h2, List.map_set]
    exact ownsRow_setCell_below (hrow.stored k _).1 hBe _
  · exact Boxed.set _ (Blk.far hbe (by simp; omega) _)

set_option maxRecDepth 100000 in
set_option maxHeartbeats 2000000 in
theorem runs_ok (s j i : Int) (A : Option Addr) (c : Nat) (us : List Bool) (hus : us.length ≤ 1000) (w : World) (hR : Reads w A (us.map .bool)) (hE : CkE s j i us.length = 0) :
    Calls Try.prog 29 #[.agg #[.int .i64 s, .int .i64 j, .int .i64 i, .slice A us.length c]] w (RunsPost s j i us w) := by
  have hE' : (CkE s j i us.length != 0) = false := by simpa using hE
  have hpos : 0 < us.length := by have := (ckE_len hE).2.2.1; omega
  have HE := Lib.hid hE
  clear hE
  refine calls_of_marks Try.func29 rfl ?_
  simp only [Try.ntmps29, List.size_toArray, List.length_cons, List.length_nil, Nat.reduceAdd, Nat.reduceSub, Array.replicate_succ, Array.replicate_zero, List.push_toArray, List.append_toArray, List.nil_append, List.cons_append]
  go_wp2_with fail
  refine (check_any s j i A us.length c _ (by unfold maxLen; omega)).mono ?_
  rintro e w1 ⟨rfl, hb1⟩
  have bS : Blk w1 w.heap.size 26 #[.int .i64 s, .int .i64 j, .int .i64 i, .slice A us.length c] := Blk.belowAll (by (repeat' (first | (with_reducible assumption) | exact Blk.new' (by simp) | refine Blk.alloc ?_ _))) hb1
  replace hb1 : Below w.heap.size w w1 := below1 hb1
  have cS := bS.cells
  have lS := bS.lt
  go_wp2_with (go_at_call 39; refine (free_any _ _ _ _ _ _ _ _).mono ?_; rintro e w' ⟨rfl, rfl⟩)
  obtain ⟨b, off, hA, hb, _⟩ := hR.at_ (k := 0) (by simp; omega)
  have hcs : ∀ k (h : k < us.length), w.cell? ⟨b, off + k, none⟩ = some (.bool us[k]) := by
    intro k h
    obtain ⟨b', off', hA', _, hc'⟩ := hR.at_ (k := k) (by simpa using h)
    rw [hA] at hA'
    simp only [Option.some.injEq, Addr.mk.injEq, and_true] at hA'
    obtain ⟨rfl, rfl⟩ := hA'
    rw [hc', List.getElem_map]
  have HA := Lib.hid hA
  clear hA
  obtain ⟨W1, hW1⟩ : ∃ W1, W1 = (((w1.alloc (.cells #[.slice none 0 0] 55)).alloc (.cells #[.int .i64 (-1)] 3)).alloc (.cells #[.int .i64 s, .int .i64 j, .int .i64 i, .slice A us.length c] 26)).alloc (.cells #[.int .i64 0] 3) := ⟨_, rfl⟩
  rw [← hW1]
  have bO1 : Boxed W1 w1.heap.size 55 (.slice none 0 0) := by rw [hW1]; exact ((Blk.alloc (Blk.new _ _ _) _).alloc _).alloc _
  have bE1 : Boxed W1 (w1.heap.size + 1) 3 (.int .i64 (-1)) := by rw [hW1]; exact ((Blk.new' (by simp)).alloc _).alloc _
  have bI0 : Blk W1 (w1.heap.size + 2) 26 #[.int .i64 s, .int .i64 j, .int .i64 i, .slice A us.length c] := by rw [hW1]; exact (Blk.new' (by simp)).alloc _
  have bI1 : Blk W1 (w1.heap.size + 3) 3 #[.int .i64 ((0 : Nat) : Int)] := by rw [hW1]; exact Blk.new' (by simp)
  have hB1 : Below w.heap.size w W1 := by rw [hW1]; have := hb1.size; exact (((hb1.alloc hb1.size _).alloc (by simp; omega) _).alloc (by simp; omega) _).alloc (by simp; omega) _
  have hs1 : W1.heap.size = w1.heap.size + 4 := by rw [hW1]; simp
  have hcs1 : ∀ k (h : k < us.length), W1.cell? ⟨b, off + k, none⟩ = some (.bool us[k]) := fun k h => (hB1.cell (p := ⟨b, off + k, none⟩) hb).trans (hcs k h)
  have hz1 := hb1.size
  obtain ⟨i0, hi, hz0, hzz1, hzz2⟩ := info_parts Try.info59
  clear hW1 bS cS hb1 hcs
  have HCS := Lib.hid hcs1
  have HHI := Lib.hid hi
  clear hcs1 hi
  refine range_meet (n := 6) (fun D W => W.heap[D]? = some (.deferred (some [])) ∧ w1.heap.size + 4 ≤ D ∧ RunsBox w1.heap.size (w1.heap.size + 4) (runsL us) W ∧ KeepEx (w1.heap.size + 4) [w1.heap.size, w1.heap.size + 1] W1 W) ?loop ?after
  case loop =>
    refine wpIn_rangeFunc_ownG rfl (by omega) (gf := 46) (lb := #[.pointer (some ⟨w1.heap.size + 2, 0, none⟩), .pointer (some ⟨w1.heap.size + 3, 0, none⟩)]) rfl trivial (enters_of Try.func46 (by kernel_rfl) rfl)
      (free_stopsF Fence.wide (6 - 1) trivial rfl (by omega) (w1.heap.size + 2) (w1.heap.size + 3) (w1.heap.size + 4) s j i A c 0 us hpos hus W1 [w1.heap.size, w1.heap.size + 1] (by simp) (by simp) (by omega) (by omega) (by omega) bI0 bI1 b off HA.out (by omega) (by simp; omega) HCS.out)
      keepEx_t (keepEx_b (by omega)) (Below.refl _ _) (fun _ => rfl)
      (fun pre W => (RunsBox w1.heap.size (w1.heap.size + 4) (runsOf (pre.map fun x => ((x.val : Nat) : Int))).1 W ∧ Boxed W (w1.heap.size + 1) 3 (.int .i64 (runsOf (pre.map fun x => ((x.val : Nat) : Int))).2)) ∧
        KeepEx (w1.heap.size + 4) [w1.heap.size, w1.heap.size + 1] W1 W ∧ RInv (runsOf (pre.map fun x => ((x.val : Nat) : Int))) pre.length)
      (fun _ _ _ => False)
      (OwnFrom.and (OwnFrom.and (Own.from (holdsRow_own _ _ 55 59 2 (fun pre : List (Fin us.length) => (runsOf (pre.map fun x => ((x.val : Nat) : Int))).1.length / 2) (fun pre => (runsOf (pre.map fun x => ((x.val : Nat) : Int))).1.map (Value.int .i64)) (fun _ _ => True)) _) (boxed_own _ _ _ (fun pre : List (Fin us.length) => .int .i64 (runsOf (pre.map fun x => ((x.val : Nat) : Int))).2)))
        (OwnFrom.and (ownFrom_keepEx (by omega) (by omega)) ownFrom_pure'))
      (fun _ _ _ _ _ hs _ _ => hs)
      ⟨⟨⟨_, bO1, by simpa [runsOf] using World.ownsRow_nil W1 (w1.heap.size + 4) 59 2, trivial⟩, bE1⟩, KeepEx.refl _ _ _, RInv.nil⟩
      (fun x => { tmps := #[.agg #[.int .i64 s, .int .i64 j, .int .i64 i, .slice A us.length c], .pointer (some ⟨w.heap.size, 0, none⟩), .slice none 0 0, .int .i64 0, .int .i64 (CkE s j i us.length), .pointer (some ⟨w1.heap.size, 0, none⟩), .pointer (some ⟨w1.heap.size + 1, 0, none⟩), .int .i64 ((x.val : Nat) : Int), .agg #[.int .i64 s, .int .i64 j, .int .i64 i, .slice A us.length c], .int .i64 (CkE s j i us.length), .int .i64 (CkE s j i us.length), .bool false, undef,
        .agg #[.int .i64 s, .int .i64 j, .int .i64 i, .slice A us.length c], .func (.func 46) #[] #[.pointer (some ⟨w1.heap.size + 2, 0, none⟩), .pointer (some ⟨w1.heap.size + 3, 0, none⟩)], .int .i64 ((x.val : Nat) : Int), undef, undef, undef, undef, undef, undef, undef, undef, undef, undef, undef, undef, undef, undef, undef, undef, undef, undef, undef, undef, undef], defers := [] }) ?assign ?body ?done ?stop
    case assign =>
      intro l x W K hK
      gi_wp2
      simpa using hK
    case body =>
      rintro l pre x W ⟨⟨⟨v, hv, hrow, _⟩, hbe⟩, hK, hinv⟩ hlt
      have HSN : Hid (runsOf ((pre ++ [x]).map fun x => ((x.val : Nat) : Int)) = runStep (runsOf (pre.map fun x => ((x.val : Nat) : Int))) ((x.val : Nat) : Int)) := Lib.hid (by rw [List.map_append]; exact runsOf_snoc _ _)
      have HIN : Hid (RInv (runsOf ((pre ++ [x]).map fun x => ((x.val : Nat) : Int))) (pre ++ [x]).length) := Lib.hid (by rw [HSN.out, List.length_append]; exact hinv.step (by omega))
      have hxb := x.isLt
      generalize runsOf (pre.map fun x => ((x.val : Nat) : Int)) = st at hv hrow hbe hinv HSN
      obtain ⟨L, e⟩ := st
      obtain ⟨m, hl, hm, hI⟩ := hinv
      simp only at hl hI hv hrow hbe
      have hm2 : L.length / 2 = m := by omega
      rw [hm2] at hrow
      generalize hxn : x.val = xn at hxb HSN
      have hce := hbe.cell
      have hfe := hbe.frozen
      have hc := hv.cell
      have hf := hv.frozen
      have hsz := hK.size
      have HXN := Lib.hid hxn
      have HK := Lib.hid hK
      clear hK
      by_cases hxe : ((xn : Nat) : Int) = e
      · subst hxe
        rcases hI with ⟨_, h⟩ | ⟨m', z, rfl, hz, h0, h1⟩
        · omega
        · have hst := Lib.hid (runStep_old (x := ((xn : Nat) : Int)) hl hz)
          obtain ⟨g, cap, rfl, hg1, hg2⟩ := own_form hrow (by omega)
          have hcl := own_cell hrow hz hl
          have hfr := hrow.frozenAt (m' * 2 + 1)
          obtain ⟨q1, q2, q3, q4⟩ := runs_close hv hbe hrow hl (by omega) (by omega) (by omega) hg1 (m' * 2 + 1) (z + 1) ((xn : Int) + 1)
          have Q1 := Lib.hid q1
          have Q2 := Lib.hid q2
          have Q3 := Lib.hid q3
          have Q4 := Lib.hid q4
          clear q1 q2 q3 q4 hz
          gi_wp2
          exact ⟨Q1.out.from _, Q2.out, ⟨⟨by rw [HSN.out, hst.out]; exact Q3.out, by rw [HSN.out, hst.out]; exact Q4.out⟩, HK.out.trans Q2.out, HIN.out⟩⟩
      · obtain ⟨av, cv, rfl⟩ := own_slice hrow
        have hd : (((xn : Nat) : Int) != e) = true := by simpa using hxe
        have hst := Lib.hid (runStep_new (x := ((xn : Nat) : Int)) (e := e) hl hxe)
        have hi := HHI.out
        have hme : m ≤ 1000 := by omega
        clear hI hxe
        gi_wp2_with (gi_at_builtin; refine wpListIn_append_own _ rfl _ _ 55 rfl (w1.heap.size + 4) 59 i0 (.agg #[.int .i64 0, .int .i64 0]) 2 16 Try.underlying55 hi hz0 hzz1 hzz2 rfl (by decide) _ _ _ rfl (hrow.alloc _) ⟨W.heap.size, 0, none⟩ 1 1 [.int .i64 xn, .int .i64 0] rfl rfl (cells_new W _ #[.int .i64 xn, .int .i64 0]) (by simp [Value.oneCell']) (by simp only [maxLen]; omega) (by omega) (by simp; omega) ?_; intro v' w2 hown' hgrow _; obtain ⟨g', cap', rfl, hg1, hg2⟩ := own_form hown' (by omega); obtain ⟨hv1, hv2, hr2, hk2, hb2⟩ := box_appended hv hrow (by omega) (by omega) hown' hgrow; have hc1 := hv1.cell; have hf1 := hv1.frozen; have hbe1 := Boxed.kept (Boxed.alloc hbe _) hgrow (fun h => by (have := hrow.lt _ h.symm; omega)); have hce1 := hbe1.cell; have hfe1 := hbe1.frozen; have hl2 : (L ++ [((xn : Nat) : Int), 0]).length = (m + 1) * 2 := (by simp; omega); have hr3 : World.ownsRow w2 (w1.heap.size + 4) 59 2 (.slice (some ⟨g', 0, none⟩) (m + 1) cap') (m + 1) ((L ++ [((xn : Nat) : Int), 0]).map (Value.int .i64)) := (by simpa using hown'); have hcl := own_cell hr3 (k := m * 2 + 1) (z := 0) (by rw [List.getElem?_append_right (by omega)]; simp [hl]) hl2; have hfr := hr3.frozenAt (m * 2 + 1))
        have hbe2 : Boxed (w2.setCell ⟨w1.heap.size, 0, none⟩ (.slice (some ⟨g', 0, none⟩) (m + 1) cap')) (w1.heap.size + 1) 3 (.int .i64 e) := Blk.far hbe1 (by simp) _
        have hr4 : World.ownsRow (w2.setCell ⟨w1.heap.size, 0, none⟩ (.slice (some ⟨g', 0, none⟩) (m + 1) cap')) (w1.heap.size + 4) 59 2 (.slice (some ⟨g', 0, none⟩) (m + 1) cap') (m + 1) ((L ++ [((xn : Nat) : Int), 0]).map (Value.int .i64)) := by simpa using hr2
        obtain ⟨q1, q2, q3, q4⟩ := runs_close hv2 hbe2 hr4 hl2 (by omega) (by omega) (by omega) hg1 (m * 2 + 1) (0 + 1) ((xn : Int) + 1)
        have hK2 := hb2.more (bs' := [w1.heap.size, w1.heap.size + 1]) (by simp)
        exact ⟨(hk2.trans q1).from _, hK2.trans q2, ⟨⟨by rw [HSN.out, hst.out]; exact q3, by rw [HSN.out, hst.out]; exact q4⟩, HK.out.trans (hK2.trans q2), HIN.out⟩⟩
    case done =>
      rintro D ys W hD hys ⟨⟨hbox, _⟩, hK, _⟩ hKd
      exact ⟨.inl rfl, D, rfl, hKd, by omega, by rw [hys] at hbox; exact hbox, hK⟩
    case stop =>
      rintro D c pre W _ _ h _
      exact h.elim
  case after =>
    rintro D W ⟨hKd, hD, ⟨v, hv, hrow, _⟩, hK⟩
    have hc := hv.cell
    have hf := hv.frozen
    have hBW : Below w.heap.size w W := hB1.trans (hK.toBelow (by omega) (by simp; omega))
    obtain ⟨av, cv, rfl⟩ := own_slice hrow
    go_wp2
    refine marks_ret (.tuple #[.slice av ((runsL us).length / 2) cv, .int .i64 0]) hKd (by simp [results, Try.results29, go_sem]) ?_
    exact ⟨below_put hBW (by omega), .inr ⟨HE.out, av, cv, rfl, own_base (ownsRow_putObj hrow _ hKd rfl) (by omega)⟩⟩

set_option maxHeartbeats 400000 in
theorem runs_any (s j i : Int) (A : Option Addr) (c : Nat) (us : List Bool) (hus : us.length ≤ 1000) (w : World) (hR : Reads w A (us.map .bool)) :
    Calls Try.prog 29 #[.agg #[.int .i64 s, .int .i64 j, .int .i64 i, .slice A us.length c]] w (RunsPost s j i us w) := by
  by_cases hE : CkE s j i us.length = 0
  · exact runs_ok s j i A c us hus w hR hE
  · have hE' : (CkE s j i us.length != 0) = true := by simpa using hE
    have HE := Lib.hid hE
    clear hE
    go_enter Try.func29, Try.ntmps29
    go_wp2_with fail
    refine (check_any s j i A us.length c _ (by unfold maxLen; omega)).mono ?_
    rintro e w1 ⟨rfl, hb1⟩
    replace hb1 : Below w.heap.size w w1 := below1 hb1
    go_wp2_with fail
    go_ret2
    exact ⟨hb1, .inl ⟨HE.out, rfl⟩⟩

end Go.Proofs.Ytenfheheepkfbaa
