/- The reference's Runs. -/
import Derived.Test.YtenfheheepkfbaaR8
namespace Go.Proofs.Ytenfheheepkfbaa
open Go.RowKit

theorem RInv.mono {st : List Int × Int} {n n' : Nat} (h : RInv st n) (hn : n ≤ n') : RInv st n' := by
  obtain ⟨m, h1, h2, h3⟩ := h
  refine ⟨m, h1, by omega, ?_⟩
  rcases h3 with h3 | ⟨m', z, h4, h5, h6, h7⟩
  · exact .inl h3
  · exact .inr ⟨m', z, h4, h5, h6, by omega⟩
theorem goRound0_hit {us : List Bool} {k : Nat} (hk : k < us.length) (h : us[k] = false) : goRound us 0 (k + 1) = goRound us 0 k ++ [(k : Int)] := by
  rw [goRound_hit (by rw [Nat.zero_add, Nat.mod_eq_of_lt hk, List.getElem?_eq_getElem hk, h])]
  rw [show (((0 : Nat) : Int) + (k : Int)) % (us.length : Int) = (k : Int) by rw [Int.emod_eq_of_lt (by omega) (by omega)]; simp]
theorem goRound0_miss {us : List Bool} {k : Nat} (hk : k < us.length) (h : us[k] = true) : goRound us 0 (k + 1) = goRound us 0 k :=
  goRound_miss (by rw [Nat.zero_add, Nat.mod_eq_of_lt hk, List.getElem?_eq_getElem hk, h])
theorem runs_know {us : List Bool} {k : Nat} (hk : k ≤ us.length) : RInv (runsOf (goRound us 0 k)) k ∧ (runsOf (goRound us 0 k)).2 ≤ k ∧ ((runsOf (goRound us 0 k)).2 = k ↔ ∃ p, k = p + 1 ∧ us[p]? = some false) := by
  induction k with
  | zero => rw [goRound_0]; exact ⟨RInv.nil, by simp [runsOf], by simp [runsOf]⟩
  | succ k ih =>
    obtain ⟨h1, h2, h3⟩ := ih (by omega)
    cases hu : us[k]
    · rw [goRound0_hit (by omega) hu, runsOf_snoc]
      refine ⟨h1.step (by omega), ?_, ?_⟩
      · simp [runStep]
      · simp only [runStep]
        exact ⟨fun _ => ⟨k, rfl, by rw [List.getElem?_eq_getElem (by omega), hu]⟩, fun _ => by push_cast; rfl⟩
    · rw [goRound0_miss (by omega) hu]
      refine ⟨h1.mono (by omega), by omega, ⟨fun h => absurd h (by omega), ?_⟩⟩
      rintro ⟨p, hp, hq⟩
      obtain rfl : p = k := by omega
      rw [List.getElem?_eq_getElem (by omega), hu] at hq
      cases hq

set_option maxRecDepth 100000 in
set_option maxHeartbeats 4000000 in
theorem runsR_ok (s j i : Int) (A : Option Addr) (c : Nat) (us : List Bool) (hus : us.length ≤ 1000) (w : World) (hR : Reads w A (us.map .bool)) (hE : CkE s j i us.length = 0) :
    Calls Try.prog 30 #[.agg #[.int .i64 s, .int .i64 j, .int .i64 i, .slice A us.length c]] w (RunsPost s j i us w) := by
  have hE' : (CkE s j i us.length != 0) = false := by simpa using hE
  have HE := Lib.hid hE
  clear hE
  obtain ⟨i0, hi, hz0, hz1, hz2⟩ := info_parts Try.info59
  go_enter Try.func30, Try.ntmps30
  go_wp2_with fail
  refine (checkR_any s j i A us.length c _ (by unfold maxLen; omega)).mono ?_
  rintro e w1 ⟨rfl, hb1⟩
  have bS : Blk w1 w.heap.size 26 #[.int .i64 s, .int .i64 j, .int .i64 i, .slice A us.length c] := Blk.belowAll (by (repeat' (first | (with_reducible assumption) | exact Blk.new' (by simp) | refine Blk.alloc ?_ _))) hb1
  replace hb1 : Below w.heap.size w w1 := below1 hb1
  have cS := bS.cells
  have lS := bS.lt
  have zz := hb1.size
  go_wp2_with fail
  go_loopw [5, 6] (fun v q wr => ∃ k : Nat, k ≤ us.length ∧ q = .int .i64 k ∧ wr.ownsRow w1.heap.size 59 2 v ((runsOf (goRound us 0 k)).1.length / 2) ((runsOf (goRound us 0 k)).1.map (.int .i64)) ∧ Below w1.heap.size w1 wr) (fun _ q _ => us.length - (intOf q).toNat)
  case atStart => exact ⟨0, Nat.zero_le _, rfl, by rw [goRound_0]; simpa [runsOf] using World.ownsRow_nil w1 w1.heap.size 59 2, Below.refl _ _⟩
  case round =>
    obtain ⟨k, hk, rfl, hown, hnx⟩ := hrel
    have bS3 := bS.belowAll hnx
    have cS := bS3.cells
    have lS3 := bS3.lt
    have B3 := hb1.trans (hnx.mono hb1.size)
    have hsz := hnx.size
    by_cases hlt : k < us.length
    · obtain ⟨b, off, hA, hb, hc⟩ := (hR.below B3).at_ (k := k) (by simpa using hlt)
      have hcs : ∀ q (h : q < us.length), wr.cell? ⟨b, off + q, none⟩ = some (.bool us[q]) := by
        intro q h
        obtain ⟨b', off', hA', _, hc'⟩ := (hR.below B3).at_ (k := q) (by simpa using h)
        rw [hA] at hA'
        simp only [Option.some.injEq, Addr.mk.injEq, and_true] at hA'
        obtain ⟨rfl, rfl⟩ := hA'
        rw [hc', List.getElem_map]
      subst hA
      rw [List.getElem_map] at hc
      have HCS := Lib.hid hcs
      clear hcs
      obtain ⟨hinv, hle, hiff⟩ := runs_know (us := us) (k := k) (by omega)
      cases hu : us[k] <;> rw [hu] at hc
      · have HH := Lib.hid (goRound0_hit hlt hu)
        have HS : Hid (runsOf (goRound us 0 (k + 1)) = runStep (runsOf (goRound us 0 k)) k) := Lib.hid (by rw [HH.out, runsOf_snoc])
        generalize runsOf (goRound us 0 k) = st at hown hinv hle hiff HS
        obtain ⟨L, e⟩ := st
        obtain ⟨m, hl, hm, hI⟩ := hinv
        simp only at hl hI hown hle hiff
        have hm2 : L.length / 2 = m := by omega
        rw [hm2] at hown
        have hme : m ≤ 1000 := by omega
        obtain ⟨av, cv, rfl⟩ := own_slice hown
        by_cases hnew : ((k : Int)) = e
        · subst hnew
          obtain ⟨p, rfl, hp⟩ := hiff.1 rfl
          have hpl : p < us.length := by omega
          rw [List.getElem?_eq_getElem hpl, Option.some.injEq] at hp
          have hcp := HCS.out p hpl
          rw [hp] at hcp
          rcases hI with ⟨h, h'⟩ | ⟨m', z, rfl, hz, h0, h1⟩
          · omega
          · have hst := Lib.hid (runStep_old (x := ((p + 1 : Nat) : Int)) hl hz)
            obtain ⟨g, cap, hav, hg1, hg2⟩ := own_form hown (by omega)
            cases hav
            have hcl := own_cell hown hz hl
            have hfr := hown.frozenAt (m' * 2 + 1)
            clear hz hp hu hiff
            go_wp2_with fail
            go_roundw
            case rel => exact ⟨p + 1 + 1, by omega, by go_num, by rw [HS.out, hst.out]; simpa [hl, List.map_set] using (hown.stored (m' * 2 + 1) (.int .i64 (z + 1))).1, hnx.setCell (by simpa using hg1) _⟩
            case measure => simp [intOf]; omega
        · have hst := Lib.hid (runStep_new (x := (k : Int)) (e := e) hl hnew)
          have hprev : k = 0 ∨ ∃ p, k = p + 1 ∧ us[p]? = some true := by
            rcases k with _ | p
            · exact .inl rfl
            · refine .inr ⟨p, rfl, ?_⟩
              rw [List.getElem?_eq_getElem (by omega)]
              cases hq : us[p]
              · exact absurd (hiff.2 ⟨p, rfl, by rw [List.getElem?_eq_getElem (by omega), hq]⟩) (fun h => hnew h.symm)
              · rfl
          clear hiff hnew hu hI hle
          rcases hprev with hk0 | ⟨p, rfl, hp⟩
          · have hk1 : ((k : Int) == 0) = true := by simp [hk0]
            clear hk0
            have hl2 : (L ++ [((k : Int)), 0]).length = (m + 1) * 2 := by simp; omega
            go_wp2_with (at_builtin; refine wpList_append_own _ rfl _ _ 55 rfl w1.heap.size 59 i0 (.agg #[.int .i64 0, .int .i64 0]) 2 16 Try.underlying55 hi hz0 hz1 hz2 rfl (by decide) _ _ _ rfl (hown.alloc _) ⟨wr.heap.size, 0, none⟩ 1 1 _ rfl rfl (cells_new wr _ _) (by simp [Value.oneCell']) (by simp only [maxLen]; omega) (by omega) (by simp; omega) ?_; intro v' w4 hown' hgrow _; obtain ⟨g', cap', rfl, hg1, hg2⟩ := own_form hown' (by omega); have hr3 : World.ownsRow w4 w1.heap.size 59 2 (.slice (some ⟨g', 0, none⟩) (m + 1) cap') (m + 1) ((L ++ [((k : Int)), 0]).map (Value.int .i64)) := (by simpa using hown'); have hcl := own_cell hr3 (k := m * 2 + 1) (z := 0) (by rw [List.getElem?_append_right (by omega)]; simp [hl]) hl2; have hfr := hr3.frozenAt (m * 2 + 1); have hnx4 : Below w1.heap.size w1 w4 := (hnx.alloc hsz _).grown hgrow (by simp; omega) (fun q hq => (hown.lt q hq).1))
            go_roundw
            case rel => exact ⟨k + 1, by omega, by go_num, by rw [HS.out, hst.out]; simpa [hl, hl2, List.map_set] using (hr3.stored (m * 2 + 1) (.int .i64 (0 + 1))).1, hnx4.setCell (by simpa using hg1) _⟩
            case measure => simp [intOf]; omega
          · have hpl : p < us.length := by omega
            rw [List.getElem?_eq_getElem hpl, Option.some.injEq] at hp
            have hcp := HCS.out p hpl
            rw [hp] at hcp
            clear hp
            have hl2 : (L ++ [(((p + 1 : Nat) : Int)), 0]).length = (m + 1) * 2 := by simp; omega
            go_wp2_with (at_builtin; refine wpList_append_own _ rfl _ _ 55 rfl w1.heap.size 59 i0 (.agg #[.int .i64 0, .int .i64 0]) 2 16 Try.underlying55 hi hz0 hz1 hz2 rfl (by decide) _ _ _ rfl (hown.alloc _) ⟨wr.heap.size, 0, none⟩ 1 1 _ rfl rfl (cells_new wr _ _) (by simp [Value.oneCell']) (by simp only [maxLen]; omega) (by omega) (by simp; omega) ?_; intro v' w4 hown' hgrow _; obtain ⟨g', cap', rfl, hg1, hg2⟩ := own_form hown' (by omega); have hr3 : World.ownsRow w4 w1.heap.size 59 2 (.slice (some ⟨g', 0, none⟩) (m + 1) cap') (m + 1) ((L ++ [(((p + 1 : Nat) : Int)), 0]).map (Value.int .i64)) := (by simpa using hown'); have hcl := own_cell hr3 (k := m * 2 + 1) (z := 0) (by rw [List.getElem?_append_right (by omega)]; simp [hl]) hl2; have hfr := hr3.frozenAt (m * 2 + 1); have hnx4 : Below w1.heap.size w1 w4 := (hnx.alloc hsz _).grown hgrow (by simp; omega) (fun q hq => (hown.lt q hq).1))
            go_roundw
            case rel => exact ⟨(p + 1) + 1, by omega, by go_num, by rw [HS.out, hst.out]; simpa [hl, hl2, List.map_set] using (hr3.stored (m * 2 + 1) (.int .i64 (0 + 1))).1, hnx4.setCell (by simpa using hg1) _⟩
            case measure => simp [intOf]; omega
      · have HH := Lib.hid (goRound0_miss hlt hu)
        clear hu hinv hle hiff
        go_wp2_with fail
        go_roundw
        case rel => exact ⟨k + 1, by omega, by go_num, by rw [HH.out]; exact hown, hnx⟩
        case measure => simp [intOf]; omega
    · obtain rfl : k = us.length := by omega
      obtain ⟨av, cv, rfl⟩ := own_slice hown
      go_wp2_with fail
      go_ret2
      exact ⟨by (repeat' (first | (with_reducible exact Below.refl _ _) | (with_reducible assumption) | (with_reducible refine Below.alloc ?_ ?_ _) | (with_reducible refine Below.drew ?_) | (with_reducible refine below_drewN' ?_ _) | (with_reducible refine Below.setCell ?_ ?_ _) | (with_reducible exact Nat.le_refl _) | omega | (simp; done) | (simp; omega))), .inr ⟨HE.out, av, cv, rfl, own_base hown (by omega)⟩⟩

set_option maxHeartbeats 400000 in
theorem runsR_any (s j i : Int) (A : Option Addr) (c : Nat) (us : List Bool) (hus : us.length ≤ 1000) (w : World) (hR : Reads w A (us.map .bool)) :
    Calls Try.prog 30 #[.agg #[.int .i64 s, .int .i64 j, .int .i64 i, .slice A us.length c]] w (RunsPost s j i us w) := by
  by_cases hE : CkE s j i us.length = 0
  · exact runsR_ok s j i A c us hus w hR hE
  · have hE' : (CkE s j i us.length != 0) = true := by simpa using hE
    have HE := Lib.hid hE
    clear hE
    go_enter Try.func30, Try.ntmps30
    go_wp2_with fail
    refine (checkR_any s j i A us.length c _ (by unfold maxLen; omega)).mono ?_
    rintro e w1 ⟨rfl, hb1⟩
    replace hb1 : Below w.heap.size w w1 := below1 hb1
    go_wp2_with fail
    go_ret2
    exact ⟨hb1, .inl ⟨HE.out, rfl⟩⟩

end Go.Proofs.Ytenfheheepkfbaa
