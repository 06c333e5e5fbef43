/- The iterator over the free blocks: blocks.free and its closure. -/
import Derived.Test.YtenfheheepkfbaaR0
import Derived.Test.YtenfheheepkfbaaA4
namespace Go.Proofs.Ytenfheheepkfbaa
open Go.RowKit Go.Shelf

attribute [local go_sem] Oper.semAt_some

/-- The blocks that k steps from near on have met and found free. -/
def goRound (us : List Bool) (near k : Nat) : List Int :=
  ((List.range k).filter fun (i : Nat) => us[(near + i) % us.length]? == some false).map fun (i : Nat) => ((near : Int) + (i : Int)) % (us.length : Int)
theorem goRound_0 (us : List Bool) (near : Nat) : goRound us near 0 = [] := by simp [goRound]
theorem goRound_hit {us : List Bool} {near k : Nat} (h : us[(near + k) % us.length]? = some false) : goRound us near (k + 1) = goRound us near k ++ [((near : Int) + (k : Int)) % (us.length : Int)] := by
  simp [goRound, List.range_succ, List.filter_append, h]
theorem goRound_miss {us : List Bool} {near k : Nat} (h : us[(near + k) % us.length]? = some true) : goRound us near (k + 1) = goRound us near k := by
  simp [goRound, List.range_succ, List.filter_append, h]
theorem goRound_le (us : List Bool) (near k : Nat) : (goRound us near k).length ≤ k := by
  unfold goRound; rw [List.length_map]; exact Nat.le_trans (List.length_filter_le _ _) (by simp)
/-- All free blocks, from near on. -/
def frees (us : List Bool) (near : Nat) : List Int := goRound us near us.length

set_option maxRecDepth 100000 in
set_option maxHeartbeats 2000000 in
/-- The closure: for every loop body that keeps what lay below n₀. -/
theorem free1_in (F : Fence) (n : Nat) (h7 : F.fn 46) (hro : F.round = none) (hn : 1 ≤ n) (l Bs Bn n₀ : Nat) (s j i : Int) (A : Option Addr) (c near : Nat) (us : List Bool) (hnear : near < us.length) (hus : us.length ≤ 1000) (hBs : Bs < n₀) (hBn : Bn < n₀) (bs : List Nat) (xBs : Bs ∉ bs) (xBn : Bn ∉ bs) (J Jx : List Int → World → Prop)
    (hY : ∀ pre (x : Int) W, J pre W → pre.length < us.length → 0 ≤ x → x < (us.length : Int) → YieldAt F (n - 1) Try.prog l #[.int .i64 x] W fun e W' =>
      (e = .returned (.bool true) ∧ J (pre ++ [x]) W' ∧ KeepEx n₀ bs W W') ∨ (e = .returned (.bool false) ∧ Jx (pre ++ [x]) W'))
    (W : World) (hc0 : ∀ j', W.cell? ⟨Bs, j', none⟩ = (#[.int .i64 s, .int .i64 j, .int .i64 i, .slice A us.length c] : Array Value)[j']?) (hcn : W.cell? ⟨Bn, 0, none⟩ = some (.int .i64 near))
    (b off : Nat) (hA : A = some ⟨b, off, none⟩) (hb : b < n₀) (xb : b ∉ bs) (hcs : ∀ k (h : k < us.length), W.cell? ⟨b, off + k, none⟩ = some (.bool us[k])) (h0 : J [] W) :
    CallsIn F n Try.prog 46 #[.func (.yield l) #[] #[], .pointer (some ⟨Bs, 0, none⟩), .pointer (some ⟨Bn, 0, none⟩)] W fun e W' => (∃ v, e = .returned v) ∧
      ((∃ ys, ys = frees us near ∧ J ys W') ∨ (∃ pre, (∃ k, k ≤ us.length ∧ pre = goRound us near k) ∧ Jx pre W')) := by
  subst hA
  have hc3 := hc0 3
  simp only [List.getElem?_toArray, List.getElem?_cons_succ, List.getElem?_cons_zero] at hc3
  refine callsIn_of_wp Try.func46 rfl h7 ?_ hro
  simp only [Try.ntmps46, List.size_toArray, List.length_cons, List.length_nil, Nat.reduceAdd, Nat.reduceSub, Array.replicate_succ, Array.replicate_zero, List.push_toArray, List.append_toArray, List.nil_append, List.cons_append]
  have HC := Lib.hid hc0
  clear hc0
  have HCS := Lib.hid hcs
  clear hcs
  gi_wp2
  gi_loopw [9] (fun q wr => ∃ k : Nat, k ≤ us.length ∧ q = .int .i64 k ∧ J (goRound us near k) wr ∧ KeepEx n₀ bs W wr)
    (fun q _ => us.length - (intOf q).toNat)
  case atStart => exact ⟨0, Nat.zero_le _, rfl, by rw [goRound_0]; exact h0, KeepEx.refl _ _ _⟩
  case round =>
    obtain ⟨k, hk, rfl, hJs, hnx⟩ := hrel
    have hc3' := (hnx.cell (p := ⟨Bs, 3, none⟩) hBs xBs).trans hc3
    have hcn' := (hnx.cell (p := ⟨Bn, 0, none⟩) hBn xBn).trans hcn
    by_cases hlt : k < us.length
    · have hm : (near + k) % us.length < us.length := Nat.mod_lt _ (by omega)
      have hcx := (hnx.cell (p := ⟨b, off + (near + k) % us.length, none⟩) hb xb).trans (HCS.out _ hm)
      have hl := goRound_le us near k
      have hbd : 0 ≤ ((near : Int) + (k : Int)) % (us.length : Int) ∧ ((near : Int) + (k : Int)) % (us.length : Int) < (us.length : Int) := ⟨Int.emod_nonneg _ (by omega), Int.emod_lt_of_pos _ (by omega)⟩
      cases hu : us[(near + k) % us.length] <;> rw [hu] at hcx
      · have hr := Lib.hid (goRound_hit (us := us) (near := near) (k := k) (by rw [List.getElem?_eq_getElem hm, hu]))
        obtain ⟨fn, tmps, assign, body, hy, hR⟩ := hY _ (((near : Int) + (k : Int)) % (us.length : Int)) wr hJs (by omega) hbd.1 hbd.2
        clear hu
        gi_wp2
        refine hR.mono ?_
        rintro e W3 (⟨rfl, hJ3, hk3⟩ | ⟨rfl, hJx3⟩)
        · gi_wp2
          go_roundw
          case rel => exact ⟨k + 1, by omega, by simp, by rw [hr.out]; exact hJ3, hnx.trans hk3⟩
          case measure => simp [intOf]; omega
        · gi_wp2
          refine bodyPost_ret (results_none rfl _ _ _) rfl ?_
          exact ⟨⟨_, rfl⟩, .inr ⟨_, ⟨k + 1, by omega, hr.out.symm⟩, hJx3⟩⟩
      · have hr := Lib.hid (goRound_miss (us := us) (near := near) (k := k) (by rw [List.getElem?_eq_getElem hm, hu]))
        clear hu
        gi_wp2
        refine ⟨fun _ h => (by cases h), ?_⟩
        gi_wp2
        go_roundw
        case rel => exact ⟨k + 1, by omega, by simp, by rw [hr.out]; exact hJs, hnx⟩
        case measure => simp [intOf]; omega
    · obtain rfl : k = us.length := by omega
      gi_wp2
      go_end0
      exact ⟨⟨_, rfl⟩, .inl ⟨_, rfl, hJs⟩⟩

end Go.Proofs.Ytenfheheepkfbaa
