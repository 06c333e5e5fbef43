/- Parts of the proof, put together by program: N8, N9. -/
import Derived.Test.YtljmdcegcckblaaGreatDoorPart42
import Derived.Test.YtljmdcegcckblaaGreatDoorPart06
/- The laws of layer 12: small functions of the acts. -/
namespace Go.Proofs.YtljmdcegcckblaaGreatDoor
open Go.RowKit Go.Maps

abbrev ansE (E : Int) : Array Value := #[.slice none 0 0, .slice none 0 0, .string ⟨#[]⟩, .int .i64 0, .int .i64 E]

set_option maxRecDepth 100000 in
set_option maxHeartbeats 2000000 in
theorem layout_any (j i : Int) (hj : 0 ≤ j ∧ j ≤ 255) (hi : 0 ≤ i ∧ i ≤ 255) (w : World) :
    Calls Tryz.prog 10 #[.int .u8 j, .int .u8 i] w fun e w' => e = .returned (.agg #[.int .i64 64, .int .i64 (8 + j % 21), .int .i64 (1 + i % 26)]) ∧ Below w.heap.size w w' := by
  have h1 : j.tmod 21 = j % 21 := Int.tmod_eq_emod_of_nonneg hj.1
  have h2 : i.tmod 26 = i % 26 := Int.tmod_eq_emod_of_nonneg hi.1
  have h3 : IntKind.u8.wrap (j % 21) = j % 21 := by rw [IntKind.wrap_u8]; omega
  have h4 : IntKind.u8.wrap (i % 26) = i % 26 := by rw [IntKind.wrap_u8]; omega
  have h5 : IntKind.i64.wrap (j % 21) = j % 21 := by rw [IntKind.wrap_i64]; omega
  have h6 : IntKind.i64.wrap (i % 26) = i % 26 := by rw [IntKind.wrap_i64]; omega
  have h7 : IntKind.i64.wrap (8 + j % 21) = 8 + j % 21 := by rw [IntKind.wrap_i64]; omega
  have h8 : IntKind.i64.wrap (1 + i % 26) = 1 + i % 26 := by rw [IntKind.wrap_i64]; omega
  go_enter Tryz.func10, Tryz.ntmps10
  go_wp2_with fail
  have bF := Blk.new w 32 #[.int .i64 64, .int .i64 (8 + j % 21), .int .i64 (1 + i % 26)]
  have cF := bF.cells
  have lF := bF.lt
  refine bodyPost_ret (v := .agg #[.int .i64 64, .int .i64 (8 + j % 21), .int .i64 (1 + i % 26)]) (by simp [results, Tryz.results10, go_sem, cF]) rfl ?_
  exact ⟨rfl, (Below.refl _ _).alloc (Nat.le_refl _) _⟩

set_option maxRecDepth 100000 in
set_option maxHeartbeats 2000000 in
theorem wrapped_any (n m : Int) (_hn : -9223372036854775808 ≤ n ∧ n ≤ 9223372036854775807) (hm : 1 ≤ m ∧ m ≤ 1000000) (w : World) :
    Calls Tryz.prog 25 #[.int .i64 n, .int .i64 m] w fun e w' => e = .returned (.int .i64 (n % m)) ∧ w' = w := by
  have h1 : ¬ m < 1 := by omega
  have h0 : m ≠ 0 := by omega
  have hlt : n.tmod m < m := Int.tmod_lt_of_pos _ (by omega)
  have hgt : -m < n.tmod m := by have := Int.lt_tmod_of_pos n (b := m) (by omega); omega
  have hw : IntKind.i64.wrap (n.tmod m) = n.tmod m := by rw [IntKind.wrap_i64]; omega
  have he : n.tmod m = n % m - ((if 0 ≤ n ∨ m ∣ n then 0 else m.natAbs : Nat) : Int) := Int.tmod_eq_emod
  have hem : 0 ≤ n % m ∧ n % m < m := ⟨Int.emod_nonneg _ h0, Int.emod_lt_of_pos _ (by omega)⟩
  by_cases hs : n.tmod m < 0
  · have hr : n.tmod m + m = n % m := by
      split at he
      · omega
      · rw [he]; omega
    have HR := Lib.hid hr
    have hw2 : IntKind.i64.wrap (n.tmod m + m) = n.tmod m + m := by rw [IntKind.wrap_i64]; omega
    clear he hr hem
    go_enter Tryz.func25, Tryz.ntmps25
    go_wp2_with fail
    go_ret
    exact ⟨by rw [← HR.out]; rfl, rfl⟩
  · have hr : n.tmod m = n % m := by
      split at he
      · omega
      · rw [he] at hs; omega
    have HR := Lib.hid hr
    clear he hr hem
    go_enter Tryz.func25, Tryz.ntmps25
    go_wp2_with fail
    go_ret
    exact ⟨by rw [← HR.out]; rfl, rfl⟩

/-! The parts of cut. -/
def pieceAt (s : ByteArray) (n k : Nat) : ByteArray := s.extract (n * k) (n * k + n)
def restN (s : ByteArray) (n k : Nat) : ByteArray := s.extract (n * k) s.size
def piecesL (s : ByteArray) (n k : Nat) : List ByteArray := (List.range k).map (pieceAt s n)
theorem restN_0 (s : ByteArray) (n : Nat) : restN s n 0 = s := by unfold restN; simp
theorem restN_size (s : ByteArray) (n k : Nat) : (restN s n k).size = s.size - n * k := by unfold restN; simp
theorem restN_head (s : ByteArray) (n k : Nat) (h : n * k + n ≤ s.size) : (restN s n k).extract 0 n = pieceAt s n k := by
  unfold restN pieceAt
  rw [ByteArray.extract_extract]
  congr 1; omega
theorem restN_tail (s : ByteArray) (n k z : Nat) (_h : n * k + n ≤ s.size) (hz : z = s.size - n * k) : (restN s n k).extract n z = restN s n (k + 1) := by
  unfold restN
  rw [ByteArray.extract_extract, Nat.mul_succ]
  congr 1; omega
theorem piecesL_succ (s : ByteArray) (n k : Nat) : piecesL s n (k + 1) = piecesL s n k ++ [pieceAt s n k] := by unfold piecesL; rw [List.range_succ, List.map_append]; rfl
theorem piecesL_length (s : ByteArray) (n k : Nat) : (piecesL s n k).length = k := by unfold piecesL; simp

/-- What cut hands back: pieces, and the rest, which is no longer than a piece. -/
def CutPost (s : ByteArray) (n : Nat) (w : World) (e : Ending) (w' : World) : Prop :=
  Below w.heap.size w w' ∧ ∃ k v, e = .returned v ∧ n * k ≤ s.size ∧ (restN s n k).size ≤ n ∧ (k = 0 ∨ 0 < (restN s n k).size) ∧ w'.ownsRow w.heap.size 9 1 v (k + 1) ((piecesL s n k ++ [restN s n k]).map .string)

set_option maxRecDepth 100000 in
set_option maxHeartbeats 2000000 in
theorem cut_any (s : ByteArray) (hs : s.size ≤ 1000) (n : Nat) (hn : 1 ≤ n ∧ n ≤ 1000) (w : World) :
    Calls Tryz.prog 36 #[.string s, .int .i64 n] w (CutPost s n w) := by
  obtain ⟨i0, hi, hz0, hzs, hzb⟩ := info_parts Tryz.infoStr
  unfold CutPost
  go_enter Tryz.func36, Tryz.ntmps36
  go_wp2_with fail
  go_loopw [0, 5] (fun q v wr => ∃ k : Nat, n * k ≤ s.size ∧ k ≤ s.size ∧ (k = 0 ∨ 0 < (restN s n k).size) ∧ q = .string (restN s n k) ∧ wr.ownsRow w.heap.size 9 1 v k ((piecesL s n k).map .string) ∧ Below w.heap.size w wr) (fun q _ _ => match q with | .string r => r.size | _ => 0)
  case atStart => exact ⟨0, by omega, by omega, .inl rfl, by rw [restN_0], World.ownsRow_nil _ _ _ _, Below.refl _ _⟩
  case round =>
    obtain ⟨k, hk, hks, hk0, rfl, hown, hb⟩ := hrel
    obtain ⟨av, cv, rfl⟩ := own_slice hown
    have hsz := restN_size s n k
    have hbz := hb.size
    by_cases hlt : n < (restN s n k).size
    · have hle : n * k + n ≤ s.size := by omega
      have HHd := Lib.hid (restN_head s n k hle)
      have HT := Lib.hid (restN_tail s n k (restN s n k).size hle hsz)
      have HSN := Lib.hid (piecesL_succ s n k)
      have HK : Hid (n * (k + 1) ≤ s.size ∧ k + 1 ≤ s.size ∧ 0 < (restN s n (k + 1)).size) := Lib.hid (by rw [restN_size, Nat.mul_succ]; have : k ≤ n * k := Nat.le_mul_of_pos_left _ (by omega); omega)
      clear hk0 hsz
      generalize restN s n k = r at *
      have hnr : n ≤ r.size := by omega
      go_wp2_with (at_builtin; refine wpList_append_own _ rfl _ _ 42 rfl w.heap.size 9 i0 (.string ⟨#[]⟩) 1 16 Tryz.underlying42 hi hz0 hzs hzb rfl (by decide) _ _ _ rfl (hown.alloc _) ⟨wr.heap.size, 0, none⟩ 1 1 [.string (r.extract 0 n)] rfl rfl (cell_one_new _ _ _) (by simp [Value.oneCell']) (by simp only [maxLen]; omega) (by omega) (by simp; omega) ?_; intro v' w4 hown' hgrow _; obtain ⟨g', cap', rfl, _, _⟩ := own_form hown' (by omega))
      have hnx4 : Below w.heap.size w w4 := (hb.alloc hbz _).grown hgrow (by simp; omega) (fun q hq => (hown.lt q hq).1)
      go_wp2_with fail
      go_roundw
      case rel => exact ⟨k + 1, HK.out.1, HK.out.2.1, .inr HK.out.2.2, by rw [HT.out], by rw [HSN.out, ← HHd.out]; simpa using hown', hnx4⟩
      case measure => simp; omega
    · have HR : Hid ((restN s n k).size ≤ n) := Lib.hid (by omega)
      have hk1 : k ≤ 1000 := by omega
      have HP : Hid (∀ (W : World) (v' : Value), W.ownsRow w.heap.size 9 1 v' (k + 1) ((piecesL s n k).map .string ++ [.string (restN s n k)]) → W.ownsRow w.heap.size 9 1 v' (k + 1) ((piecesL s n k ++ [restN s n k]).map .string)) := Lib.hid fun W v' h => by rw [List.map_append]; exact h
      clear hsz
      have HK0 := Lib.hid hk0
      have HKS := Lib.hid hk
      generalize hr : restN s n k = r at *
      have HRR := Lib.hid hr
      clear hr hk0
      go_wp2_with (at_builtin; refine wpList_append_own _ rfl _ _ 42 rfl w.heap.size 9 i0 (.string ⟨#[]⟩) 1 16 Tryz.underlying42 hi hz0 hzs hzb rfl (by decide) _ _ _ rfl (hown.alloc _) ⟨wr.heap.size, 0, none⟩ 1 1 [.string r] rfl rfl (cell_one_new _ _ _) (by simp [Value.oneCell']) (by simp only [maxLen]; omega) (by omega) (by simp; omega) ?_; intro v' w4 hown' hgrow _; obtain ⟨g', cap', rfl, _, _⟩ := own_form hown' (by omega))
      have hnx4 : Below w.heap.size w w4 := (hb.alloc hbz _).grown hgrow (by simp; omega) (fun q hq => (hown.lt q hq).1)
      go_wp2_with fail
      go_ret
      exact ⟨hnx4, k, _, rfl, HKS.out, by rw [HRR.out]; exact HR.out, by rw [HRR.out]; exact HK0.out, by rw [HRR.out]; exact HP.out _ _ hown'⟩

end Go.Proofs.YtljmdcegcckblaaGreatDoor
/- A region that draws its order, by a plan: reads taken first, and forks between two operations; behind a fork the condition on the world may be a stronger one. No program in sight. -/
namespace Go.Proofs.YtljmdcegcckblaaGreatDoor
open Go

section
variable {P : Program} {ops : Array Oper} {Q : Exit → Act → World → Prop} {S : World → Prop} {T : Nat}

theorem anyS_mono {S' : World → Prop} (hs : ∀ w, S' w → S w) : ∀ (f : Nat) (L : Array Bool) (a : Act) (w : World), anyS P ops Q S' T f L a w → anyS P ops Q S T f L a w
  | 0, _, _, _, h => h
  | f + 1, _, _, _, h => ⟨h.1, fun i hi => wpOp_mono (fun a' w' h' => ⟨fun k => hs _ (h'.1 k), anyS_mono hs f _ a' w' h'.2⟩) (h.2 i hi)⟩

inductive Pl where
  | mix (ms : List Ms)
  | take (k : Nat) (r : Pl)
  | fork (i j : Nat) (p q : Pl)
def plN : Pl → Nat
  | .mix ms => mixN ms
  | .take _ r => plN r + 1
  | .fork _ _ p _ => plN p + 1
def plB (ops : Array Oper) (T : Nat) : Pl → Array Bool → Bool
  | .mix ms, L => mixB ops T ms L
  | .take k r, L => decide (k < ops.size) && (Region.ready .any ops L).contains k && Region.free .any ops L k && ((List.range ops.size).all fun j => decide (j < T) || Region.waitsFor .any ops j k) && plB ops T r (L.setIfInBounds k true)
  | .fork i j p q, L => decide (i < T) && decide (j < T) && bare ops i && bare ops j && decide (Region.ready .any ops L = [i, j] ∨ Region.ready .any ops L = [j, i]) && decide (plN p = plN q) && plB ops T p (L.setIfInBounds i true) && plB ops T q (L.setIfInBounds j true)
inductive Po where
  | mix (ms : List Mi)
  | take (k : Nat) (o : Oper) (r : Po)
  | fork (i : Nat) (oi : Oper) (j : Nat) (oj : Oper) (p q : Po)
def Pl.fill (l : List Oper) (d : Oper) : Pl → Po
  | .mix ms => .mix (ms.map (Ms.fill l d))
  | .take k r => .take k (l.getD k d) (Pl.fill l d r)
  | .fork i j p q => .fork i (l.getD i d) j (l.getD j d) (Pl.fill l d p) (Pl.fill l d q)
def plT (P : Program) (ops : Array Oper) (Q : Exit → Act → World → Prop) (S : World → Prop) (T : Nat) : Po → Act → World → Prop
  | .mix ms, a, w => ∃ S' : World → Prop, (∀ w, S' w → S w) ∧ S' w ∧ mixT P ops Q S' T ms a w
  | .take _ o r, a, w => ∃ v, YieldsIf P ops S o v a ∧ plT P ops Q S T r (a.put o.dst v) w
  | .fork _ oi _ oj p q, a, w => oi.wp P a w (fun a' w' => S w' ∧ plT P ops Q S T p a' w') Q ∧ oj.wp P a w (fun a' w' => S w' ∧ plT P ops Q S T q a' w') Q

theorem anyT_plan {l : List Oper} {d : Oper} (hns : Region.noSelect l.toArray = true) (hQ : ∀ c a d v w, Q (.panic c) (Act.put a d v) w → Q (.panic c) a w) :
    ∀ (pl : Pl) (L : Array Bool) (a : Act) (w : World), S w → plB l.toArray T pl L = true → plT P l.toArray Q S T (pl.fill l d) a w → anyS P l.toArray Q S T (plN pl) L a w
  | .mix ms, L, a, w, _, hB, h => by
    obtain ⟨S', hs, h0, h⟩ := h
    exact anyS_mono hs _ _ _ _ (anyT_mix (S := S') hns hQ ms L a w (.inl h0) hB h)
  | .take k r, L, a, w, hS, hB, h => by
    simp only [plB, Bool.and_eq_true, List.all_eq_true, Bool.or_eq_true, decide_eq_true_eq, List.mem_range] at hB
    obtain ⟨⟨⟨⟨h0, h1⟩, h2⟩, h3⟩, h4⟩ := hB
    have h0 : l.toArray[k]? = some (l.getD k d) := by
      have h0 : k < l.length := by simpa using h0
      simp [List.getD_eq_getElem?_getD, h0]
    obtain ⟨v, hy, h⟩ := h
    refine anyT_take' h0 hns (fun j hj hjs => (h3 j hjs).resolve_left (by omega)) hQ _ L a w (Region.free_spec h0 h2) (by simpa using h1) hy hS ?_
    exact anyT_plan hns hQ r _ _ _ hS h4 h
  | .fork i j p q, L, a, w, hS, hB, h => by
    simp only [plB, Bool.and_eq_true, decide_eq_true_eq] at hB
    obtain ⟨⟨⟨⟨⟨⟨⟨hi, hj⟩, b1⟩, b2⟩, h1⟩, hn⟩, h2⟩, h3⟩ := hB
    obtain ⟨H1, H2⟩ := h
    have hmem : ∀ k, k ∈ Region.ready .any l.toArray L → k = i ∨ k = j := fun k hk => by
      rcases h1 with h1 | h1
      · rw [h1] at hk; simpa using hk
      · rw [h1] at hk; simpa [or_comm] using hk
    refine ⟨fun e => (by rcases h1 with h1 | h1 <;> (rw [h1] at e; cases e)), fun k hk => ?_⟩
    rcases hmem k hk with rfl | rfl
    · refine wpOp_bare (bare_get (d := d) b1) b1 (Oper.wp_mono ?_ H1)
      rintro a' w' ⟨s1, h'⟩
      exact ⟨fun _ => s1, anyT_plan hns hQ p _ a' w' s1 h2 h'⟩
    · refine wpOp_bare (bare_get (d := d) b2) b2 (Oper.wp_mono ?_ H2)
      rintro a' w' ⟨s1, h'⟩
      refine ⟨fun _ => s1, ?_⟩
      have := anyT_plan hns hQ q _ a' w' s1 h3 h'
      rwa [← hn] at this

/-- THE LAW. -/
theorem wp_region_plan {id : Nat} {a : Act} {w : World} {o : Oper} {l : List Oper} (pl : Pl) (T : Nat) (S : World → Prop) (hm : P.follows .mixedOrders = true)
    (hB : (Region.noSelect (o :: l).toArray && decide (plN pl = (o :: l).length) && plB (o :: l).toArray T pl (Array.replicate (o :: l).length false)) = true)
    (hQ1 : ∀ c a t v w, Q (.panic c) (Act.put a (some t) v) w → Q (.panic c) a w) (hS : S w.drew)
    (h : plT P (o :: l).toArray Q S T (pl.fill (o :: l) o) a w.drew) : (Code.region id (o :: l).toArray true).wp P Q a w := by
  have hQ : ∀ c a d v w, Q (.panic c) (Act.put a d v) w → Q (.panic c) a w := fun c a d v w h => by
    cases d with
    | none => exact h
    | some t => exact hQ1 c a t v w h
  simp only [Bool.and_eq_true, decide_eq_true_eq] at hB
  obtain ⟨⟨hns, hn⟩, hB⟩ := hB
  refine wp_region_any hm ?_
  have H := anyT_plan (P := P) (Q := Q) (S := S) (T := T) hns hQ pl (Array.replicate (o :: l).length false) a w.drew hS hB h
  rw [hn] at H
  have := any_of_anyS _ _ _ _ H
  simpa using this

theorem plT_take {k : Nat} {o : Oper} {r : Po} {a : Act} {w : World} (hw : Region.wanted o (yielded ops a.tmps) = true) (v : Value) (hy : ∀ w, S w → (execOp a.eval o).run P w = .ok (.value v) w)
    (h : plT P ops Q S T r (a.put o.dst v) w) : plT P ops Q S T (.take k o r) a w := ⟨v, .inl ⟨hw, hy⟩, h⟩
theorem plT_fork {oi oj : Oper} {i j : Nat} {p q : Po} {a : Act} {w : World}
    (h1 : ∀ K : Act → World → Prop, (∀ a' w', S w' → plT P ops Q S T p a' w' → K a' w') → oi.wp P a w K Q) (h2 : ∀ K : Act → World → Prop, (∀ a' w', S w' → plT P ops Q S T q a' w' → K a' w') → oj.wp P a w K Q) : plT P ops Q S T (.fork i oi j oj p q) a w :=
  ⟨h1 _ fun _ _ x y => ⟨x, y⟩, h2 _ fun _ _ x y => ⟨x, y⟩⟩
theorem plT_mix {ms : List Mi} {a : Act} {w : World} (S' : World → Prop) (hs : ∀ w, S' w → S w) (h0 : S' w) (h : mixT P ops Q S' T ms a w) : plT P ops Q S T (.mix ms) a w := ⟨S', hs, h0, h⟩
end
end Go.Proofs.YtljmdcegcckblaaGreatDoor
