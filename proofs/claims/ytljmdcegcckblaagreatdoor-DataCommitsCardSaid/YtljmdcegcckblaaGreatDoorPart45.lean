/- Parts of the proof, put together by program: N8, N9, NA, NB, NC. -/
import Derived.Test.YtljmdcegcckblaaGreatDoorPart44
import Derived.Test.YtljmdcegcckblaaGreatDoorPart06
/- The laws of layer 12: small functions of the acts. -/
namespace Go.Proofs.YtljmdcegcckblaaGreatDoor
open Go.RowKit Go.Maps

abbrev ansE (E : Int) : Array Value := #[.slice none 0 0, .slice none 0 0, .string ⟨#[]⟩, .int .i64 0, .int .i64 E]

set_option maxRecDepth 100000 in
set_option maxHeartbeats 2000000 in
theorem layout_any (j i : Int) (hj : 0 ≤ j ∧ j ≤ 255) (hi : 0 ≤ i ∧ i ≤ 255) (w : World) :
    Calls Tryz.prog 10 #[.int .u8 j, .int .u8 i] w fun e w' => e = .returned (.agg #[.int .i64 64, .int .i64 (8 + j % 21), .int .i64 (1 + i % 26)]) ∧ Below w.heap.size w w' := by
  have h1 : j.tmod 21 = j % 21 := Int.tmod_eq_emod_of_nonneg hj.1
  have h2 : i.tmod 26 = i % 26 := Int.tmod_eq_emod_of_nonneg hi.1
  have h3 : IntKind.u8.wrap (j % 21) = j % 21 := by rw [IntKind.wrap_u8]; omega
  have h4 : IntKind.u8.wrap (i % 26) = i % 26 := by rw [IntKind.wrap_u8]; omega
  have h5 : IntKind.i64.wrap (j % 21) = j % 21 := by rw [IntKind.wrap_i64]; omega
  have h6 : IntKind.i64.wrap (i % 26) = i % 26 := by rw [IntKind.wrap_i64]; omega
  have h7 : IntKind.i64.wrap (8 + j % 21) = 8 + j % 21 := by rw [IntKind.wrap_i64]; omega
  have h8 : IntKind.i64.wrap (1 + i % 26) = 1 + i % 26 := by rw [IntKind.wrap_i64]; omega
  go_enter Tryz.func10, Tryz.ntmps10
  go_wp2_with fail
  have bF := Blk.new w 32 #[.int .i64 64, .int .i64 (8 + j % 21), .int .i64 (1 + i % 26)]
  have cF := bF.cells
  have lF := bF.lt
  refine bodyPost_ret (v := .agg #[.int .i64 64, .int .i64 (8 + j % 21), .int .i64 (1 + i % 26)]) (by simp [results, Tryz.results10, go_sem, cF]) rfl ?_
  exact ⟨rfl, (Below.refl _ _).alloc (Nat.le_refl _) _⟩

set_option maxRecDepth 100000 in
set_option maxHeartbeats 2000000 in
theorem wrapped_any (n m : Int) (_hn : -9223372036854775808 ≤ n ∧ n ≤ 9223372036854775807) (hm : 1 ≤ m ∧ m ≤ 1000000) (w : World) :
    Calls Tryz.prog 25 #[.int .i64 n, .int .i64 m] w fun e w' => e = .returned (.int .i64 (n % m)) ∧ w' = w := by
  have h1 : ¬ m < 1 := by omega
  have h0 : m ≠ 0 := by omega
  have hlt : n.tmod m < m := Int.tmod_lt_of_pos _ (by omega)
  have hgt : -m < n.tmod m := by have := Int.lt_tmod_of_pos n (b := m) (by omega); omega
  have hw : IntKind.i64.wrap (n.tmod m) = n.tmod m := by rw [IntKind.wrap_i64]; omega
  have he : n.tmod m = n % m - ((if 0 ≤ n ∨ m ∣ n then 0 else m.natAbs : Nat) : Int) := Int.tmod_eq_emod
  have hem : 0 ≤ n % m ∧ n % m < m := ⟨Int.emod_nonneg _ h0, Int.emod_lt_of_pos _ (by omega)⟩
  by_cases hs : n.tmod m < 0
  · have hr : n.tmod m + m = n % m := by
      split at he
      · omega
      · rw [he]; omega
    have HR := Lib.hid hr
    have hw2 : IntKind.i64.wrap (n.tmod m + m) = n.tmod m + m := by rw [IntKind.wrap_i64]; omega
    clear he hr hem
    go_enter Tryz.func25, Tryz.ntmps25
    go_wp2_with fail
    go_ret
    exact ⟨by rw [← HR.out]; rfl, rfl⟩
  · have hr : n.tmod m = n % m := by
      split at he
      · omega
      · rw [he] at hs; omega
    have HR := Lib.hid hr
    clear he hr hem
    go_enter Tryz.func25, Tryz.ntmps25
    go_wp2_with fail
    go_ret
    exact ⟨by rw [← HR.out]; rfl, rfl⟩

/-! The parts of cut. -/
def pieceAt (s : ByteArray) (n k : Nat) : ByteArray := s.extract (n * k) (n * k + n)
def restN (s : ByteArray) (n k : Nat) : ByteArray := s.extract (n * k) s.size
def piecesL (s : ByteArray) (n k : Nat) : List ByteArray := (List.range k).map (pieceAt s n)
theorem restN_0 (s : ByteArray) (n : Nat) : restN s n 0 = s := by unfold restN; simp
theorem restN_size (s : ByteArray) (n k : Nat) : (restN s n k).size = s.size - n * k := by unfold restN; simp
theorem restN_head (s : ByteArray) (n k : Nat) (h : n * k + n ≤ s.size) : (restN s n k).extract 0 n = pieceAt s n k := by
  unfold restN pieceAt
  rw [ByteArray.extract_extract]
  congr 1; omega
theorem restN_tail (s : ByteArray) (n k z : Nat) (_h : n * k + n ≤ s.size) (hz : z = s.size - n * k) : (restN s n k).extract n z = restN s n (k + 1) := by
  unfold restN
  rw [ByteArray.extract_extract, Nat.mul_succ]
  congr 1; omega
theorem piecesL_succ (s : ByteArray) (n k : Nat) : piecesL s n (k + 1) = piecesL s n k ++ [pieceAt s n k] := by unfold piecesL; rw [List.range_succ, List.map_append]; rfl
theorem piecesL_length (s : ByteArray) (n k : Nat) : (piecesL s n k).length = k := by unfold piecesL; simp

/-- What cut hands back: pieces, and the rest, which is no longer than a piece. -/
def CutPost (s : ByteArray) (n : Nat) (w : World) (e : Ending) (w' : World) : Prop :=
  Below w.heap.size w w' ∧ ∃ k v, e = .returned v ∧ n * k ≤ s.size ∧ (restN s n k).size ≤ n ∧ (k = 0 ∨ 0 < (restN s n k).size) ∧ w'.ownsRow w.heap.size 9 1 v (k + 1) ((piecesL s n k ++ [restN s n k]).map .string)

set_option maxRecDepth 100000 in
set_option maxHeartbeats 2000000 in
theorem cut_any (s : ByteArray) (hs : s.size ≤ 1000) (n : Nat) (hn : 1 ≤ n ∧ n ≤ 1000) (w : World) :
    Calls Tryz.prog 36 #[.string s, .int .i64 n] w (CutPost s n w) := by
  obtain ⟨i0, hi, hz0, hzs, hzb⟩ := info_parts Tryz.infoStr
  unfold CutPost
  go_enter Tryz.func36, Tryz.ntmps36
  go_wp2_with fail
  go_loopw [0, 5] (fun q v wr => ∃ k : Nat, n * k ≤ s.size ∧ k ≤ s.size ∧ (k = 0 ∨ 0 < (restN s n k).size) ∧ q = .string (restN s n k) ∧ wr.ownsRow w.heap.size 9 1 v k ((piecesL s n k).map .string) ∧ Below w.heap.size w wr) (fun q _ _ => match q with | .string r => r.size | _ => 0)
  case atStart => exact ⟨0, by omega, by omega, .inl rfl, by rw [restN_0], World.ownsRow_nil _ _ _ _, Below.refl _ _⟩
  case round =>
    obtain ⟨k, hk, hks, hk0, rfl, hown, hb⟩ := hrel
    obtain ⟨av, cv, rfl⟩ := own_slice hown
    have hsz := restN_size s n k
    have hbz := hb.size
    by_cases hlt : n < (restN s n k).size
    · have hle : n * k + n ≤ s.size := by omega
      have HHd := Lib.hid (restN_head s n k hle)
      have HT := Lib.hid (restN_tail s n k (restN s n k).size hle hsz)
      have HSN := Lib.hid (piecesL_succ s n k)
      have HK : Hid (n * (k + 1) ≤ s.size ∧ k + 1 ≤ s.size ∧ 0 < (restN s n (k + 1)).size) := Lib.hid (by rw [restN_size, Nat.mul_succ]; have : k ≤ n * k := Nat.le_mul_of_pos_left _ (by omega); omega)
      clear hk0 hsz
      generalize restN s n k = r at *
      have hnr : n ≤ r.size := by omega
      go_wp2_with (at_builtin; refine wpList_append_own _ rfl _ _ 42 rfl w.heap.size 9 i0 (.string ⟨#[]⟩) 1 16 Tryz.underlying42 hi hz0 hzs hzb rfl (by decide) _ _ _ rfl (hown.alloc _) ⟨wr.heap.size, 0, none⟩ 1 1 [.string (r.extract 0 n)] rfl rfl (cell_one_new _ _ _) (by simp [Value.oneCell']) (by simp only [maxLen]; omega) (by omega) (by simp; omega) ?_; intro v' w4 hown' hgrow _; obtain ⟨g', cap', rfl, _, _⟩ := own_form hown' (by omega))
      have hnx4 : Below w.heap.size w w4 := (hb.alloc hbz _).grown hgrow (by simp; omega) (fun q hq => (hown.lt q hq).1)
      go_wp2_with fail
      go_roundw
      case rel => exact ⟨k + 1, HK.out.1, HK.out.2.1, .inr HK.out.2.2, by rw [HT.out], by rw [HSN.out, ← HHd.out]; simpa using hown', hnx4⟩
      case measure => simp; omega
    · have HR : Hid ((restN s n k).size ≤ n) := Lib.hid (by omega)
      have hk1 : k ≤ 1000 := by omega
      have HP : Hid (∀ (W : World) (v' : Value), W.ownsRow w.heap.size 9 1 v' (k + 1) ((piecesL s n k).map .string ++ [.string (restN s n k)]) → W.ownsRow w.heap.size 9 1 v' (k + 1) ((piecesL s n k ++ [restN s n k]).map .string)) := Lib.hid fun W v' h => by rw [List.map_append]; exact h
      clear hsz
      have HK0 := Lib.hid hk0
      have HKS := Lib.hid hk
      generalize hr : restN s n k = r at *
      have HRR := Lib.hid hr
      clear hr hk0
      go_wp2_with (at_builtin; refine wpList_append_own _ rfl _ _ 42 rfl w.heap.size 9 i0 (.string ⟨#[]⟩) 1 16 Tryz.underlying42 hi hz0 hzs hzb rfl (by decide) _ _ _ rfl (hown.alloc _) ⟨wr.heap.size, 0, none⟩ 1 1 [.string r] rfl rfl (cell_one_new _ _ _) (by simp [Value.oneCell']) (by simp only [maxLen]; omega) (by omega) (by simp; omega) ?_; intro v' w4 hown' hgrow _; obtain ⟨g', cap', rfl, _, _⟩ := own_form hown' (by omega))
      have hnx4 : Below w.heap.size w w4 := (hb.alloc hbz _).grown hgrow (by simp; omega) (fun q hq => (hown.lt q hq).1)
      go_wp2_with fail
      go_ret
      exact ⟨hnx4, k, _, rfl, HKS.out, by rw [HRR.out]; exact HR.out, by rw [HRR.out]; exact HK0.out, by rw [HRR.out]; exact HP.out _ _ hown'⟩

end Go.Proofs.YtljmdcegcckblaaGreatDoor
/- A region that draws its order, by a plan: reads taken first, and forks between two operations; behind a fork the condition on the world may be a stronger one. No program in sight. -/
namespace Go.Proofs.YtljmdcegcckblaaGreatDoor
open Go

section
variable {P : Program} {ops : Array Oper} {Q : Exit → Act → World → Prop} {S : World → Prop} {T : Nat}

inductive Pl where
  | mix (ms : List Ms)
  | take (k : Nat) (r : Pl)
  | fork (i j : Nat) (p q : Pl)
def plN : Pl → Nat
  | .mix ms => mixN ms
  | .take _ r => plN r + 1
  | .fork _ _ p _ => plN p + 1
def plB (ops : Array Oper) (T : Nat) : Pl → Array Bool → Bool
  | .mix ms, L => mixB ops T ms L
  | .take k r, L => decide (k < ops.size) && (Region.ready .any ops L).contains k && Region.free .any ops L k && ((List.range ops.size).all fun j => decide (j < T) || Region.waitsFor .any ops j k) && plB ops T r (L.setIfInBounds k true)
  | .fork i j p q, L => decide (i < T) && decide (j < T) && bare ops i && bare ops j && decide (Region.ready .any ops L = [i, j] ∨ Region.ready .any ops L = [j, i]) && decide (plN p = plN q) && plB ops T p (L.setIfInBounds i true) && plB ops T q (L.setIfInBounds j true)
inductive Po where
  | mix (ms : List Mi)
  | take (k : Nat) (o : Oper) (r : Po)
  | fork (i : Nat) (oi : Oper) (j : Nat) (oj : Oper) (p q : Po)
def Pl.fill (l : List Oper) (d : Oper) : Pl → Po
  | .mix ms => .mix (ms.map (Ms.fill l d))
  | .take k r => .take k (l.getD k d) (Pl.fill l d r)
  | .fork i j p q => .fork i (l.getD i d) j (l.getD j d) (Pl.fill l d p) (Pl.fill l d q)
def plT (P : Program) (ops : Array Oper) (Q : Exit → Act → World → Prop) (S : World → Prop) (T : Nat) : Po → Act → World → Prop
  | .mix ms, a, w => ∃ S' : World → Prop, (∀ w, S' w → S w) ∧ S' w ∧ mixT P ops Q S' T ms a w
  | .take _ o r, a, w => ∃ v, YieldsIf P ops S o v a ∧ plT P ops Q S T r (a.put o.dst v) w
  | .fork _ oi _ oj p q, a, w => oi.wp P a w (fun a' w' => S w' ∧ plT P ops Q S T p a' w') Q ∧ oj.wp P a w (fun a' w' => S w' ∧ plT P ops Q S T q a' w') Q

end
end Go.Proofs.YtljmdcegcckblaaGreatDoor
/- The laws of layer 12: of, for a call with raw numbers. -/
namespace Go.Proofs.YtljmdcegcckblaaGreatDoor
open Go.RowKit Go.Maps

abbrev actC (wh f kd off n size : Int) (lv : Value) (s : ByteArray) : Array Value := #[.int .u8 wh, .int .u8 f, .int .i64 kd, .int .i64 off, .int .i64 n, .int .i64 size, lv, .string s]
abbrev bookC (L0 L1 L2 : Value) (z0 z1 : Int) : Array Value := #[L0, L1, L2, .int .i64 z0, .int .i64 z1]
abbrev callC (wh kd size off n : Int) (lv : Value) (s : ByteArray) (pv : Value) : Array Value := #[.int .i64 wh, .int .i64 kd, .int .i64 size, .int .i64 off, .int .i64 n, lv, .string s, pv]
abbrev call0 : Array Value := #[.int .i64 0, .int .i64 0, .int .i64 0, .int .i64 0, .int .i64 0, .slice none 0 0, .string ⟨#[]⟩, .slice none 0 0]

def OfRaw (w : World) (kd off n size : Int) (lv : Value) (s : ByteArray) (e : Ending) (w' : World) : Prop :=
  Below w.heap.size w w' ∧ ∃ ci pv, (ci = 0 ∨ ci = 2 ∨ ci = 3 ∨ ci = 5 ∨ ci = 6) ∧ e = .returned (.agg (callC ci kd size off n lv s pv)) ∧ ∃ ps : List ByteArray, w'.ownsRow w.heap.size 9 1 pv ps.length (ps.map .string)

/-- A call with raw numbers. -/
def OfRaw7 (w : World) (kd off n size : Int) (lv : Value) (s : ByteArray) (e : Ending) (w' : World) : Prop :=
  Below w.heap.size w w' ∧ ∃ ci pv, (ci = 0 ∨ ci = 2 ∨ ci = 3 ∨ ci = 5 ∨ ci = 6) ∧ e = .returned (.agg (callC ci kd size off n lv s pv)) ∧ ∃ ps : List ByteArray, w'.ownsRow w.heap.size 9 1 pv ps.length (ps.map .string) ∧ ps.length ≤ 901 ∧ ∀ p ∈ ps, p.size ≤ 1000
end Go.Proofs.YtljmdcegcckblaaGreatDoor
/- The laws of layer 12: done, on a transaction that is none, or has ended. -/
namespace Go.Proofs.YtljmdcegcckblaaGreatDoor
open Go.RowKit Go.Maps

end Go.Proofs.YtljmdcegcckblaaGreatDoor
/- The laws of layer 12: far, of one act; done, of a raw call. -/
namespace Go.Proofs.YtljmdcegcckblaaGreatDoor
open Go.RowKit Go.Maps

end Go.Proofs.YtljmdcegcckblaaGreatDoor
