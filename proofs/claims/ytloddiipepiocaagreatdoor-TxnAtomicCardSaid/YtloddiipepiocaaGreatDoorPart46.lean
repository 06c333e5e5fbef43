/- Parts of the proof, put together by program: S1, UP, UJ. -/
import Derived.Test.YtloddiipepiocaaGreatDoorPart02
import Derived.BigQuiet
import Derived.Test.YtloddiipepiocaaGreatDoorPart45
import Derived.Test.YtloddiipepiocaaGreatDoorPart42
import Derived.Test.YtloddiipepiocaaGreatDoorPart06
import Derived.Test.YtloddiipepiocaaGreatDoorPart28
import Derived.Test.YtloddiipepiocaaGreatDoorPart44
import Derived.Test.YtloddiipepiocaaGreatDoorPart41
set_option linter.unusedVariables false
set_option linter.unusedSimpArgs false
/- Ints, Same, Sector, far, Example. -/
namespace Go.Proofs.YtloddiipepiocaaGreatDoor
open Go.RowKit

theorem bret {b b' : Bool} (h : b = b') : Ending.returned (.bool b) = .returned (.bool b') := by rw [h]


def LayEq (s j i s' j' i' : Int) : Bool := s == s' && j == j' && i == i'

set_option maxRecDepth 100000 in
set_option maxHeartbeats 2000000 in
theorem same_any (s j i s' j' i' : Int) (A B : Option Addr) (c d : Nat) (xs ys : List Bool) (w : World) (hx : Reads w A (xs.map .bool)) (hy : Reads w B (ys.map .bool)) (hn : xs.length ≤ maxLen) (hm : ys.length ≤ maxLen) :
    Calls Tryz.prog 79 #[.agg #[.int .i64 s, .int .i64 j, .int .i64 i, .slice A xs.length c], .agg #[.int .i64 s', .int .i64 j', .int .i64 i', .slice B ys.length d]] w fun e w' =>
      e = .returned (.bool (LayEq s j i s' j' i' && decide (xs = ys))) ∧ Below w.heap.size w w' := by
  unfold maxLen at hn hm
  by_cases h1 : s = s'
  rotate_left
  · have hf : LayEq s j i s' j' i' = false := by simp [LayEq, h1]
    go_enter Tryz.func79, Tryz.ntmps79
    go_wp2
    all_goals (go_ret; exact ⟨bret (by simp [LayEq, h1]), by (repeat' (first | (with_reducible exact Below.refl _ _) | (with_reducible assumption) | (with_reducible refine Below.alloc ?_ ?_ _) | (with_reducible refine Below.drew ?_) | (with_reducible refine below_drewN' ?_ _) | (with_reducible refine Below.setCell ?_ ?_ _) | (with_reducible exact Nat.le_refl _) | omega | (simp; done) | (simp; omega)))⟩)
  subst h1
  by_cases h2 : j = j'
  rotate_left
  · skip
    go_enter Tryz.func79, Tryz.ntmps79
    go_wp2
    all_goals (go_ret; exact ⟨bret (by simp [LayEq, h2]), by (repeat' (first | (with_reducible exact Below.refl _ _) | (with_reducible assumption) | (with_reducible refine Below.alloc ?_ ?_ _) | (with_reducible refine Below.drew ?_) | (with_reducible refine below_drewN' ?_ _) | (with_reducible refine Below.setCell ?_ ?_ _) | (with_reducible exact Nat.le_refl _) | omega | (simp; done) | (simp; omega)))⟩)
  subst h2
  by_cases h3 : i = i'
  rotate_left
  · skip
    go_enter Tryz.func79, Tryz.ntmps79
    go_wp2
    all_goals (go_ret; exact ⟨bret (by simp [LayEq, h3]), by (repeat' (first | (with_reducible exact Below.refl _ _) | (with_reducible assumption) | (with_reducible refine Below.alloc ?_ ?_ _) | (with_reducible refine Below.drew ?_) | (with_reducible refine below_drewN' ?_ _) | (with_reducible refine Below.setCell ?_ ?_ _) | (with_reducible exact Nat.le_refl _) | omega | (simp; done) | (simp; omega)))⟩)
  subst h3
  have hLE : LayEq s j i s j i = true := by simp [LayEq]
  have HLE := Lib.hid hLE
  clear hLE
  by_cases hl : xs.length = ys.length
  · have hd : ((xs.length : Int) != (ys.length : Int)) = false := by simp [hl]
    have HL := Lib.hid hl
    clear hl
    go_enter Tryz.func79, Tryz.ntmps79
    go_wp2
    obtain ⟨W1, hW1⟩ : ∃ W1, W1 = (w.alloc (.cells #[.int .i64 s, .int .i64 j, .int .i64 i, .slice A xs.length c] 53)).alloc (.cells #[.int .i64 s, .int .i64 j, .int .i64 i, .slice B ys.length d] 53) := ⟨_, rfl⟩
    rw [← hW1]
    have b0 : Blk W1 w.heap.size 53 #[.int .i64 s, .int .i64 j, .int .i64 i, .slice A xs.length c] := by rw [hW1]; exact (by (repeat' (first | (with_reducible assumption) | exact Blk.new' (by simp) | refine Blk.alloc ?_ _)))
    have b1 : Blk W1 (w.heap.size + 1) 53 #[.int .i64 s, .int .i64 j, .int .i64 i, .slice B ys.length d] := by rw [hW1]; exact (by (repeat' (first | (with_reducible assumption) | exact Blk.new' (by simp) | refine Blk.alloc ?_ _)))
    have hB1 : Below w.heap.size w W1 := by rw [hW1]; (repeat' (first | (with_reducible exact Below.refl _ _) | (with_reducible assumption) | (with_reducible refine Below.alloc ?_ ?_ _) | (with_reducible refine Below.drew ?_) | (with_reducible refine below_drewN' ?_ _) | (with_reducible refine Below.setCell ?_ ?_ _) | (with_reducible exact Nat.le_refl _) | omega | (simp; done) | (simp; omega)))
    have hs1 : W1.heap.size = w.heap.size + 2 := by rw [hW1]; simp
    clear hW1
    go_loopw [5] (fun q wr => ∃ k : Nat, k ≤ xs.length ∧ q = .int .i64 k ∧ xs.take k = ys.take k ∧ Below W1.heap.size W1 wr) (fun q _ => xs.length - (RowKit.intOf q).toNat)
    case atStart => exact ⟨0, Nat.zero_le _, rfl, rfl, Below.refl _ _⟩
    case round =>
      obtain ⟨k, hk, rfl, heq, hnx⟩ := hrel
      have HEQ := Lib.hid heq
      clear heq
      have hBw : Below w.heap.size w wr := hB1.trans (hnx.mono (by omega))
      have c0 := (b0.belowAll hnx).cells
      have c1 := (b1.belowAll hnx).cells
      by_cases hlt : k < xs.length
      · have hlt2 : k < ys.length := by rw [← HL.out]; exact hlt
        obtain ⟨b, off, rfl, hb, hc⟩ := (hx.below hBw).at_ (k := k) (by simpa using hlt)
        obtain ⟨b2, off2, rfl, hb2, hc2⟩ := (hy.below hBw).at_ (k := k) (by simpa using hlt2)
        rw [List.getElem_map] at hc hc2
        have hs1 := Lib.hid (List.take_succ_eq_append_getElem hlt)
        have hs2 := Lib.hid (List.take_succ_eq_append_getElem hlt2)
        have hne : xs[k] ≠ ys[k] → xs ≠ ys := fun h e => by subst e; exact h rfl
        have HNE := Lib.hid hne
        clear hne
        generalize xs[k] = x at hc hs1 HNE
        generalize ys[k] = y at hc2 hs2 HNE
        by_cases hxy : x = y
        · subst hxy
          clear HNE
          cases x
          all_goals
            go_wp2
            go_quiet (fail)
            go_wp2
            go_roundw
            case rel => exact ⟨k + 1, by omega, by go_num, by rw [hs1.out, hs2.out, HEQ.out], by (repeat' (first | (with_reducible exact Below.refl _ _) | (with_reducible assumption) | (with_reducible refine Below.alloc ?_ ?_ _) | (with_reducible refine Below.drew ?_) | (with_reducible refine below_drewN' ?_ _) | (with_reducible refine Below.setCell ?_ ?_ _) | (with_reducible exact Nat.le_refl _) | omega | (simp; done) | (simp; omega)))⟩
            case measure => simp [RowKit.intOf]; omega
        · have HN := Lib.hid (HNE.out hxy)
          cases x <;> cases y <;> first | exact absurd rfl hxy | skip
          all_goals
            clear hxy HNE
            go_wp2
            go_quiet (fail)
            go_wp2
            go_ret
            exact ⟨bret (by simp [HN.out]), by (repeat' (first | (with_reducible exact Below.refl _ _) | (with_reducible assumption) | (with_reducible refine Below.alloc ?_ ?_ _) | (with_reducible refine Below.drew ?_) | (with_reducible refine below_drewN' ?_ _) | (with_reducible refine Below.setCell ?_ ?_ _) | (with_reducible exact Nat.le_refl _) | omega | (simp; done) | (simp; omega)))⟩
      · obtain rfl : k = xs.length := by omega
        have hfin : xs = ys := by
          have := HEQ.out
          rwa [List.take_length, HL.out, List.take_length] at this
        have HF := Lib.hid hfin
        clear hfin
        go_wp2
        go_ret
        exact ⟨bret (by rw [HLE.out]; simp [HF.out]), hBw⟩
  · have hd : ((xs.length : Int) != (ys.length : Int)) = true := by simp; omega
    have HNE := Lib.hid (show xs ≠ ys from fun e => hl (by rw [e]))
    clear hl
    go_enter Tryz.func79, Tryz.ntmps79
    go_wp2
    go_ret
    exact ⟨bret (by simp [HNE.out]), by (repeat' (first | (with_reducible exact Below.refl _ _) | (with_reducible assumption) | (with_reducible refine Below.alloc ?_ ?_ _) | (with_reducible refine Below.drew ?_) | (with_reducible refine below_drewN' ?_ _) | (with_reducible refine Below.setCell ?_ ?_ _) | (with_reducible exact Nat.le_refl _) | omega | (simp; done) | (simp; omega)))⟩

end Go.Proofs.YtloddiipepiocaaGreatDoor
/- P10.9: what a transaction reads, as the law's view: seen, same. -/
namespace Go.Proofs.YtloddiipepiocaaGreatDoor
open Go.RowKit Go.Maps

/-- A view's cells. -/
def viewL (s j i : Int) (A : Option Addr) (n c : Nat) (ks : List Int) (ds : List ByteArray) : List Value := [.int .i64 s, .int .i64 j, .int .i64 i, .slice A n c] ++ (ks.map (.int .i64) ++ ds.map .string)
def viewA (s j i : Int) (A : Option Addr) (n c : Nat) (ks : List Int) (ds : List ByteArray) : Array Value := (viewL s j i A n c ks ds).toArray
def ks0 : List Int := List.replicate 64 0
def ds0 : List ByteArray := List.replicate 64 ⟨#[]⟩
def view0 : Array Value := viewA 0 0 0 none 0 0 ks0 ds0
section
variable {s j i : Int} {A : Option Addr} {n c : Nat} {ks : List Int} {ds : List ByteArray}
theorem viewA_size (hk : ks.length = 64) (hd : ds.length = 64) : (viewA s j i A n c ks ds).size = 132 := by
  unfold viewA viewL
  simp [hk, hd]
theorem viewA_one : (viewA s j i A n c ks ds).all (·.oneCell') = true := by
  rw [Array.all_eq_true']
  intro v hv
  unfold viewA viewL at hv
  simp only [List.mem_toArray, List.mem_append, List.mem_cons, List.mem_nil_iff, or_false, List.mem_map] at hv
  rcases hv with (rfl | rfl | rfl | rfl) | ⟨a, -, rfl⟩ | ⟨a, -, rfl⟩ <;> rfl
theorem viewA_k (hk : ks.length = 64) (k : Nat) (h : k < 64) : (viewA s j i A n c ks ds)[4 + k]? = some (.int .i64 (ks.getD k 0)) := by
  unfold viewA viewL
  rw [List.getElem?_toArray, List.getElem?_append_right (by simp), List.getElem?_append_left (by simp [hk]; omega)]
  simp [hk, h, List.getD_eq_getElem?_getD]
theorem viewA_d (hk : ks.length = 64) (hd : ds.length = 64) (k : Nat) (h : k < 64) : (viewA s j i A n c ks ds)[68 + k]? = some (.string (ds.getD k ⟨#[]⟩)) := by
  unfold viewA viewL
  rw [List.getElem?_toArray, List.getElem?_append_right (by simp; omega), List.getElem?_append_right (by simp [hk]; omega)]
  simp [hk, hd, h, List.getD_eq_getElem?_getD, show 68 + k - 4 - 64 = k by omega]
theorem viewA_setK (hk : ks.length = 64) (k : Nat) (h : k < 64) (v : Int) : (viewA s j i A n c ks ds).setIfInBounds (4 + k) (.int .i64 v) = viewA s j i A n c (ks.set k v) ds := by
  unfold viewA viewL
  rw [List.setIfInBounds_toArray, List.set_append_right _ _ (by simp), List.set_append_left _ _ (by simp [hk]; omega), List.map_set]
  simp
theorem viewA_setD (hk : ks.length = 64) (k : Nat) (v : ByteArray) : (viewA s j i A n c ks ds).setIfInBounds (68 + k) (.string v) = viewA s j i A n c ks (ds.set k v) := by
  unfold viewA viewL
  rw [List.setIfInBounds_toArray, List.set_append_right _ _ (by simp; omega), List.set_append_right _ _ (by simp [hk]; omega), List.map_set]
  simp [hk, show 68 + k - 4 - 64 = k by omega]
end
theorem zeroView (w : World) : (zeroValue 92).run Tryz.prog w = .ok (.agg view0) w := by kernel_rfl
theorem sizeView (w : World) : (sizeOf 92).run Tryz.prog w = .ok 132 w := by kernel_rfl
theorem infoView : (Tryz.prog.info? 92).map (·.size) = some 132 := by kernel_rfl
theorem Tryz.builtView (s j i : Int) (A : Option Addr) (n c : Nat) : Tryz.prog.built 92 [(0, .agg #[.int .i64 s, .int .i64 j, .int .i64 i, .slice A n c])] = some (viewA s j i A n c ks0 ds0) := by kernel_rfl
theorem size64i (w : World) : (sizeOf 89).run Tryz.prog w = .ok 64 w := by kernel_rfl
theorem agg64i (w : World) : (isAgg 89).run Tryz.prog w = .ok true w := by kernel_rfl
theorem size64s (w : World) : (sizeOf 90).run Tryz.prog w = .ok 64 w := by kernel_rfl
theorem agg64s (w : World) : (isAgg 90).run Tryz.prog w = .ok true w := by kernel_rfl

/-! Arrays that are equal. -/
def intsA (l : List Int) : Array Value := (l.map (.int .i64)).toArray
def strsA (l : List ByteArray) : Array Value := (l.map .string).toArray
theorem eqItems_all {P : Program} {d : Nat} {e : TypeId} {xs ys : Array Value} {f : Nat → Bool} {w : World} : ∀ is : List Nat, (∀ k ∈ is, ∃ u v, (part e xs k).run P w = .ok u w ∧ (part e ys k).run P w = .ok v w ∧ (Op.equalIn d e u v).run P w = .ok (f k) w) →
    (Op.eqItems d e 1 xs ys is).run P w = .ok (is.all f) w
  | [], _ => by simp [Op.eqItems]
  | k :: is, h => by
    obtain ⟨u, v, h1, h2, h3⟩ := h k (by simp)
    have ih := eqItems_all is (fun j hj => h j (by simp [hj]))
    simp only [Op.eqItems, Nat.mul_one, Sem.run_bind, h1, h2, Result.andThen_ok, h3, List.all_cons]
    cases hq : f k
    · simp
    · simpa using ih
theorem isAggInt (w : World) : (isAgg 3).run Tryz.prog w = .ok false w := by kernel_rfl
theorem isAggStr (w : World) : (isAgg 9).run Tryz.prog w = .ok false w := by kernel_rfl
theorem eqInts64 (xs ys : List Int) (hx : xs.length = 64) (hy : ys.length = 64) (w : World) :
    (binOp .eql 89 (.agg (intsA xs)) (.agg (intsA ys))).run Tryz.prog w = .ok (.bool (decide (xs = ys))) w := by
  obtain ⟨i, hi, -⟩ := info_parts Tryz.info3
  have hc : Tryz.prog.cellsOf 3 = 1 := by kernel_rfl
  rw [run_eql_struct, run_equalIn_array w 9999 (intsA xs) (intsA ys) Tryz.underlying89 hi, hc, eqItems_all (f := fun k => xs.getD k 0 == ys.getD k 0) (List.range 64) (fun k hk => ?_)]
  · rw [← hx, all_range_eq (by omega)]
    rfl
  · have h := List.mem_range.1 hk
    have p : ∀ l : List Int, l.length = 64 → (part 3 (intsA l) k).run Tryz.prog w = .ok (.int .i64 (l.getD k 0)) w := fun l hl => by
      have e : (intsA l)[k]? = some (.int .i64 (l.getD k 0)) := by
        unfold intsA
        rw [List.getElem?_toArray, List.getElem?_map, List.getD_eq_getElem?_getD, List.getElem?_eq_getElem (by omega)]
        rfl
      unfold part
      simp [e]
    exact ⟨_, _, p xs hx, p ys hy, run_equalIn_int w 9998 3 .i64 .i64 _ _ Tryz.underlying3⟩
def strsB (xs ys : List ByteArray) : Bool := (List.range 64).all fun k => (xs.getD k ⟨#[]⟩).toList == (ys.getD k ⟨#[]⟩).toList
theorem strsB_self (xs : List ByteArray) : strsB xs xs = true := by unfold strsB; simp
theorem eqStrs64 (xs ys : List ByteArray) (hx : xs.length = 64) (hy : ys.length = 64) (w : World) :
    (binOp .eql 90 (.agg (strsA xs)) (.agg (strsA ys))).run Tryz.prog w = .ok (.bool (strsB xs ys)) w := by
  have hs : ∃ i, Tryz.prog.info? 9 = some i := by
    cases h : Tryz.prog.info? 9 with
    | none => have h2 : (Tryz.prog.info? 9).isSome = true := by kernel_rfl
              rw [h] at h2; cases h2
    | some i => exact ⟨i, rfl⟩
  obtain ⟨i, hi⟩ := hs
  have hc : Tryz.prog.cellsOf 9 = 1 := by kernel_rfl
  rw [run_eql_struct, run_equalIn_array w 9999 (strsA xs) (strsA ys) Tryz.underlying90 hi, hc, eqItems_all (f := fun k => (xs.getD k ⟨#[]⟩).toList == (ys.getD k ⟨#[]⟩).toList) (List.range 64) (fun k hk => ?_)]
  · rfl
  · have h := List.mem_range.1 hk
    have p : ∀ l : List ByteArray, l.length = 64 → (part 9 (strsA l) k).run Tryz.prog w = .ok (.string (l.getD k ⟨#[]⟩)) w := fun l hl => by
      have e : (strsA l)[k]? = some (.string (l.getD k ⟨#[]⟩)) := by
        unfold strsA
        rw [List.getElem?_toArray, List.getElem?_map, List.getD_eq_getElem?_getD, List.getElem?_eq_getElem (by omega)]
        rfl
      unfold part
      simp [e, isAggStr]
    exact ⟨_, _, p xs hx, p ys hy, run_equalIn_string w 9998 9 _ _ Tryz.underlying9⟩
end Go.Proofs.YtloddiipepiocaaGreatDoor
/- P10.9 in plain words: what is on a device behind Commit under any power, a crash, Replay under any power, a crash and Replay. No program in sight. -/
namespace Go.Proofs.YtloddiipepiocaaGreatDoor
open Go.RowKit Go.Maps

theorem limit_ok {x : DevS} (ok : x.Ok) {n : Int} (hn : -1 ≤ n ∧ n ≤ 1000000000000) : (x.limit n).Ok := ⟨ok.lo, ok.hi, ok.sec, ok.cac, ok.len, ok.tk, hn⟩
theorem Calm.limit {z : DevS} {n : Nat} (h : Calm z n) {p : Int} (hp : -1 ≤ p ∧ p ≤ 1000000000000) : Calm (z.limit p) n := ⟨limit_ok h.ok hp, h.cache, h.on, h.size⟩
theorem calm_crashed {z : DevS} {n : Nat} (ok : z.Ok) (hs : z.stable.length = n) {keep : List Nat} (hk : KeepOk z keep) : Calm (z.crashed keep) n := ⟨crashed_ok ok hk, rfl, rfl, (crashed_size _ _).trans hs⟩
theorem limit_sameFr (z : DevS) (p b : Int) : sameFr z (z.limit p) b := same_fr rfl rfl rfl
theorem HeadAt.body_rest {x : DevS} {F Z q : Int} (h : Rest x F Z q) : Body x F Z q := h.old

/-- What comes behind Commit. -/
def After (z : DevS) (p : Int) (N : Nat) (Fin : DevS → Prop) : Prop :=
  ∀ k1, KeepOk z k1 → ((((z.crashed k1).limit p).replay 1 8).2.1 = 0 ∨ (((z.crashed k1).limit p).replay 1 8).2.1 = 13) ∧ ∀ k2, KeepOk (((z.crashed k1).limit p).replay 1 8).2.2 k2 →
    (((((z.crashed k1).limit p).replay 1 8).2.2.crashed k2).replay 1 8).2.1 = 0 ∧ (((((z.crashed k1).limit p).replay 1 8).2.2.crashed k2).replay 1 8).2.2.Runs N ∧ (((((z.crashed k1).limit p).replay 1 8).2.2.crashed k2).replay 1 8).2.2.stable.length = 64 ∧ Fin (((((z.crashed k1).limit p).replay 1 8).2.2.crashed k2).replay 1 8).2.2
theorem ck18 : checkE 1 8 = 0 := by decide
theorem after_old {z : DevS} {p r : Int} {N : Nat} {Fin : DevS → Prop} (hz : Calm z 64) (ht : z.taken + N ≤ 1000000000000) (hh : HeadAt z 1 r) (hb : Body z 1 8 r) (hr : 0 ≤ r ∧ r < 4294967290) (hp : -1 ≤ p ∧ p ≤ 1000000000000)
    (hF : ∀ u : DevS, u.stable.length = 64 → HeadAt u 1 r → (∀ b : Int, sameFr z u b) → Fin u) : After z p N Fin := by
  intro k1 hk1
  have s1 := crashed_none hz.cache hz.on hk1
  have c1 := calm_crashed hz.ok hz.size hk1
  have c2 := c1.limit hp
  have s2 : ∀ b : Int, sameFr z ((z.crashed k1).limit p) b := fun b => (s1 b).trans (limit_sameFr _ _ _)
  have e2 := replay_old ck18 (by rw [c2.size]; omega) (hh.same (s2 1)) (hb.same fun b _ _ => s2 b) hr
  rw [e2]
  refine ⟨.inl rfl, fun k2 hk2 => ?_⟩
  have s3 : ∀ b : Int, sameFr z (((z.crashed k1).limit p).crashed k2) b := fun b => (s2 b).trans (crashed_none c2.cache c2.on hk2 b)
  have c3 := calm_crashed c2.ok c2.size hk2
  have e4 := replay_old ck18 (by rw [c3.size]; omega) (hh.same (s3 1)) (hb.same fun b _ _ => s3 b) hr
  rw [e4]
  exact ⟨rfl, ⟨c3.ok, rfl, rfl, by show z.taken + _ ≤ _; exact ht⟩, c3.size, hF _ c3.size (hh.same (s3 1)) s3⟩
theorem after_inv {x z : DevS} {p q : Int} {l : List Rec} {N : Nat} {Fin : DevS → Prop} (j : Jn 64 1 8 q l) (hx : x.stable.length = 64) (ok : z.Ok) (hs : z.stable.length = 64) (ht : z.taken + (2 * (l.length + 1) + N : Nat) ≤ 1000000000000) (hp : -1 ≤ p ∧ p ≤ 1000000000000)
    (hI : ∀ k, KeepOk z k → Inv x (z.crashed k) 1 8 q l) (hF : ∀ u : DevS, u.stable.length = 64 → (InvA x u 1 8 q l ∨ InvD x u 1 8 q ∨ InvE x u 1 8 q l) → Fin u) : After z p N Fin := by
  intro k1 hk1
  have c1 := calm_crashed ok hs hk1
  have c2 := c1.limit hp
  have i2 : Inv x ((z.crashed k1).limit p) 1 8 q l := inv_same j hx (hI k1 hk1) rfl (fun b _ _ => limit_sameFr _ _ _)
  obtain ⟨d1, d2, d3, d4, -⟩ := step_replay j hx c2 i2
  have ht2 : ((z.crashed k1).limit p).taken = z.taken := rfl
  generalize (z.crashed k1).limit p = z2 at *
  obtain ⟨m3, e3, z3, hz3⟩ : ∃ m3 e3 z3, z2.replay 1 8 = (m3, e3, z3) := ⟨_, _, _, rfl⟩
  rw [hz3] at d1 d2 d3 d4 ⊢
  simp only at d1 d2 d3 d4 ⊢
  refine ⟨d4.imp (fun h => h.1) (fun h => h.1), fun k2 hk2 => ?_⟩
  have c4 := calm_crashed d1 d3 hk2
  have i4 : Inv x (z3.crashed k2) 1 8 q l := by
    rcases d4 with ⟨-, cc, h⟩ | ⟨-, h⟩
    · refine inv_same j hx (z := z3) ?_ (crashed_size _ _) (fun b _ _ => crashed_none cc.cache cc.on hk2 b)
      rcases h with h | h | h
      · exact .inl h
      · exact .inr (.inr (.inl h))
      · exact .inr (.inr (.inr h))
    · exact h k2 hk2
  obtain ⟨f1, f2, f3, f4, f5⟩ := step_replay j hx c4 i4
  have hr : (z3.crashed k2).Runs (N + (l.length + 1)) := ⟨c4.ok, rfl, rfl, by show z3.taken + _ ≤ _; omega⟩
  obtain ⟨g1, g2⟩ := f5 N hr
  refine ⟨g1, g2, f3, ?_⟩
  rcases f4 with ⟨-, -, h⟩ | ⟨h, -⟩
  · exact hF _ f3 h
  · rw [g1] at h; exact absurd h (by decide)

/-- A device at rest, with a layout. -/
structure LiveR (x : DevS) (us : List Bool) (q : Int) (N : Nat) : Prop where
  live : Live x 64 8 40 us N
  rest : Rest x 1 8 q
theorem Rest.limit {x : DevS} {F Z q : Int} (h : Rest x F Z q) {p : Int} (hp : -1 ≤ p ∧ p ≤ 1000000000000) : Rest (x.limit p) F Z q :=
  ⟨limit_ok h.ok hp, h.cache, h.on, h.head.same (limit_sameFr _ _ _), h.num, fun b h1 h2 => by
    have s := limit_sameFr x p b
    rw [s.1, s.2]
    exact h.old b h1 h2⟩
/-- What there is in the end: all as it was, or as the transaction leaves it. -/
def Fin64 (x : DevS) (q : Int) (l : List Rec) (E : Int) (u : DevS) : Prop := (∃ r, HeadAt u 1 r) ∧ ((E ≠ 0 ∧ Out0 x u 1 8) ∨ Full x u 1 8 q l)

section
variable {x : DevS} {y : TxS} {us : List Bool} {q : Int} {N : Nat}
theorem jn_recs (ok : y.Ok) (hc : y.Clean) (hs : y.s = 64) (hj : y.j = 8) (hq : 0 ≤ q ∧ q < 4294967000) : Jn 64 1 8 q y.recs ∧ validE ((64 : Nat) : Int) 1 8 y.recs = 0 ∧ y.recs.length ≤ 6 := by
  have hv := recs_valid ok hc
  rw [hs, hj] at hv
  have hv' : validE ((64 : Nat) : Int) 1 8 y.recs = 0 := hv
  have hl := (validL hv').len
  refine ⟨⟨ck18, by decide, by omega, validL hv', hq⟩, hv', ?_⟩
  have : mostN 8 = 6 := by decide
  omega
theorem commit_after (hx : LiveR x us q (N + 1000)) (hq : 0 ≤ q ∧ q < 4294967000) (ok : y.Ok) (hc : y.Clean) (hs : y.s = 64) (hj : y.j = 8) {p1 p2 : Int} (hp1 : -1 ≤ p1 ∧ p1 ≤ 1000000000000) (hp2 : -1 ≤ p2 ∧ p2 ≤ 1000000000000) :
    ((y.commit (x.limit p1)).1 = 0 ∨ (y.commit (x.limit p1)).1 = 13) ∧ After (y.commit (x.limit p1)).2 p2 N (Fin64 (x.limit p1) q y.recs (y.commit (x.limit p1)).1) := by
  have hsz : (x.limit p1).stable.length = 64 := by have := hx.live.size; show x.stable.length = 64; omega
  have htk := hx.live.runs.tk
  have hr := hx.rest.limit hp1
  have hcalm : Calm (x.limit p1) 64 := ⟨hr.ok, hr.cache, hr.on, hsz⟩
  obtain ⟨j, hv0, hl6⟩ := jn_recs ok hc hs hj hq
  by_cases h0 : y.recs = []
  · have e : y.commit (x.limit p1) = (0, x.limit p1) := by unfold TxS.commit; rw [if_pos h0]
    rw [e, h0]
    refine ⟨.inl rfl, after_old hcalm (by show x.taken + _ ≤ _; omega) hr.head hr.old (by omega) hp2 fun u h1 h2 h3 => ⟨⟨_, h2⟩, .inr ⟨h1.trans hsz.symm, fun b _ _ => h3 b, fun r hr => (by cases hr)⟩⟩⟩
  · have e : y.commit (x.limit p1) = (x.limit p1).commit 1 8 y.recs := by unfold TxS.commit; rw [if_neg h0, hj]
    rw [e]
    obtain ⟨c1, c2, c3, c4, -⟩ := step_commit j hsz hv0 hr
    have htk2 : (x.limit p1).taken = x.taken := rfl
    generalize x.limit p1 = xl at *
    obtain ⟨E, z, hz⟩ : ∃ E z, xl.commit 1 8 y.recs = (E, z) := ⟨_, _, rfl⟩
    rw [hz] at c1 c2 c3 c4 ⊢
    simp only at c1 c2 c3 c4 ⊢
    rcases c4 with ⟨rfl, cc, h⟩ | ⟨rfl, h⟩
    · refine ⟨.inl rfl, after_old cc (by omega) h.head h.body (by omega) hp2 fun u h1 h2 h3 => ⟨⟨_, h2⟩, .inr ?_⟩⟩
      exact h.full.trans (h1.trans cc.size.symm) (by rw [hsz]; exact j.out) (fun b _ => h3 b)
    · refine ⟨.inr rfl, after_inv j hsz c1 c3 (by omega) hp2 h fun u h1 h2 => ?_⟩
      rcases h2 with h2 | h2 | h2
      · exact ⟨⟨_, h2.mix.head⟩, .inl ⟨by decide, h2.out⟩⟩
      · exact ⟨⟨_, h2.head⟩, .inl ⟨by decide, h2.out⟩⟩
      · exact ⟨⟨_, h2.head⟩, .inr h2.full⟩
/-- A transaction that is broken leaves all as it was. -/
theorem broken_after (hx : LiveR x us q (N + 1000)) (hq : 0 ≤ q ∧ q < 4294967000) (l : List Rec) {p1 p2 : Int} (hp1 : -1 ≤ p1 ∧ p1 ≤ 1000000000000) (hp2 : -1 ≤ p2 ∧ p2 ≤ 1000000000000) : After (x.limit p1) p2 N (Fin64 (x.limit p1) q l 9) := by
  have hsz : (x.limit p1).stable.length = 64 := by have := hx.live.size; show x.stable.length = 64; omega
  have htk := hx.live.runs.tk
  have hr := hx.rest.limit hp1
  have hcalm : Calm (x.limit p1) 64 := ⟨hr.ok, hr.cache, hr.on, hsz⟩
  exact after_old hcalm (by show x.taken + _ ≤ _; omega) hr.head hr.old (by omega) hp2 fun u h1 h2 h3 => ⟨⟨_, h2⟩, .inl ⟨by decide, fun b _ => h3 b⟩⟩

/-- Two transactions read alike. -/
def Alike (y : TxS) (x : DevS) (z : TxS) (u : DevS) : Prop := y.now = z.now ∧ ∀ i : Nat, i < 64 → (i = 0 ∨ 8 < i) → (y.read x i).1 = (z.read u i).1 ∧ (y.read x i).2.1 = (z.read u i).2.1
theorem beg_read (us : List Bool) (u : DevS) {i : Nat} (hi : i < 64) : (begTx 64 8 40 us).read u i = ((u.fr i).kind, (u.fr i).data, u.ge i) := by
  unfold TxS.read
  rw [if_neg (by show ¬ ((if false || false then (9 : Int) else 0) ≠ 0); simp), if_neg (by show ¬ ((i : Int) < 0 ∨ (64 : Int) ≤ i); omega)]
  unfold TxS.readR
  have : (begTx 64 8 40 us).look i = none := by
    unfold TxS.look
    rw [if_neg (by intro h; exact absurd h.2 (by show ¬ (false = true); decide))]
    rfl
  rw [this]
theorem fin_live {u : DevS} {E p1 : Int} (hx : Live x 64 8 40 us (N + 1000)) (ok : y.Ok) (hc : y.Clean) (hs : y.s = 64) (hj : y.j = 8) (hi : y.i = 40) (hE : y.stateE = 0) (hn : y.changed = false → y.now = us) (hr : u.Runs N) (hu : u.stable.length = 64) (h : Fin64 (x.limit p1) q y.recs E u) :
    (E ≠ 0 ∧ Live u 64 8 40 us N ∧ Alike (begTx 64 8 40 us) u (begTx 64 8 40 us) x) ∨ (Live u 64 8 40 y.now N ∧ Alike (begTx 64 8 40 y.now) u y x) := by
  obtain ⟨hh, h⟩ := h
  have hsz : (x.limit p1).stable.length = 64 := by have := hx.size; show x.stable.length = 64; omega
  have hsx : x.stable.length = 64 := hsz
  have h9 : OutJ 1 8 (x.limit p1).stable.length 9 := by rw [hsz]; exact ⟨by decide, by decide, by decide⟩
  rcases h with ⟨h0, h⟩ | h
  · have hs9 : ∀ b : Int, OutJ 1 8 64 b → sameFr x u b := fun b hb => (limit_sameFr x p1 b).trans (h b (by rw [hsz]; exact hb))
    have h99 := hs9 9 ⟨by decide, by decide, by decide⟩
    obtain ⟨g1, q1, f1⟩ := hx.map_
    refine .inl ⟨h0, ⟨hr, by rw [hu]; rfl, hh, ⟨h99.1.trans g1, q1, h99.2.trans f1⟩, hx.len⟩, rfl, fun i hi hi2 => ?_⟩
    rw [beg_read us u hi, beg_read us x hi]
    have := hs9 i ⟨by omega, by omega, by omega⟩
    rw [this.1, this.2]
    exact ⟨rfl, rfl⟩
  · have hmem : ∀ r ∈ y.writes, r ∈ y.recs := fun r hr => (recs_perm hc).mem_iff.2 (List.mem_append_left _ hr)
    have hfar : ∀ b : Int, OutJ 1 8 64 b → b ∉ y.recs.map (·.at_) → sameFr x u b := fun b hb hm => (limit_sameFr x p1 b).trans (h.far b (by rw [hsz]; exact hb) hm)
    have hmap : u.ge 9 = 0 ∧ ∃ q, u.fr 9 = ⟨5, q, mapS y.now⟩ := by
      cases hch : y.changed
      · have hnr : (9 : Int) ∉ y.recs.map (·.at_) := fun hm => by
          obtain ⟨r, hr, he⟩ := List.mem_map.1 hm
          unfold TxS.recs at hr
          rw [hch] at hr
          have := hc.out r (by simpa using hr)
          omega
        have hs9 := hfar 9 ⟨by decide, by decide, by decide⟩ hnr
        obtain ⟨g1, q1, f1⟩ := hx.map_
        exact ⟨hs9.1.trans g1, q1, by rw [hs9.2, hn hch]; exact f1⟩
      · have hm : y.bmap ∈ y.recs := (recs_perm hc).mem_iff.2 (List.mem_append_right _ (by rw [hch]; simp))
        have h8 := h.new _ hm
        have e : y.bmap.at_ = 9 := by show 1 + y.j = 9; omega
        rw [e] at h8
        exact ⟨h8.1, _, h8.2⟩
    refine .inr ⟨⟨hr, by rw [hu]; rfl, hh, hmap, by have := ok.now; rw [hs, hj, hi] at this; exact this⟩, rfl, fun i hi hi2 => ?_⟩
    rw [beg_read y.now u hi]
    unfold TxS.read
    rw [if_neg (by rw [hE]; simp), if_neg (by omega)]
    unfold TxS.readR
    cases hl : y.look i with
    | some r =>
      simp only
      have hin : r ∈ y.recs ∧ r.at_ = i := by
        unfold TxS.look at hl
        split at hl
        · rename_i hc2
          simp only [Option.some.injEq] at hl
          subst hl
          exact ⟨(recs_perm hc).mem_iff.2 (List.mem_append_right _ (by rw [hc2.2]; simp [TxS.bmap])), hc2.1.symm⟩
        · have := atRec_mem hl
          exact ⟨hmem r this.1, this.2⟩
      have h8 := h.new r hin.1
      rw [hin.2] at h8
      rw [h8.2]
      exact ⟨rfl, rfl⟩
    | none =>
      simp only
      have hnm : (i : Int) ∉ y.recs.map (·.at_) := fun hm => by
        obtain ⟨r, hr, he⟩ := List.mem_map.1 hm
        unfold TxS.look at hl
        split at hl
        · cases hl
        · rename_i hc2
          rcases List.mem_append.1 ((recs_perm hc).mem_iff.1 hr) with hr | hr
          · exact atRec_none hl r hr he
          · split at hr
            · rename_i hch
              simp at hr
              subst hr
              exact hc2 ⟨he.symm, hch⟩
            · cases hr
      have := hfar i ⟨by omega, by omega, by omega⟩ hnm
      rw [this.2]
      exact ⟨rfl, rfl⟩
end
end Go.Proofs.YtloddiipepiocaaGreatDoor
