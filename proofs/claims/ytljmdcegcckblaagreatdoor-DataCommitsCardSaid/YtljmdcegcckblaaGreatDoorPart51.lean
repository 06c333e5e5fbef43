/- Parts of the proof, put together by program: IK, DZ. -/
import Derived.Test.YtljmdcegcckblaaGreatDoorPart31
import Derived.Test.YtljmdcegcckblaaGreatDoorPart06
import Derived.Test.YtljmdcegcckblaaGreatDoorPart23
import Derived.Test.YtljmdcegcckblaaGreatDoorPart43
import Derived.Test.YtljmdcegcckblaaGreatDoorPart50
import Derived.Test.YtljmdcegcckblaaGreatDoorPart44
/- limewashref06.Same, of two states that are one, with empty caches. -/
namespace Go.Proofs.YtljmdcegcckblaaGreatDoor
open Go.RowKit Go.Maps

theorem neqSec (xs : List Int) (hx : xs.length = 128) (w : World) :
    (binOp .neq 141 (.agg (bytesV xs)) (.agg (bytesV xs))).run Tryz.prog w = .ok (.bool false) w := by
  have h := eqSec xs xs hx hx w
  rw [run_eql_struct] at h
  rw [run_neq_struct]
  cases e : (Op.equalIn 10000 141 (.agg (bytesV xs)) (.agg (bytesV xs))).run Tryz.prog w with
  | ok b w' =>
    rw [e] at h
    simp only [Result.andThen_ok, Result.ok.injEq, Value.bool.injEq, decide_true] at h
    obtain ⟨rfl, rfl⟩ := h
    rfl
  | _ => rw [e] at h; cases h

/-- The k-th sector of a row. -/
theorem own_sec {w : World} {base : Nat} {g n cap : Nat} {l : List (List Int)} (hl : ∀ s ∈ l, s.length = 128) (h : w.ownsRow base 141 128 (.slice (some ⟨g, 0, none⟩) n cap) n (l.flatMap secV)) (k : Nat) (hk : k < l.length) : SecAt w ⟨g, k * 128, none⟩ l[k] := by
  have h1 := hl _ (List.getElem_mem hk)
  refine ⟨h1, rfl, fun j hj => own_cell h ?_⟩
  rw [flat_get (f := secV) (m := 128) (fun s hs => by rw [secV_length]; exact hl s hs) hj hk, secV_get (by rw [h1]; exact hj)]

theorem exec_loadSec {o : Oper} {a : Act} {p : Addr} {l : List Int} {w : World} (x : Operand) (ho : o.op = .load 141 x) (hx : a.eval x = .pointer (some p)) (hs : SecAt w p l) : (execOp a.eval o).run Tryz.prog w = .ok (.value (.agg (bytesV l))) w := by
  unfold execOp
  simp only [ho, hx, Instr.loadAt, Instr.sureAddr, Sem.run_bind, Sem.run_pure, Result.andThen_ok, hs.load]

set_option maxRecDepth 100000 in
set_option maxHeartbeats 4000000 in
theorem same_eq (sta : List (List Int)) (hs : ∀ s ∈ sta, s.length = 128) (h0 : 0 < sta.length ∧ sta.length ≤ 256) (sv1 cv1 sv2 cv2 : Value) (tk pw : Int) (off : Bool) (b1 b2 : Nat) (w : World)
    (o1 : w.ownsRow b1 141 128 sv1 sta.length (sta.flatMap secV)) (o2 : w.ownsRow b2 141 128 sv2 sta.length (sta.flatMap secV)) (k1 : w.ownsRow b1 144 129 cv1 0 []) (k2 : w.ownsRow b2 144 129 cv2 0 []) :
    Calls Tryz.prog 29 #[.agg (stateC sv1 cv1 tk pw off), .agg (stateC sv2 cv2 tk pw off)] w fun e w' => e = .returned (.bool true) ∧ Below w.heap.size w w' := by
  obtain ⟨g1, c1, rfl, -, l1⟩ := own_form o1 h0.1
  obtain ⟨g2, c2, rfl, -, l2⟩ := own_form o2 h0.1
  obtain ⟨a3, c3, rfl⟩ := own_slice k1
  obtain ⟨a4, c4, rfl⟩ := own_slice k2
  clear k1 k2
  obtain ⟨wA, hA⟩ : ∃ wA, wA = (w.alloc (.cells (stateC (.slice (some ⟨g1, 0, none⟩) sta.length c1) (.slice a3 0 c3) tk pw off) 83)).alloc (.cells (stateC (.slice (some ⟨g2, 0, none⟩) sta.length c2) (.slice a4 0 c4) tk pw off) 83) := ⟨_, rfl⟩
  have bA : Blk wA w.heap.size 83 #[.slice (some ⟨g1, 0, none⟩) sta.length c1, .slice a3 0 c3, .int .i64 tk, .int .i64 pw, .bool off] := by rw [hA]; exact (Blk.new _ _ _).alloc _
  have bB : Blk wA (w.heap.size + 1) 83 #[.slice (some ⟨g2, 0, none⟩) sta.length c2, .slice a4 0 c4, .int .i64 tk, .int .i64 pw, .bool off] := by rw [hA]; exact Blk.new' (by simp)
  have BA : Below w.heap.size w wA := by rw [hA]; (repeat' (first | (with_reducible exact Below.refl _ _) | (with_reducible assumption) | (with_reducible refine Below.alloc ?_ ?_ _) | (with_reducible refine Below.drew ?_) | (with_reducible refine below_drewN' ?_ _) | (with_reducible refine Below.setCell ?_ ?_ _) | (with_reducible exact Nat.le_refl _) | omega | (simp; done) | (simp; omega)))
  have cA := bA.cells
  have lA := bA.lt
  have cB := bB.cells
  have lB := bB.lt
  unfold stateC at hA
  go_enter Tryz.func29, Tryz.ntmps29
  unfold stateC
  go_wp2_with fail
  rw [← hA]
  clear hA
  go_wp2_with fail
  go_loopw [5] (fun q wr => ∃ k : Nat, k ≤ sta.length ∧ q = .int .i64 k ∧ Below wA.heap.size wA wr) (fun q _ => sta.length - (RowKit.intOf q).toNat)
  case atStart => exact ⟨0, Nat.zero_le _, rfl, Below.refl _ _⟩
  case round =>
    obtain ⟨k, hk, rfl, hb⟩ := hrel
    have B1 := BA.trans (hb.mono BA.size)
    have bAr := bA.belowAll hb
    have bBr := bB.belowAll hb
    have cA := bAr.cells
    have lA := bAr.lt
    have cB := bBr.cells
    have lB := bBr.lt
    by_cases hlt : k < sta.length
    · have hS : ∀ W, Below w.heap.size w W → Blk W w.heap.size 83 #[.slice (some ⟨g1, 0, none⟩) sta.length c1, .slice a3 0 c3, .int .i64 tk, .int .i64 pw, .bool off] → Blk W (w.heap.size + 1) 83 #[.slice (some ⟨g2, 0, none⟩) sta.length c2, .slice a4 0 c4, .int .i64 tk, .int .i64 pw, .bool off] →
          W.cell? ⟨w.heap.size, 0, none⟩ = some (.slice (some ⟨g1, 0, none⟩) sta.length c1) ∧ W.cell? ⟨w.heap.size + 1, 0, none⟩ = some (.slice (some ⟨g2, 0, none⟩) sta.length c2) ∧ SecAt W ⟨g1, k * 128, none⟩ sta[k] ∧ SecAt W ⟨g2, k * 128, none⟩ sta[k] := fun W hB hX hY =>
        ⟨(hX.cells 0).trans rfl, (hY.cells 0).trans rfl, own_sec hs (own_below o1 hB) k hlt, own_sec hs (own_below o2 hB) k hlt⟩
      have HS := Lib.hid (hS _ B1.drew bAr.drew bBr.drew)
      have hNE := neqSec sta[k] (hs _ (List.getElem_mem hlt))
      have HH := Lib.hid (And.intro bA (And.intro bB (And.intro o1 o2)))
      clear hS o1 o2 bA bB
      generalize sta[k] = xs at *
      go_wp2_with fail
      clear cA lA cB lB
      refine wp_region_mix [.take 0, .take 1, .take 2, .take 3, .take 4, .take 5, .take 6, .take 7, .take 8, .take 9, .take 10] 11 (fun W => W.cell? ⟨w.heap.size, 0, none⟩ = some (.slice (some ⟨g1, 0, none⟩) sta.length c1) ∧ W.cell? ⟨w.heap.size + 1, 0, none⟩ = some (.slice (some ⟨g2, 0, none⟩) sta.length c2) ∧ SecAt W ⟨g1, k * 128, none⟩ xs ∧ SecAt W ⟨g2, k * 128, none⟩ xs) (by kernel_rfl) (by kernel_rfl) (fun _ _ _ _ _ h => h) HS.out ?_
      simp only [List.map_cons, List.map_nil, Ms.fill, List.getD_cons_zero, List.getD_cons_succ]
      iterate 4 (refine mixT_take (by rfl) ?_ (fun w' hw' => ?_) ?_; rotate_left; (focus (go_simp; (try with_reducible rfl))); (try simp only [Act.put, List.setIfInBounds_toArray, List.set_cons_zero, List.set_cons_succ]))
      refine mixT_take (by rfl) _ (fun w' hw' => exec_loadSec _ rfl rfl hw'.2.2.1) ?_
      simp only [Act.put, List.setIfInBounds_toArray, List.set_cons_zero, List.set_cons_succ]
      iterate 4 (refine mixT_take (by rfl) ?_ (fun w' hw' => ?_) ?_; rotate_left; (focus (go_simp; (try with_reducible rfl))); (try simp only [Act.put, List.setIfInBounds_toArray, List.set_cons_zero, List.set_cons_succ]))
      refine mixT_take (by rfl) _ (fun w' hw' => exec_loadSec _ rfl rfl hw'.2.2.2) ?_
      simp only [Act.put, List.setIfInBounds_toArray, List.set_cons_zero, List.set_cons_succ]
      (refine mixT_take (by rfl) ?_ (fun w' hw' => ?_) ?_; rotate_left; (focus (go_simp; (try with_reducible rfl))); (try simp only [Act.put, List.setIfInBounds_toArray, List.set_cons_zero, List.set_cons_succ]))
      refine mixT_nil ?_
      go_wp2_with fail
      go_roundw
      case rel => exact ⟨k + 1, by omega, by go_num, hb.drew⟩
      case measure => simp [RowKit.intOf]; omega
    · have hd : ¬ ((k : Int) < (sta.length : Int)) := by omega
      go_wp2_with fail
      go_loopw [6] (fun q wr => q = .int .i64 0 ∧ Below wA.heap.size wA wr) (fun _ _ => 0)
      case atStart => exact ⟨rfl, hb⟩
      case round =>
        obtain ⟨rfl, hb2⟩ := hrel
        have c2' := (bA.belowAll hb2).cells
        have l2' := (bA.belowAll hb2).lt
        go_wp2_with fail
        go_ret
        exact ⟨rfl, BA.trans (hb2.mono BA.size)⟩

end Go.Proofs.YtljmdcegcckblaaGreatDoor
/- The laws of layer 12: what DataCommits asks besides. -/
namespace Go.Proofs.YtljmdcegcckblaaGreatDoor
open Go.RowKit Go.Maps

/-- A device that was formatted, with an empty cache, and a transaction on it. -/
def BegunC (w : World) (s j i : Int) (e : Ending) (w' : World) : Prop :=
  ∃ D T F B y, e = .returned (.tuple #[.pointer (some ⟨D, 0, none⟩), .pointer (some ⟨T, 0, none⟩)]) ∧ Fresh y s j i 1000000 ∧ y.cache = [] ∧ TD w' T F D (freeTx s j i) B y ∧ Below w.heap.size w w' ∧ (∀ b ∈ F, w.heap.size ≤ b) ∧ ∀ b ∈ B, w.heap.size ≤ b

set_option maxRecDepth 100000 in
set_option maxHeartbeats 2000000 in
theorem begun_cache (ns : Nat) (j i : Int) (h : rgE ns j i = 0) (w : World) (hH : HalfAt w) :
    Calls Tryz.prog 9 #[.agg #[.int .i64 ns, .int .i64 j, .int .i64 i]] w (BegunC w ns j i) := by
  obtain ⟨wA, hA⟩ : ∃ wA, wA = w.alloc (.cells #[.int .i64 ns, .int .i64 j, .int .i64 i] 32) := ⟨_, rfl⟩
  have bL : Blk wA w.heap.size 32 #[.int .i64 ns, .int .i64 j, .int .i64 i] := by rw [hA]; exact (by (repeat' (first | (with_reducible assumption) | exact Blk.new' (by simp) | refine Blk.alloc ?_ _)))
  have BA : Below w.heap.size w wA := by rw [hA]; (repeat' (first | (with_reducible exact Below.refl _ _) | (with_reducible assumption) | (with_reducible refine Below.alloc ?_ ?_ _) | (with_reducible refine Below.drew ?_) | (with_reducible refine below_drewN' ?_ _) | (with_reducible refine Below.setCell ?_ ?_ _) | (with_reducible exact Nat.le_refl _) | omega | (simp; done) | (simp; omega)))
  have hHA : HalfAt wA := hH.below BA hH.1
  have hbd := rg_bds h
  obtain ⟨y, hy, hF⟩ := format_fresh h 1000000 (by omega)
  rw [Int.toNat_natCast] at hy
  have hcache : y.cache = [] := by have h := tfmt_cache (x := newDev ns) (s := ns) (j := j) (i := i) (by rw [hy]); rw [hy] at h; exact h
  obtain ⟨hb1, hb2, hb3⟩ := begin_fresh h hF
  have hnew := new_dev ns (by omega) wA hHA
  have cL := bL.cells
  have lL := bL.lt
  have hp0 := hH.1
  have lA := bL.lt
  unfold BegunC
  go_enter Tryz.func9, Tryz.ntmps9
  go_wp2_with fail
  rw [← hA]
  go_wp2_with fail
  refine hnew.mono ?_
  rintro e w1 ⟨D, B0, rfl, hd1, hw1, hB0⟩
  have B1 := BA.trans (hw1.mono BA.size)
  have bL1 := bL.belowAll hw1
  clear hnew cL lL bL hA hHA
  have cL := bL1.cells
  have lL := bL1.lt
  go_wp2_with fail
  refine (tformat_dev D ns j i B0 (newDev ns) w1 hd1).mono ?_
  rintro e w2 ⟨rfl, B, hd2, g2⟩
  rw [hy] at hd2 ⊢
  have hg0 : w.heap.size ∉ B0 := fun hm => by have := hB0 _ hm; omega
  have bL2 := g2.blk bL1 hg0
  have B2 : Below w.heap.size w w2 := B1.trans (g2.below B1.size fun b hb => by have := hB0 b hb; omega)
  have hBB : ∀ b ∈ B, w.heap.size ≤ b := fun b hb => by
    rcases g2.new b hb with h3 | h3
    · have := hB0 b h3; omega
    · have := B1.size; omega
  clear cL lL bL1 hd1 hw1 g2 hg0 hB0
  have cL := bL2.cells
  have lL := bL2.lt
  have Hb1 := Lib.hid hb1
  have Hb2 := Lib.hid hb2
  have HF := Lib.hid hF
  have Hh := Lib.hid h
  have HC := Lib.hid hcache
  clear hy hb1 hb2 hF h hcache
  go_wp2_with fail
  refine (begin_dev D ns j i B y w2 hd2 hb3).mono ?_
  rintro e w3 ⟨hb4, E, hE, ⟨h5, -⟩ | ⟨-, T, F, rfl, ht, hFF⟩⟩
  · exact absurd ((Hb1.out E).1 hE) h5
  rw [Hb2.out] at ht
  have B3 := B2.trans (hb4.mono B2.size)
  have hd3 := hd2.below hb4
  have hlt := hd2.lt
  clear cL lL bL2 hb4 hE
  go_wp2_with fail
  go_ret2
  exact ⟨D, T, F, B, y, rfl, HF.out, HC.out, ⟨ht, hd3, fun b hb hm => by have := hFF b hb; have := (hlt b hm).2; omega⟩, B3, fun b hb => by have := hFF b hb; have := B2.size; omega, hBB⟩
/-- What Save returned lies in block S, and its rows in blocks that the transaction does not touch. -/
structure Saved (w : World) (F : List Nat) (S : Nat) (a1 a2 : Option Addr) (c1 c2 : Nat) (sta : List (List Int)) (tk pw : Int) (off : Bool) : Prop where
  box : Blk w S 83 #[.slice a1 sta.length c1, .slice a2 0 c2, .int .i64 tk, .int .i64 pw, .bool off]
  os : w.ownsRow 0 141 128 (.slice a1 sta.length c1) sta.length (sta.flatMap secV)
  oc : w.ownsRow 0 144 129 (.slice a2 0 c2) 0 []
  nb : S ∉ F
  ns : ∀ q, (Value.slice a1 sta.length c1).ownBlock = some q → q ∉ F
  nc : ∀ q, (Value.slice a2 0 c2).ownBlock = some q → q ∉ F
section
variable {w w' : World} {F F' : List Nat} {S : Nat} {a1 a2 : Option Addr} {c1 c2 : Nat} {sta : List (List Int)} {tk pw : Int} {off : Bool}
theorem Saved.grow (h : Saved w F S a1 a2 c1 c2 sta tk pw off) (g : Grow w F w' F') : Saved w' F' S a1 a2 c1 c2 sta tk pw off :=
  ⟨g.blk h.box h.nb, own_block h.os fun q hq => g.keep.block q (own_lt h.os q hq).2 (h.ns q hq), own_block h.oc fun q hq => g.keep.block q (own_lt h.oc q hq).2 (h.nc q hq),
   g.notin h.nb h.box.lt, fun q hq => g.notin (h.ns q hq) (own_lt h.os q hq).2, fun q hq => g.notin (h.nc q hq) (own_lt h.oc q hq).2⟩
theorem Saved.below (h : Saved w F S a1 a2 c1 c2 sta tk pw off) (hb : Below w.heap.size w w') : Saved w' F S a1 a2 c1 c2 sta tk pw off := h.grow (Grow.of_below hb F)
end

/-- A device's cells, of a block. -/
def SavedC (W : World) (S n : Nat) (a1 a2 : Option Addr) (c1 c2 : Nat) (tk pw : Int) (off : Bool) : Prop :=
  W.cell? ⟨S, 0, none⟩ = some (.slice a1 n c1) ∧ W.cell? ⟨S, 1, none⟩ = some (.slice a2 0 c2) ∧ W.cell? ⟨S, 2, none⟩ = some (.int .i64 tk) ∧ W.cell? ⟨S, 3, none⟩ = some (.int .i64 pw) ∧ W.cell? ⟨S, 4, none⟩ = some (.bool off)
theorem Saved.cells {w : World} {F : List Nat} {S : Nat} {a1 a2 : Option Addr} {c1 c2 : Nat} {sta : List (List Int)} {tk pw : Int} {off : Bool} (h : Saved w F S a1 a2 c1 c2 sta tk pw off) : SavedC w S sta.length a1 a2 c1 c2 tk pw off :=
  ⟨(h.box.cells 0).trans rfl, (h.box.cells 1).trans rfl, (h.box.cells 2).trans rfl, (h.box.cells 3).trans rfl, (h.box.cells 4).trans rfl⟩

section
variable {w : World} {T : Nat} {F : List Nat} {D : Nat} {y : TxS} {B : List Nat} {x : DevS}
theorem TD.devlt (h : TD w T F D y B x) : ∀ b ∈ F ++ B, b < w.heap.size := fun b hb => (List.mem_append.1 hb).elim (fun hb => (h.tx.lt b hb).2) (fun hb => (h.dev.lt b hb).2)
/-- Save, where the cache is empty. -/
theorem save_td (h : TD w T F D y B x) (hc : x.cache = []) :
    Calls Tryz.prog 28 #[.pointer (some ⟨D, 0, none⟩)] w fun e w' => ∃ a1 a2 c1 c2, e = .returned (.agg #[.slice a1 x.stable.length c1, .slice a2 0 c2, .int .i64 x.taken, .int .i64 x.power, .bool x.off]) ∧
      w'.ownsRow w.heap.size 141 128 (.slice a1 x.stable.length c1) x.stable.length (x.stable.flatMap secV) ∧ w'.ownsRow w.heap.size 144 129 (.slice a2 0 c2) 0 [] ∧ Below w.heap.size w w' := by
  obtain ⟨S, c, M, cv, m, -⟩ := h.dev.mem
  refine (save_any D S c M cv x h.dev.ok w m).mono ?_
  rintro e w' ⟨sv, cv, rfl, o1, o2, hb⟩
  rw [hc] at o2
  obtain ⟨a1, c1, rfl⟩ := own_slice o1
  obtain ⟨a2, c2, rfl⟩ := own_slice o2
  exact ⟨a1, a2, c1, c2, rfl, o1, o2, hb⟩
/-- The boxed one, behind Save. -/
theorem Saved.made {w1 w2 : World} {a1 a2 : Option Addr} {c1 c2 : Nat} (h : TD w T F D y B x) (o1 : w1.ownsRow w.heap.size 141 128 (.slice a1 x.stable.length c1) x.stable.length (x.stable.flatMap secV)) (o2 : w1.ownsRow w.heap.size 144 129 (.slice a2 0 c2) 0 []) (hb : Below w.heap.size w w1)
    (hw : w2 = w1.alloc (.cells #[.slice a1 x.stable.length c1, .slice a2 0 c2, .int .i64 x.taken, .int .i64 x.power, .bool x.off] 83)) : Saved w2 (F ++ B) w1.heap.size a1 a2 c1 c2 x.stable x.taken x.power x.off := by
  have hlt := h.devlt
  have hz := hb.size
  have b2 : Below w1.heap.size w1 w2 := by rw [hw]; exact (Below.refl _ _).alloc (Nat.le_refl _) _
  exact ⟨by rw [hw]; exact Blk.new _ _ _, own_lower (own_below o1 b2) (Nat.zero_le _), own_lower (own_below o2 b2) (Nat.zero_le _), fun hm => by have := hlt _ hm; omega, fun q hq hm => by have := hlt _ hm; have := (own_lt o1 q hq).1; omega, fun q hq hm => by have := hlt _ hm; have := (own_lt o2 q hq).1; omega⟩
theorem same_saved' {S b : Nat} {a1 a2 e1 e2 : Option Addr} {c1 c2 d1 d2 : Nat} {G : List Nat} (ok : x.Ok) (s : Saved w G S a1 a2 c1 c2 x.stable x.taken x.power x.off)
    (o1 : w.ownsRow b 141 128 (.slice e1 x.stable.length d1) x.stable.length (x.stable.flatMap secV)) (o2 : w.ownsRow b 144 129 (.slice e2 0 d2) 0 []) :
    Calls Tryz.prog 29 #[.agg #[.slice a1 x.stable.length c1, .slice a2 0 c2, .int .i64 x.taken, .int .i64 x.power, .bool x.off], .agg #[.slice e1 x.stable.length d1, .slice e2 0 d2, .int .i64 x.taken, .int .i64 x.power, .bool x.off]] w fun e w' => e = .returned (.bool true) ∧ Below w.heap.size w w' :=
  same_eq x.stable (fun s hs => (ok.sec s hs).1) (by have := ok.lo; have := ok.hi; omega) _ _ _ _ x.taken x.power x.off 0 b w s.os o1 s.oc o2
end

set_option maxRecDepth 100000 in
set_option maxHeartbeats 1000000 in
/-- Two answers that are the same. -/
theorem alike_eq (A1 A2 P1 P2 : Option Addr) (c1 c2 n1 n2 : Nat) (la : List Int) (ps : List ByteArray) (hla : la.length ≤ 100000) (hps : ps.length ≤ 100000) (t : ByteArray) (z E : Int) (w : World) (hA1 : Reads w A1 (la.map (.int .i64))) (hA2 : Reads w A2 (la.map (.int .i64))) (hP1 : Reads w P1 (ps.map .string)) (hP2 : Reads w P2 (ps.map .string)) :
    Calls Tryz.prog 31 #[.agg (ansC (.slice A1 la.length c1) (.slice P1 ps.length n1) t z E), .agg (ansC (.slice A2 la.length c2) (.slice P2 ps.length n2) t z E)] w fun e w' => e = .returned (.bool true) ∧ Below w.heap.size w w' := by
  obtain ⟨wA, hA⟩ : ∃ wA, wA = (w.alloc (.cells (ansC (.slice A1 la.length c1) (.slice P1 ps.length n1) t z E) 48)).alloc (.cells (ansC (.slice A2 la.length c2) (.slice P2 ps.length n2) t z E) 48) := ⟨_, rfl⟩
  have bA : Blk wA w.heap.size 48 (ansC (.slice A1 la.length c1) (.slice P1 ps.length n1) t z E) := by rw [hA]; exact (Blk.new _ _ _).alloc _
  have bB : Blk wA (w.heap.size + 1) 48 (ansC (.slice A2 la.length c2) (.slice P2 ps.length n2) t z E) := by rw [hA]; exact Blk.new' (by simp)
  have BA : Below w.heap.size w wA := by rw [hA]; (repeat' (first | (with_reducible exact Below.refl _ _) | (with_reducible assumption) | (with_reducible refine Below.alloc ?_ ?_ _) | (with_reducible refine Below.drew ?_) | (with_reducible refine below_drewN' ?_ _) | (with_reducible refine Below.setCell ?_ ?_ _) | (with_reducible exact Nat.le_refl _) | omega | (simp; done) | (simp; omega)))
  have h1 := sameInts_any A1 A2 c1 c2 la la hla hla wA (hA1.below BA) (hA2.below BA)
  rw [decide_eq_true rfl] at h1
  have cA := bA.cells
  have lA := bA.lt
  have cB := bB.cells
  have lB := bB.lt
  go_enter Tryz.func31, Tryz.ntmps31
  go_wp2_with fail
  rw [← hA]
  clear hA
  go_wp2_with fail
  refine h1.mono ?_
  rintro e w1 ⟨rfl, hb1⟩
  have B1 := BA.trans (hb1.mono BA.size)
  have h2 := strings_any P1 P2 n1 n2 ps ps hps hps w1 (hP1.below B1) (hP2.below B1)
  rw [decide_eq_true rfl] at h2
  have bA1 := bA.belowAll hb1
  have bB1 := bB.belowAll hb1
  clear h1 cA lA cB lB bA bB hb1 BA
  have cA := bA1.cells
  have lA := bA1.lt
  have cB := bB1.cells
  have lB := bB1.lt
  go_wp2_with fail
  refine h2.mono ?_
  rintro e w2 ⟨rfl, hb2⟩
  have B2 := B1.trans (hb2.mono B1.size)
  have bA2 := bA1.belowAll hb2
  have bB2 := bB1.belowAll hb2
  clear h2 cA lA cB lB bA1 bB1 hb2 B1
  have cA := bA2.cells
  have lA := bA2.lt
  have cB := bB2.cells
  have lB := bB2.lt
  go_wp2_with fail
  go_ret
  exact ⟨rfl, B2⟩
end Go.Proofs.YtljmdcegcckblaaGreatDoor
