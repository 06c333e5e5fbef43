/- Parts of the proof, put together by program: IK, CJ, T0, T1. -/
import Derived.Test.YtloddiipepiocaaGreatDoorPart12
import Derived.Test.YtloddiipepiocaaGreatDoorPart06
import Derived.Test.YtloddiipepiocaaGreatDoorPart25
import Derived.Test.YtloddiipepiocaaGreatDoorPart31
import Derived.Test.YtloddiipepiocaaGreatDoorPart13
import Derived.Test.YtloddiipepiocaaGreatDoorPart24
import Derived.Test.YtloddiipepiocaaGreatDoorPart02
set_option linter.unusedVariables false
set_option linter.unusedSimpArgs false
/- limewashref06.Same, of two states that are one, with empty caches. -/
namespace Go.Proofs.YtloddiipepiocaaGreatDoor
open Go.RowKit Go.Maps

theorem neqSec (xs : List Int) (hx : xs.length = 128) (w : World) :
    (binOp .neq 42 (.agg (bytesV xs)) (.agg (bytesV xs))).run Tryz.prog w = .ok (.bool false) w := by
  have h := eqSec xs xs hx hx w
  rw [run_eql_struct] at h
  rw [run_neq_struct]
  cases e : (Op.equalIn 10000 42 (.agg (bytesV xs)) (.agg (bytesV xs))).run Tryz.prog w with
  | ok b w' =>
    rw [e] at h
    simp only [Result.andThen_ok, Result.ok.injEq, Value.bool.injEq, decide_true] at h
    obtain ⟨rfl, rfl⟩ := h
    rfl
  | _ => rw [e] at h; cases h

/-- The k-th sector of a row. -/
theorem own_sec {w : World} {base : Nat} {g n cap : Nat} {l : List (List Int)} (hl : ∀ s ∈ l, s.length = 128) (h : w.ownsRow base 42 128 (.slice (some ⟨g, 0, none⟩) n cap) n (l.flatMap secV)) (k : Nat) (hk : k < l.length) : SecAt w ⟨g, k * 128, none⟩ l[k] := by
  have h1 := hl _ (List.getElem_mem hk)
  refine ⟨h1, rfl, fun j hj => own_cell h ?_⟩
  rw [flat_get (f := secV) (m := 128) (fun s hs => by rw [secV_length]; exact hl s hs) hj hk, secV_get (by rw [h1]; exact hj)]

theorem exec_loadSec {o : Oper} {a : Act} {p : Addr} {l : List Int} {w : World} (x : Operand) (ho : o.op = .load 42 x) (hx : a.eval x = .pointer (some p)) (hs : SecAt w p l) : (execOp a.eval o).run Tryz.prog w = .ok (.value (.agg (bytesV l))) w := by
  unfold execOp
  simp only [ho, hx, Instr.loadAt, Instr.sureAddr, Sem.run_bind, Sem.run_pure, Result.andThen_ok, hs.load]

set_option maxRecDepth 100000 in
set_option maxHeartbeats 4000000 in
theorem same_eq (sta : List (List Int)) (hs : ∀ s ∈ sta, s.length = 128) (h0 : 0 < sta.length ∧ sta.length ≤ 256) (sv1 cv1 sv2 cv2 : Value) (tk pw : Int) (off : Bool) (b1 b2 : Nat) (w : World)
    (o1 : w.ownsRow b1 42 128 sv1 sta.length (sta.flatMap secV)) (o2 : w.ownsRow b2 42 128 sv2 sta.length (sta.flatMap secV)) (k1 : w.ownsRow b1 111 129 cv1 0 []) (k2 : w.ownsRow b2 111 129 cv2 0 []) :
    Calls Tryz.prog 12 #[.agg (stateC sv1 cv1 tk pw off), .agg (stateC sv2 cv2 tk pw off)] w fun e w' => e = .returned (.bool true) ∧ Below w.heap.size w w' := by
  obtain ⟨g1, c1, rfl, -, l1⟩ := own_form o1 h0.1
  obtain ⟨g2, c2, rfl, -, l2⟩ := own_form o2 h0.1
  obtain ⟨a3, c3, rfl⟩ := own_slice k1
  obtain ⟨a4, c4, rfl⟩ := own_slice k2
  clear k1 k2
  obtain ⟨wA, hA⟩ : ∃ wA, wA = (w.alloc (.cells (stateC (.slice (some ⟨g1, 0, none⟩) sta.length c1) (.slice a3 0 c3) tk pw off) 33)).alloc (.cells (stateC (.slice (some ⟨g2, 0, none⟩) sta.length c2) (.slice a4 0 c4) tk pw off) 33) := ⟨_, rfl⟩
  have bA : Blk wA w.heap.size 33 #[.slice (some ⟨g1, 0, none⟩) sta.length c1, .slice a3 0 c3, .int .i64 tk, .int .i64 pw, .bool off] := by rw [hA]; exact (Blk.new _ _ _).alloc _
  have bB : Blk wA (w.heap.size + 1) 33 #[.slice (some ⟨g2, 0, none⟩) sta.length c2, .slice a4 0 c4, .int .i64 tk, .int .i64 pw, .bool off] := by rw [hA]; exact Blk.new' (by simp)
  have BA : Below w.heap.size w wA := by rw [hA]; (repeat' (first | (with_reducible exact Below.refl _ _) | (with_reducible assumption) | (with_reducible refine Below.alloc ?_ ?_ _) | (with_reducible refine Below.drew ?_) | (with_reducible refine below_drewN' ?_ _) | (with_reducible refine Below.setCell ?_ ?_ _) | (with_reducible exact Nat.le_refl _) | omega | (simp; done) | (simp; omega)))
  have cA := bA.cells
  have lA := bA.lt
  have cB := bB.cells
  have lB := bB.lt
  unfold stateC at hA
  go_enter Tryz.func12, Tryz.ntmps12
  unfold stateC
  go_wp2_with fail
  rw [← hA]
  clear hA
  go_wp2_with fail
  go_loopw [5] (fun q wr => ∃ k : Nat, k ≤ sta.length ∧ q = .int .i64 k ∧ Below wA.heap.size wA wr) (fun q _ => sta.length - (intOf q).toNat)
  case atStart => exact ⟨0, Nat.zero_le _, rfl, Below.refl _ _⟩
  case round =>
    obtain ⟨k, hk, rfl, hb⟩ := hrel
    have B1 := BA.trans (hb.mono BA.size)
    have bAr := bA.belowAll hb
    have bBr := bB.belowAll hb
    have cA := bAr.cells
    have lA := bAr.lt
    have cB := bBr.cells
    have lB := bBr.lt
    by_cases hlt : k < sta.length
    · have hS : ∀ W, Below w.heap.size w W → Blk W w.heap.size 33 #[.slice (some ⟨g1, 0, none⟩) sta.length c1, .slice a3 0 c3, .int .i64 tk, .int .i64 pw, .bool off] → Blk W (w.heap.size + 1) 33 #[.slice (some ⟨g2, 0, none⟩) sta.length c2, .slice a4 0 c4, .int .i64 tk, .int .i64 pw, .bool off] →
          W.cell? ⟨w.heap.size, 0, none⟩ = some (.slice (some ⟨g1, 0, none⟩) sta.length c1) ∧ W.cell? ⟨w.heap.size + 1, 0, none⟩ = some (.slice (some ⟨g2, 0, none⟩) sta.length c2) ∧ SecAt W ⟨g1, k * 128, none⟩ sta[k] ∧ SecAt W ⟨g2, k * 128, none⟩ sta[k] := fun W hB hX hY =>
        ⟨(hX.cells 0).trans rfl, (hY.cells 0).trans rfl, own_sec hs (own_below o1 hB) k hlt, own_sec hs (own_below o2 hB) k hlt⟩
      have HS := Lib.hid (hS _ B1.drew bAr.drew bBr.drew)
      have hNE := neqSec sta[k] (hs _ (List.getElem_mem hlt))
      have HH := Lib.hid (And.intro bA (And.intro bB (And.intro o1 o2)))
      clear hS o1 o2 bA bB
      generalize sta[k] = xs at *
      go_wp2_with fail
      clear cA lA cB lB
      refine wp_region_mix [.take 0, .take 1, .take 2, .take 3, .take 4, .take 5, .take 6, .take 7, .take 8, .take 9, .take 10] 11 (fun W => W.cell? ⟨w.heap.size, 0, none⟩ = some (.slice (some ⟨g1, 0, none⟩) sta.length c1) ∧ W.cell? ⟨w.heap.size + 1, 0, none⟩ = some (.slice (some ⟨g2, 0, none⟩) sta.length c2) ∧ SecAt W ⟨g1, k * 128, none⟩ xs ∧ SecAt W ⟨g2, k * 128, none⟩ xs) (by kernel_rfl) (by kernel_rfl) (fun _ _ _ _ _ h => h) HS.out ?_
      simp only [List.map_cons, List.map_nil, Ms.fill, List.getD_cons_zero, List.getD_cons_succ]
      iterate 4 (refine mixT_take (by rfl) ?_ (fun w' hw' => ?_) ?_; rotate_left; (focus (go_simp; (try with_reducible rfl))); (try simp only [Act.put, List.setIfInBounds_toArray, List.set_cons_zero, List.set_cons_succ]))
      refine mixT_take (by rfl) _ (fun w' hw' => exec_loadSec _ rfl rfl hw'.2.2.1) ?_
      simp only [Act.put, List.setIfInBounds_toArray, List.set_cons_zero, List.set_cons_succ]
      iterate 4 (refine mixT_take (by rfl) ?_ (fun w' hw' => ?_) ?_; rotate_left; (focus (go_simp; (try with_reducible rfl))); (try simp only [Act.put, List.setIfInBounds_toArray, List.set_cons_zero, List.set_cons_succ]))
      refine mixT_take (by rfl) _ (fun w' hw' => exec_loadSec _ rfl rfl hw'.2.2.2) ?_
      simp only [Act.put, List.setIfInBounds_toArray, List.set_cons_zero, List.set_cons_succ]
      (refine mixT_take (by rfl) ?_ (fun w' hw' => ?_) ?_; rotate_left; (focus (go_simp; (try with_reducible rfl))); (try simp only [Act.put, List.setIfInBounds_toArray, List.set_cons_zero, List.set_cons_succ]))
      refine mixT_nil ?_
      go_wp2_with fail
      go_roundw
      case rel => exact ⟨k + 1, by omega, by go_num, hb.drew⟩
      case measure => simp [intOf]; omega
    · have hd : ¬ ((k : Int) < (sta.length : Int)) := by omega
      go_wp2_with fail
      go_loopw [6] (fun q wr => q = .int .i64 0 ∧ Below wA.heap.size wA wr) (fun _ _ => 0)
      case atStart => exact ⟨rfl, hb⟩
      case round =>
        obtain ⟨rfl, hb2⟩ := hrel
        have c2' := (bA.belowAll hb2).cells
        have l2' := (bA.belowAll hb2).lt
        go_wp2_with fail
        go_ret
        exact ⟨rfl, BA.trans (hb2.mono BA.size)⟩

end Go.Proofs.YtloddiipepiocaaGreatDoor
/- P10: TxnBegins: Begin of both on a device that is given by its sectors. -/
namespace Go.Proofs.YtloddiipepiocaaGreatDoor
open Go.RowKit Go.Maps

theorem fr_small {x : DevS} (ok : x.Ok) (a : Int) : (x.fr a).data.size ≤ 1000 := by
  unfold DevS.fr
  by_cases h : x.ge a = 0
  · rw [if_pos h]
    show (openStr (x.reads a)).size ≤ 1000
    have hat : Go.Proofs.YtloddiipepiocaaGreatDoor.atE x.off x.stable.length a = 0 := by
      unfold DevS.ge DevS.get getE at h
      by_cases h1 : Go.Proofs.YtloddiipepiocaaGreatDoor.atE x.off x.stable.length a = 0
      · exact h1
      · simp only [if_neg h1] at h; exact absurd h h1
    have hr := (ok.reads (atE_zero hat)).1
    unfold openStr
    rw [strOfNums_size, List.length_drop, List.length_take, hr]
    omega
  · rw [if_neg h]; exact Nat.zero_le _
/-- The error of Begin is one. -/
theorem beginE_det {x : DevS} {s j i E E' : Int} (h : x.beginE s j i E) (h' : x.beginE s j i E') : E = E' := by
  rcases h with ⟨a, rfl⟩ | ⟨a, b, rfl⟩ | ⟨a, b, c, rfl⟩ | ⟨a, b, c, d, rfl⟩ <;> rcases h' with ⟨a', rfl⟩ | ⟨a', b', rfl⟩ | ⟨a', b', c', rfl⟩ | ⟨a', b', c', d', rfl⟩ <;> first | rfl | (exfalso; first | exact a a' | exact a' a | exact b b' | exact b' b | exact c ⟨c', d'⟩ | exact c' ⟨c, d⟩)
/-- A device with these sectors, and nothing in the cache. -/
def plainD (l : List (List Int)) : DevS := ⟨l, [], 0, -1, false⟩
structure Secs (l : List (List Int)) (n : Nat) : Prop where
  len : l.length = n
  lo : 64 ≤ n
  hi : n ≤ 256
  sec : ∀ s ∈ l, s.length = 128 ∧ Bytes s
theorem Secs.ok {l : List (List Int)} {n : Nat} (h : Secs l n) : (plainD l).Ok :=
  ⟨by show 64 ≤ l.length; rw [h.len]; exact h.lo, by show l.length ≤ 256; rw [h.len]; exact h.hi, h.sec, fun p hp => (by cases hp), by show 0 ≤ 400; omega, by show (0 : Int) ≤ 0 ∧ (0 : Int) ≤ 1000000000000; omega, by show (-1 : Int) ≤ -1 ∧ (-1 : Int) ≤ 1000000000000; omega⟩
theorem Secs.set {l : List (List Int)} {n : Nat} (h : Secs l n) (k : Nat) {xs : List Int} (hx : xs.length = 128 ∧ Bytes xs) : Secs (l.set k xs) n :=
  ⟨by rw [List.length_set]; exact h.len, h.lo, h.hi, fun s hs => by
    rcases List.mem_or_eq_of_mem_set hs with hs | rfl
    · exact h.sec s hs
    · exact hx⟩
theorem zeros_secs {n : Nat} (h : 64 ≤ n ∧ n ≤ 256) : Secs (List.replicate n zsec) n :=
  ⟨List.length_replicate, h.1, h.2, fun s hs => by obtain rfl := List.eq_of_mem_replicate hs; exact ⟨zsec_length, zsec_bytes⟩⟩

/-- Load of such a state. -/
theorem load_plain {l : List (List Int)} {n : Nat} (h : Secs l n) (S c : Nat) (w : World) (hH : HalfAt w) (own : w.ownsRow 0 42 128 (.slice (some ⟨S, 0, none⟩) n c) n (l.flatMap secV)) :
    Calls Tryz.prog 9 #[.agg #[.slice (some ⟨S, 0, none⟩) n c, .slice none 0 0, .int .i64 0, .int .i64 (-1), .bool false]] w fun e w' =>
      ∃ D F, e = .returned (.tuple #[.pointer (some ⟨D, 0, none⟩), .int .i64 0]) ∧ DevAt w' D F (plainD l) ∧ Below w.heap.size w w' ∧ ∀ b ∈ F, w.heap.size ≤ b := by
  have e : (plainD l).stable.length = n := h.len
  have hl := load_fresh S c (plainD l) h.ok rfl w hH (by rw [e]; exact own)
  rw [e] at hl
  exact hl
/-- Begin: the pointer and the error. -/
theorem begin_ptr {l : List (List Int)} {n : Nat} (h : Secs l n) (D : Nat) (s j i : Int) (F : List Nat) (w : World) (hd : DevAt w D F (plainD l)) :
    Calls Tryz.prog 10 #[.pointer (some ⟨D, 0, none⟩), .agg #[.int .i64 s, .int .i64 j, .int .i64 i]] w fun e w' => Below w.heap.size w w' ∧ ∃ E p, (plainD l).beginE s j i E ∧ e = .returned (.tuple #[.pointer p, .int .i64 E]) ∧ ((E ≠ 0 ∧ p = none) ∨ (E = 0 ∧ ∃ T, p = some ⟨T, 0, none⟩)) := by
  refine (begin_dev D s j i F (plainD l) w hd (fr_small h.ok _)).mono ?_
  rintro e w' ⟨hb, E, hE, ⟨h0, rfl⟩ | ⟨h0, T, F', rfl, -, -⟩⟩
  · exact ⟨hb, E, none, hE, rfl, .inl ⟨h0, rfl⟩⟩
  · exact ⟨hb, E, _, hE, by rw [h0], .inr ⟨h0, T, rfl⟩⟩
/-- Begin of the reference: the transaction's cells and the error. -/
theorem rbegin_plain {l : List (List Int)} {n : Nat} (h : Secs l n) (S c : Nat) (s j i : Int) (w : World) (own : w.ownsRow 0 42 128 (.slice (some ⟨S, 0, none⟩) n c) n (l.flatMap secV)) :
    Calls Tryz.prog 11 #[.agg #[.slice (some ⟨S, 0, none⟩) n c, .slice none 0 0, .int .i64 0, .int .i64 (-1), .bool false], .agg #[.int .i64 s, .int .i64 j, .int .i64 i]] w fun e w' => Below w.heap.size w w' ∧ ∃ E cs, (plainD l).beginE s j i E ∧ cs.size = 25 ∧ cs.all (·.oneCell') = true ∧ e = .returned (.tuple #[.agg cs, .int .i64 E]) := by
  have e : (plainD l).stable.length = n := h.len
  have hSb : S < w.heap.size := (own_lt own S rfl).2
  have hr := rbegin_any S c none 0 0 s j i (plainD l) (by rw [e]; exact h.lo) (fr_small h.ok _) w (by
    intro h0 W hW
    rw [e] at h0 ⊢
    obtain ⟨hrg, hns⟩ := findE_zero h0
    have hbd := rg_bds hrg
    obtain ⟨k, hk⟩ := Int.eq_ofNat_of_zero_le (a := 1 + j) (by omega)
    rw [hk]
    have hkn : k < n := by omega
    have hkl : k < l.length := by rw [h.len]; exact hkn
    have hx := h.sec _ (List.getElem_mem hkl)
    have hS := (own_sec (fun s hs => (h.sec s hs).1) own k hkl).belowAll hW hSb
    refine (rget_any S n c k 0 (-1) l[k] hx.2 hkn h.hi W (Nat.lt_of_lt_of_le hSb hW.size) hS).mono ?_
    rintro e' w' ⟨hb, rfl⟩
    refine ⟨hb, ?_⟩
    have hg := get_fr (plainD l) (k : Int)
    have hrd : (plainD l).reads (k : Int) = l[k] := by
      show l.getD (k : Int).toNat [] = _
      rw [Int.toNat_natCast, List.getD_eq_getElem?_getD, List.getElem?_eq_getElem hkl]; rfl
    have hat : Go.Proofs.YtloddiipepiocaaGreatDoor.atE false l.length (k : Int) = 0 := by
      unfold Go.Proofs.YtloddiipepiocaaGreatDoor.atE
      simp only [Bool.false_eq_true, if_false]
      rw [if_neg (by omega)]
    have h1 : (plainD l).get (k : Int) = (openE k l[k], openV k l[k]) := by
      unfold DevS.get getE getV
      rw [hrd]
      show (if Go.Proofs.YtloddiipepiocaaGreatDoor.atE false l.length (k : Int) = 0 then _ else _, if Go.Proofs.YtloddiipepiocaaGreatDoor.atE false l.length (k : Int) = 0 then _ else _) = _
      rw [if_pos hat, if_pos hat]
    rw [h1] at hg
    have g1 := congrArg Prod.fst hg
    have g2 := congrArg Prod.snd hg
    simp only at g1 g2
    rw [g1, g2]
    rfl)
  rw [e] at hr
  refine Calls.mono hr ?_
  rintro e' w' ⟨hb, E, hE, ⟨h0, rfl⟩ | ⟨h0, g, hg, rfl, -⟩⟩
  · exact ⟨hb, E, txZ, hE, rfl, by simp [txZ, txR, Value.oneCell'], rfl⟩
  · subst h0
    refine ⟨hb, 0, _, hE, ?_, ?_, rfl⟩
    · rfl
    · simp [txR, Value.oneCell']
/-- Save and Same of such a device. -/
theorem save_plain {l : List (List Int)} {n : Nat} (h : Secs l n) (D : Nat) (F : List Nat) (w : World) (hd : DevAt w D F (plainD l)) :
    Calls Tryz.prog 13 #[.pointer (some ⟨D, 0, none⟩)] w fun e w' => ∃ sv cv, e = .returned (.agg #[sv, cv, .int .i64 0, .int .i64 (-1), .bool false]) ∧ w'.ownsRow w.heap.size 42 128 sv n (l.flatMap secV) ∧ w'.ownsRow w.heap.size 111 129 cv 0 [] ∧ Below w.heap.size w w' := by
  obtain ⟨S, c, M, cv, m, -⟩ := hd.mem
  refine (save_any D S c M cv (plainD l) hd.ok w m).mono ?_
  rintro e w' ⟨sv, cv, rfl, o1, o2, hb⟩
  have e : (plainD l).stable.length = n := h.len
  rw [e] at o1
  exact ⟨sv, cv, rfl, o1, o2, hb⟩
theorem same_plain {l : List (List Int)} {n : Nat} (h : Secs l n) (S c b : Nat) (sv cv : Value) (w : World) (own : w.ownsRow 0 42 128 (.slice (some ⟨S, 0, none⟩) n c) n (l.flatMap secV)) (o1 : w.ownsRow b 42 128 sv n (l.flatMap secV)) (o2 : w.ownsRow b 111 129 cv 0 []) :
    Calls Tryz.prog 12 #[.agg #[sv, cv, .int .i64 0, .int .i64 (-1), .bool false], .agg #[.slice (some ⟨S, 0, none⟩) n c, .slice none 0 0, .int .i64 0, .int .i64 (-1), .bool false]] w fun e w' => e = .returned (.bool true) ∧ Below w.heap.size w w' := by
  have hlo := h.lo
  have hhi := h.hi
  have hs := same_eq l (fun s hs => (h.sec s hs).1) (by rw [h.len]; omega) sv cv (.slice (some ⟨S, 0, none⟩) n c) (.slice none 0 0) 0 (-1) false b 0 w (by rw [h.len]; exact o1) (by rw [h.len]; exact own) o2 (World.ownsRow_nil _ _ _ _)
  exact hs

end Go.Proofs.YtloddiipepiocaaGreatDoor
/- Lists of blocks: their errors; plain lists. Which of them are used, or free, already. -/
namespace Go.Proofs.YtloddiipepiocaaGreatDoor
open Go.RowKit

/-- The error at entry k of a list, where those before it had none. -/
def stepE (n : Nat) (l : List Int) (k : Nat) : Int := if l.getD k 0 < 0 ∨ (n : Int) - 1 < l.getD k 0 then 7 else if l.getD k 0 ∈ l.take k then 8 else 0
/-- The error of a list's first k entries. -/
def LsE (n : Nat) (l : List Int) : Nat → Int
  | 0 => 0
  | k + 1 => if LsE n l k = 0 then stepE n l k else LsE n l k
theorem LsE_step {n : Nat} {l : List Int} {k : Nat} (h : LsE n l k = 0) : LsE n l (k + 1) = stepE n l k := by
  show (if _ then _ else _) = _
  rw [if_pos h]
theorem LsE_stay {n : Nat} {l : List Int} {k m : Nat} (h : LsE n l k ≠ 0) (hm : k ≤ m) : LsE n l m = LsE n l k := by
  induction m with
  | zero => have : k = 0 := by omega
            subst this; rfl
  | succ m ih =>
    by_cases hk : k = m + 1
    · subst hk; rfl
    · have := ih (by omega)
      show (if LsE n l m = 0 then _ else _) = _
      rw [if_neg (by rw [this]; exact h), this]
theorem LsE_pre {n : Nat} {l : List Int} {k m : Nat} (h : LsE n l m = 0) (hm : k ≤ m) : LsE n l k = 0 := by
  by_cases h0 : LsE n l k = 0
  · exact h0
  · exact absurd ((LsE_stay h0 hm).symm.trans h) h0
theorem LsE_in {n : Nat} {l : List Int} {m : Nat} (h : LsE n l m = 0) {k : Nat} (hk : k < m) : 0 ≤ l.getD k 0 ∧ l.getD k 0 < n ∧ l.getD k 0 ∉ l.take k := by
  have h1 := LsE_pre h (show k + 1 ≤ m by omega)
  rw [LsE_step (LsE_pre h (show k ≤ m by omega))] at h1
  unfold stepE at h1
  split at h1
  · omega
  · split at h1
    · omega
    · exact ⟨by omega, by omega, by assumption⟩
theorem LsE_all {n : Nat} {l : List Int} (h : LsE n l l.length = 0) : ∀ b ∈ l, 0 ≤ b ∧ b < (n : Int) := by
  intro b hb
  obtain ⟨k, hk, rfl⟩ := List.mem_iff_getElem.1 hb
  have := LsE_in h hk
  rw [List.getD_eq_getElem?_getD, List.getElem?_eq_getElem hk] at this
  exact ⟨this.1, this.2.1⟩
theorem LsE_of {n : Nat} {l : List Int} (h : ∀ k, (hk : k < l.length) → 0 ≤ l[k] ∧ l[k] < (n : Int) ∧ l[k] ∉ l.take k) {m : Nat} (hm : m ≤ l.length) : LsE n l m = 0 := by
  induction m with
  | zero => rfl
  | succ m ih =>
    rw [LsE_step (ih (by omega))]
    obtain ⟨h1, h2, h3⟩ := h m (by omega)
    unfold stepE
    rw [List.getD_eq_getElem?_getD, List.getElem?_eq_getElem (by omega), Option.getD_some, if_neg (by omega), if_neg h3]
theorem setAll_val (us : List Bool) (bl : List Int) (v : Bool) (b : Nat) (hb : b < us.length) (hin : ∀ x ∈ bl, 0 ≤ x) : (setAll us bl v)[b]? = some (if ((b : Nat) : Int) ∈ bl then v else us[b]) := by
  induction bl generalizing us with
  | nil => simp [setAll, hb]
  | cons x bl ih =>
    have hx := hin x (by simp)
    have := ih (us.set x.toNat v) (by simpa using hb) (fun y hy => hin y (by simp [hy]))
    unfold setAll at this ⊢
    rw [List.foldl_cons, this]
    congr 1
    by_cases hm : ((b : Nat) : Int) ∈ bl
    · rw [if_pos hm, if_pos (by simp [hm])]
    · rw [if_neg hm]
      by_cases hxb : x = (b : Int)
      · subst hxb; simp
      · have hne : x.toNat ≠ b := by omega
        have hne2 : ¬ ((b : Int) = x) := fun h => hxb h.symm
        simp [hne, hne2, hm]
/-- The blocks that have been met when k entries have been looked at. -/
def metL (l : List Int) (k : Nat) : List Bool := setAll (List.replicate 256 false) (l.take k) true
theorem metL_length (l : List Int) (k : Nat) : (metL l k).length = 256 := by unfold metL; rw [setAll_length, List.length_replicate]
theorem metL_at {l : List Int} {k n : Nat} (h : LsE n l k = 0) (hk : k ≤ l.length) (b : Nat) (hb : b < 256) : (metL l k).getD b false = decide (((b : Nat) : Int) ∈ l.take k) := by
  unfold metL
  have hin : ∀ x ∈ l.take k, 0 ≤ x := by
    intro x hx
    obtain ⟨p, hp, rfl⟩ := List.mem_iff_getElem.1 hx
    have hpk : p < k := by rw [List.length_take] at hp; omega
    have := (LsE_in h hpk).1
    rw [List.getD_eq_getElem?_getD, List.getElem?_eq_getElem (by omega)] at this
    simpa using this
  rw [List.getD_eq_getElem?_getD, setAll_val _ _ _ b (by rw [List.length_replicate]; exact hb) hin, List.getElem_replicate, Option.getD_some]
  by_cases hm : ((b : Nat) : Int) ∈ l.take k
  · rw [if_pos hm, decide_eq_true hm]
  · rw [if_neg hm, decide_eq_false hm]
theorem metL_step {l : List Int} {k : Nat} (hk : k < l.length) : metL l (k + 1) = (metL l k).set (l[k]).toNat true := setAll_snoc _ _ _ _ hk
/-- Is a block of a list used already, or free? -/
def hasAny (us : List Bool) (l : List Int) (u : Bool) : Bool := l.any fun b => us.getD b.toNat false == u

/-- The error of Take and Free. -/
def TnE (s j i : Int) (us : List Bool) (l : List Int) (u : Bool) (al : Int) : Int :=
  if CkE s j i us.length = 0 then (if LsE us.length l l.length = 0 then (if hasAny us l u = true then al else 0) else LsE us.length l l.length) else CkE s j i us.length
/-- The blocks that they return. -/
def TnU (s j i : Int) (us : List Bool) (l : List Int) (u : Bool) (al : Int) : List Bool := if TnE s j i us l u al = 0 then setAll us l u else us
theorem TnU_length (s j i : Int) (us : List Bool) (l : List Int) (u : Bool) (al : Int) : (TnU s j i us l u al).length = us.length := by
  unfold TnU; split
  · exact setAll_length _ _ _
  · rfl
def TnPost (s j i : Int) (A : Option Addr) (c : Nat) (us : List Bool) (l : List Int) (u : Bool) (al : Int) (w : World) (e : Ending) (w' : World) : Prop :=
  Below w.heap.size w w' ∧ ((TnE s j i us l u al ≠ 0 ∧ e = .returned (.tuple #[.agg #[.int .i64 s, .int .i64 j, .int .i64 i, .slice A us.length c], .int .i64 (TnE s j i us l u al)])) ∨
    (TnE s j i us l u al = 0 ∧ ∃ g cap, e = .returned (.tuple #[.agg #[.int .i64 s, .int .i64 j, .int .i64 i, .slice (some ⟨g, 0, none⟩) us.length cap], .int .i64 0]) ∧
      w'.ownsRow w.heap.size 4 1 (.slice (some ⟨g, 0, none⟩) us.length cap) us.length ((setAll us l u).map .bool)))
theorem TnPost.bad {s j i : Int} {us : List Bool} {l : List Int} {u : Bool} {al E : Int} {w w' : World} {A : Option Addr} {c : Nat} (hE : E ≠ 0) (h : TnE s j i us l u al = E) (hb : Below w.heap.size w w') :
    TnPost s j i A c us l u al w (.returned (.tuple #[.agg #[.int .i64 s, .int .i64 j, .int .i64 i, .slice A us.length c], .int .i64 E])) w' := by
  subst h
  exact ⟨hb, .inl ⟨hE, rfl⟩⟩
/-- .. as a slice that reads. -/
theorem TnPost.form {s j i : Int} {us : List Bool} {l : List Int} {u : Bool} {al : Int} {w w' : World} {A : Option Addr} {c : Nat} {e : Ending} (hR : Reads w A (us.map .bool)) (h : TnPost s j i A c us l u al w e w') :
    Below w.heap.size w w' ∧ ∃ A' c', e = .returned (.tuple #[.agg #[.int .i64 s, .int .i64 j, .int .i64 i, .slice A' (TnU s j i us l u al).length c'], .int .i64 (TnE s j i us l u al)]) ∧ Reads w' A' ((TnU s j i us l u al).map .bool) := by
  obtain ⟨hb, ⟨hE, he⟩ | ⟨hE, g, cap, he, ho⟩⟩ := h
  · refine ⟨hb, A, c, by rw [TnU_length]; exact he, ?_⟩
    unfold TnU
    rw [if_neg hE]
    exact hR.below hb
  · refine ⟨hb, some ⟨g, 0, none⟩, cap, by rw [TnU_length, hE]; exact he, ?_⟩
    unfold TnU
    rw [if_pos hE]
    exact Reads.of_own ho

end Go.Proofs.YtloddiipepiocaaGreatDoor
/- slices.ContainsFunc with the closure of blocks.turn. -/
namespace Go.Proofs.YtloddiipepiocaaGreatDoor
open Go.RowKit

set_option maxRecDepth 100000 in
set_option maxHeartbeats 1000000 in
/-- The closure: is block x used, or free? -/
theorem turn1_any (s j i : Int) (A : Option Addr) (c : Nat) (us : List Bool) (u : Bool) (S U x : Nat) (hx : x < us.length) (hus : us.length ≤ 1000) (w : World) (hR : Reads w A (us.map .bool))
    (bS : Blk w S 53 #[.int .i64 s, .int .i64 j, .int .i64 i, .slice A us.length c]) (bU : Blk w U 4 #[.bool u]) :
    Calls Tryz.prog 188 #[.int .i64 (x : Int), .pointer (some ⟨S, 0, none⟩), .pointer (some ⟨U, 0, none⟩)] w fun e w' => e = .returned (.bool (us.getD x false == u)) ∧ Below w.heap.size w w' := by
  obtain ⟨b, off, rfl, hb, hc⟩ := hR.at_ (k := x) (by simpa using hx)
  rw [List.getElem_map] at hc
  have hg : us.getD x false = us[x] := by simp [List.getD_eq_getElem?_getD, hx]
  rw [hg]
  clear hg
  generalize us[x] = y at hc
  have cS := bS.cells
  have cU := bU.cells
  go_enter Tryz.func188, Tryz.ntmps188
  go_wp2
  go_quiet (fail)
  go_wp2
  go_ret
  exact ⟨rfl, by (repeat' (first | (with_reducible exact Below.refl _ _) | (with_reducible assumption) | (with_reducible refine Below.alloc ?_ ?_ _) | (with_reducible refine Below.drew ?_) | (with_reducible refine below_drewN' ?_ _) | (with_reducible refine Below.setCell ?_ ?_ _) | (with_reducible exact Nat.le_refl _) | omega | (simp; done) | (simp; omega)))⟩

def FinPost (us : List Bool) (l : List Int) (u : Bool) (w : World) (e : Ending) (w' : World) : Prop :=
  Below w.heap.size w w' ∧ ∃ r : Int, e = .returned (.int .i64 r) ∧ (decide (0 ≤ r) = hasAny us l u)

set_option maxRecDepth 100000 in
set_option maxHeartbeats 1000000 in
theorem indexFunc_any (s j i : Int) (A Bl : Option Addr) (c cb : Nat) (us : List Bool) (l : List Int) (u : Bool) (S U : Nat) (hin : ∀ b ∈ l, 0 ≤ b ∧ b < (us.length : Int)) (hus : us.length ≤ 1000) (hl : l.length ≤ 1000) (w : World) (hR : Reads w A (us.map .bool)) (hB : Reads w Bl (l.map (.int .i64)))
    (bS : Blk w S 53 #[.int .i64 s, .int .i64 j, .int .i64 i, .slice A us.length c]) (bU : Blk w U 4 #[.bool u]) :
    Calls Tryz.prog 144 #[.slice Bl l.length cb, .func (.func 188) #[] #[.pointer (some ⟨S, 0, none⟩), .pointer (some ⟨U, 0, none⟩)]] w (FinPost us l u w) := by
  have HIN := Lib.hid hin
  clear hin
  go_enter Tryz.func144, Tryz.ntmps144
  go_wp2_with fail
  go_loopw [5, 8] (fun _ q wr => ∃ k : Nat, k ≤ l.length ∧ q = .int .i64 k ∧ hasAny us (l.take k) u = false ∧ Below w.heap.size w wr) (fun _ q _ => l.length - (intOf q).toNat)
  case atStart => exact ⟨0, Nat.zero_le _, rfl, rfl, Below.refl _ _⟩
  case round =>
    obtain ⟨k, hk, rfl, hno, hnx⟩ := hrel
    by_cases hlt : k < l.length
    · obtain ⟨b, off, rfl, hb, hc⟩ := (hB.below hnx).at_ (k := k) (by simpa using hlt)
      rw [List.getElem_map] at hc
      have hx := HIN.out l[k] (List.getElem_mem hlt)
      have hst : hasAny us (l.take (k + 1)) u = (us.getD l[k].toNat false == u) := by
        rw [List.take_succ_eq_append_getElem hlt]
        unfold hasAny at hno ⊢
        rw [List.any_append, hno]; simp
      have hall : (us.getD l[k].toNat false == u) = true → hasAny us l u = true := fun h => by
        unfold hasAny
        exact List.any_eq_true.2 ⟨l[k], List.getElem_mem hlt, h⟩
      have HST := Lib.hid hst
      have HALL := Lib.hid hall
      clear hst hall hno
      generalize l[k] = x at hc hx HST HALL
      obtain ⟨xn, rfl⟩ := Int.eq_ofNat_of_zero_le hx.1
      simp only [Int.toNat_natCast] at HST HALL
      go_wp2_with fail
      refine (turn1_any s j i A c us u S U xn (by omega) hus _ (hR.below hnx) (bS.belowAll hnx) (bU.belowAll hnx)).mono ?_
      rintro e w2 ⟨rfl, hb2⟩
      have B2 := hnx.trans (hb2.mono hnx.size)
      cases hu : (us.getD xn false == u)
      · go_wp2_with fail
        go_roundw
        case rel => exact ⟨k + 1, by omega, by go_num, by rw [HST.out]; exact hu, B2⟩
        case measure => simp [intOf]; omega
      · go_wp2_with fail
        go_ret
        exact ⟨B2, _, rfl, by rw [HALL.out hu]; simp⟩
    · obtain rfl : k = l.length := by omega
      rw [List.take_length] at hno
      go_wp2_with fail
      go_ret
      exact ⟨hnx, _, rfl, by rw [hno]; rfl⟩

set_option maxHeartbeats 400000 in
theorem containsFunc_any (s j i : Int) (A Bl : Option Addr) (c cb : Nat) (us : List Bool) (l : List Int) (u : Bool) (S U : Nat) (hin : ∀ b ∈ l, 0 ≤ b ∧ b < (us.length : Int)) (hus : us.length ≤ 1000) (hl : l.length ≤ 1000) (w : World) (hR : Reads w A (us.map .bool)) (hB : Reads w Bl (l.map (.int .i64)))
    (bS : Blk w S 53 #[.int .i64 s, .int .i64 j, .int .i64 i, .slice A us.length c]) (bU : Blk w U 4 #[.bool u]) :
    Calls Tryz.prog 81 #[.slice Bl l.length cb, .func (.func 188) #[] #[.pointer (some ⟨S, 0, none⟩), .pointer (some ⟨U, 0, none⟩)]] w fun e w' => e = .returned (.bool (hasAny us l u)) ∧ Below w.heap.size w w' := by
  go_enter Tryz.func81, Tryz.ntmps81
  go_wp2_with fail
  refine (indexFunc_any s j i A Bl c cb us l u S U hin hus hl _ hR hB bS bU).mono ?_
  rintro e w2 ⟨hb2, r, rfl, hr⟩
  have HR := Lib.hid hr
  clear hr
  go_wp2_with fail
  go_ret
  exact ⟨by rw [← HR.out]; rfl, hb2⟩

end Go.Proofs.YtloddiipepiocaaGreatDoor
