/- Parts of the proof, put together by program: Z4, Z5, Z6. -/
import Derived.Test.YtljmdcegcckblaaGreatDoorQuart30
import Derived.Test.YtljmdcegcckblaaGreatDoorQuart32
import Derived.Test.YtljmdcegcckblaaGreatDoorQuart13
/- Layer 12: open. -/
namespace Go.Proofs.YtljmdcegcckblaaGreatDoor
open Go.RowKit Go.Maps

def dopenE (y : TxS) (l : List Int) : Int := if y.stateE ≠ 0 then y.stateE else if 8 < l.length then 3 else LsE y.now.length l l.length
abbrev lsC (T : Nat) (s j i k : Int) (v : Value) : Array Value := #[.pointer (some ⟨T, 0, none⟩), .int .i64 s, .int .i64 j, .int .i64 i, .int .i64 k, v]
abbrev ls0 : Array Value := #[.pointer none, .int .i64 0, .int .i64 0, .int .i64 0, .int .i64 0, .slice none 0 0]
def DopenPost (w : World) (T : Nat) (y : TxS) (k : Int) (l : List Int) (e : Ending) (w' : World) : Prop :=
  Below w.heap.size w w' ∧ ((dopenE y l ≠ 0 ∧ e = .returned (.tuple #[.agg ls0, .int .i64 (dopenE y l)])) ∨
    (dopenE y l = 0 ∧ ∃ v, e = .returned (.tuple #[.agg (lsC T y.s y.j y.i k v), .int .i64 0]) ∧ w'.ownsRow w.heap.size 3 1 v l.length (l.map (.int .i64))))

set_option maxRecDepth 100000 in
set_option maxHeartbeats 2000000 in
theorem dopen_bad (tv : Value) (E k : Int) (sv : Value) (w : World) (h : StE w tv E) (hE : E ≠ 0) :
    Calls Tryz.prog 54 #[tv, .int .i64 k, sv] w fun e w' => e = .returned (.tuple #[.agg ls0, .int .i64 E]) ∧ Below w.heap.size w w' := by
  obtain ⟨wA, hA⟩ : ∃ wA, wA = w.alloc (.cells ls0 96) := ⟨_, rfl⟩
  have bR : Blk wA w.heap.size 96 ls0 := by rw [hA]; exact (by (repeat' (first | (with_reducible assumption) | exact Blk.new' (by simp) | refine Blk.alloc ?_ _)))
  have BA : Below w.heap.size w wA := by rw [hA]; (repeat' (first | (with_reducible exact Below.refl _ _) | (with_reducible assumption) | (with_reducible refine Below.alloc ?_ ?_ _) | (with_reducible refine Below.drew ?_) | (with_reducible refine below_drewN' ?_ _) | (with_reducible refine Below.setCell ?_ ?_ _) | (with_reducible exact Nat.le_refl _) | omega | (simp; done) | (simp; omega)))
  have hbl := blocks_bad tv E wA (h.below BA) hE
  have hE' : (E != 0) = true := by simpa using hE
  clear hE
  go_enter Tryz.func54, Tryz.ntmps54
  go_wp2_with fail
  rw [← hA]
  go_wp2_with fail
  refine hbl.mono ?_
  rintro e w1 ⟨rfl, hb1⟩
  obtain ⟨w2, hw2⟩ : ∃ w2, w2 = w1.alloc (.cells #[.int .i64 0, .int .i64 0, .int .i64 0, .slice none 0 0] 57) := ⟨_, rfl⟩
  have bR2 : Blk w2 w.heap.size 96 ls0 := by rw [hw2]; exact (bR.belowAll hb1).alloc _
  have B2 : Below w.heap.size w w2 := by rw [hw2]; have B1 := BA.trans (hb1.mono BA.size); exact B1.alloc B1.size _
  clear hA hbl bR BA
  have hst := storeRow (ty := 96) (vs := ls0) bR2 rfl (by simp [Value.oneCell']) (by kernel_rfl)
  rw [hw2] at hst
  have lR := bR2.lt
  rw [hw2] at lR
  have HW2 := Lib.hid hw2
  clear hw2 hb1
  go_wp2_with (refine wpList_storeBy rfl _ _ _ rfl _ _ rfl rfl hst ?_)
  rw [← HW2.out]
  have cF := (bR2.setRow (cs' := ls0)).cells
  refine bodyPost_ret (v := .tuple #[.agg ls0, .int .i64 E]) (by simp [results, Tryz.results54, go_sem, cF]) rfl ?_
  exact ⟨rfl, Below.setRow B2 (Nat.le_refl _) _⟩

theorem dopen_ok {y : TxS} {l : List Int} (hs : y.stateE = 0) (h8 : l.length ≤ 8) : dopenE y l = LsE y.now.length l l.length := by unfold dopenE; rw [if_neg (by simpa using hs), if_neg (by omega)]
theorem mem_slI {w : World} {A : Option Addr} {c : Nat} {l : List Int} (h : SlI w A c l) (k : Nat) : Reads w A ((l.take k).map (.int .i64)) := by
  rw [List.map_take]; exact h.reads.take k

set_option maxRecDepth 100000 in
set_option maxHeartbeats 8000000 in
theorem dopen_in (T : Nat) (F : List Nat) (D : Nat) (y : TxS) (kd : Int) (A : Option Addr) (c : Nat) (l : List Int) (hl : l.length ≤ 1000) (w : World) (h : TxAt w T F D y) (hE : y.stateE = 0) (hA : SlI w A c l) :
    Calls Tryz.prog 54 #[.pointer (some ⟨T, 0, none⟩), .int .i64 kd, .slice A l.length c] w (DopenPost w T y kd l) := by
  obtain ⟨wA, hWA⟩ : ∃ wA, wA = w.alloc (.cells ls0 96) := ⟨_, rfl⟩
  have bR : Blk wA w.heap.size 96 ls0 := by rw [hWA]; exact (by (repeat' (first | (with_reducible assumption) | exact Blk.new' (by simp) | refine Blk.alloc ?_ _)))
  have BA : Below w.heap.size w wA := by rw [hWA]; (repeat' (first | (with_reducible exact Below.refl _ _) | (with_reducible assumption) | (with_reducible refine Below.alloc ?_ ?_ _) | (with_reducible refine Below.drew ?_) | (with_reducible refine below_drewN' ?_ _) | (with_reducible refine Below.setCell ?_ ?_ _) | (with_reducible exact Nat.le_refl _) | omega | (simp; done) | (simp; omega)))
  have hbl := blocks_tx T F D y wA (h.below BA) hE
  have hNL : y.now.length ≤ 1000 := by have := h.ok.bds; omega
  have HS := Lib.hid hE
  clear hE
  go_enter Tryz.func54, Tryz.ntmps54
  go_wp2_with fail
  rw [← hWA]
  go_wp2_with fail
  refine hbl.mono ?_
  rintro e w1 ⟨v, rfl, hov, hb1⟩
  obtain ⟨g, cg, rfl⟩ := own_slice hov
  obtain ⟨w2, hw2⟩ : ∃ w2, w2 = w1.alloc (.cells #[.int .i64 y.s, .int .i64 y.j, .int .i64 y.i, .slice g y.now.length cg] 57) := ⟨_, rfl⟩
  have bR2 : Blk w2 w.heap.size 96 ls0 := by rw [hw2]; exact (bR.belowAll hb1).alloc _
  have B1 := BA.trans (hb1.mono BA.size)
  have B2 : Below w.heap.size w w2 := by rw [hw2]; exact B1.alloc B1.size _
  have bS2 : Blk w2 w1.heap.size 57 #[.int .i64 y.s, .int .i64 y.j, .int .i64 y.i, .slice g y.now.length cg] := by rw [hw2]; exact Blk.new _ _ _
  have hA2 := hA.below B2
  have z2 := B2.size
  clear hWA hbl bR BA hov h
  by_cases h8 : 8 < l.length
  · have HX : Hid (dopenE y l = 3) := Lib.hid (by unfold dopenE; rw [if_neg (by simpa using HS.out), if_pos h8])
    have hst := storeRow (ty := 96) (vs := ls0) bR2 rfl (by simp [Value.oneCell']) (by kernel_rfl)
    rw [hw2] at hst
    have lR := bR2.lt
    rw [hw2] at lR
    have HW2 := Lib.hid hw2
    clear hw2 hb1
    have h8' : (8 : Int) < (l.length : Int) := by omega
    clear h8
    go_wp2_with (refine wpList_storeBy rfl _ _ _ rfl _ _ rfl rfl hst ?_)
    rw [← HW2.out]
    have cF := (bR2.setRow (cs' := ls0)).cells
    refine bodyPost_ret (v := .tuple #[.agg ls0, .int .i64 3]) (by simp [results, Tryz.results54, go_sem, cF]) rfl ?_
    exact ⟨Below.setRow B2 (Nat.le_refl _) _, .inl ⟨by rw [HX.out]; decide, by rw [HX.out]⟩⟩
  have HX := Lib.hid (dopen_ok HS.out (by omega : l.length ≤ 8))
  have h8' : ¬ (8 : Int) < (l.length : Int) := by omega
  have c3 : w2.cell? ⟨w1.heap.size, 3, none⟩ = some (.slice g y.now.length cg) := (bS2.cells 3).trans rfl
  have lS2 := bS2.lt
  have lR2 := bR2.lt
  have HW2 := Lib.hid hw2
  rw [hw2] at lR2
  clear hw2 hb1 h8
  go_wp2_with fail
  rw [← HW2.out]
  rw [← HW2.out] at lR2
  have hst := storeRow (ty := 96) (vs := ls0) bR2 rfl (by simp [Value.oneCell']) (by kernel_rfl)
  have HST := Lib.hid hst
  clear hst
  go_loop [27] (fun q => ∃ k : Nat, k ≤ l.length ∧ q = .int .i64 k ∧ LsE y.now.length l k = 0) (fun q => l.length - (intOf q).toNat)
  case atStart => exact ⟨0, Nat.zero_le _, rfl, rfl⟩
  case round =>
    obtain ⟨k, hk, rfl, hLk⟩ := hrel
    by_cases hlt : k < l.length
    · obtain ⟨b, off, rfl, hb, hcx⟩ := hA2.reads.at_ (k := k) (by simpa using hlt)
      rw [List.getElem_map] at hcx
      have hgd : l.getD k 0 = l[k] := by rw [List.getD_eq_getElem?_getD, List.getElem?_eq_getElem hlt]; rfl
      have hstep : LsE y.now.length l (k + 1) = if l[k] < 0 ∨ (y.now.length : Int) - 1 < l[k] then 7 else if l[k] ∈ l.take k then 8 else 0 := by
        rw [LsE_step hLk]; unfold stepE; rw [hgd]
      have hall : LsE y.now.length l (k + 1) ≠ 0 → LsE y.now.length l l.length = LsE y.now.length l (k + 1) := fun h => LsE_stay h (by omega)
      have hin : Hid (Calls Tryz.prog 87 #[.slice (some ⟨b, off, none⟩) k c, .int .i64 l[k]] w2 fun e w' => e = .returned (.bool (decide (l[k] ∈ l.take k))) ∧ w' = w2) := Lib.hid (by
        have h := contains_int (some ⟨b, off, none⟩) c (l.take k) (by rw [List.length_take]; omega) l[k] w2 (mem_slI hA2 k)
        rwa [List.length_take, Nat.min_eq_left hk] at h)
      have HAL := Lib.hid hall
      have HCP : k ≤ c := Nat.le_trans hk hA2.cap
      have HLT := Lib.hid (List.take_subset k l)
      generalize l[k] = x at *
      clear hgd hLk hall
      by_cases p7 : x < 0 ∨ (y.now.length : Int) - 1 < x
      · rw [if_pos p7] at hstep
        have HX7 : Hid (dopenE y l = 7) := Lib.hid (by rw [HX.out, HAL.out (by rw [hstep]; decide), hstep])
        have hst := HST.out
        have h7 : (decide (x < 0) = true) ∨ (decide (x < 0) = false ∧ decide ((y.now.length : Int) ≤ x) = true) := by
          by_cases e : x < 0
          · exact .inl (by simpa using e)
          · exact .inr ⟨by simpa using e, by simp; omega⟩
        clear p7 hstep
        rcases h7 with h7 | ⟨h7, h7'⟩
        all_goals
          go_wp2_with (refine wpList_storeBy rfl _ _ _ rfl _ _ rfl rfl hst ?_)
          have cF := (bR2.setRow (cs' := ls0)).cells
          refine bodyPost_ret (v := .tuple #[.agg ls0, .int .i64 7]) (by simp [results, Tryz.results54, go_sem, cF]) rfl ?_
          exact ⟨Below.setRow B2 (Nat.le_refl _) _, .inl ⟨by rw [HX7.out]; decide, by rw [HX7.out]⟩⟩
      · rw [if_neg p7] at hstep
        have h7 : decide (x < 0) = false := by simp; omega
        have h7' : decide ((y.now.length : Int) ≤ x) = false := by simp; omega
        by_cases p8 : x ∈ l.take k
        · rw [if_pos p8] at hstep
          have HX8 : Hid (dopenE y l = 8) := Lib.hid (by rw [HX.out, HAL.out (by rw [hstep]; decide), hstep])
          have hin := hin.out
          rw [decide_eq_true p8] at hin
          have HST := HST.out
          clear p7 hstep p8
          go_wp2_with fail
          refine hin.mono ?_
          rintro e w' ⟨rfl, rfl⟩
          go_wp2_with (refine wpList_storeBy rfl _ _ _ rfl _ _ rfl rfl HST ?_)
          have cF := (bR2.setRow (cs' := ls0)).cells
          refine bodyPost_ret (v := .tuple #[.agg ls0, .int .i64 8]) (by simp [results, Tryz.results54, go_sem, cF]) rfl ?_
          exact ⟨Below.setRow B2 (Nat.le_refl _) _, .inl ⟨by rw [HX8.out]; decide, by rw [HX8.out]⟩⟩
        · rw [if_neg p8] at hstep
          have hin := hin.out
          rw [decide_eq_false p8] at hin
          have HSP := Lib.hid hstep
          clear p7 hstep p8
          go_wp2_with fail
          refine hin.mono ?_
          rintro e w' ⟨rfl, rfl⟩
          go_wp2_with fail
          go_round
          case rel => exact ⟨k + 1, by omega, by go_num, HSP.out⟩
          case measure => simp [intOf]; omega
    · obtain rfl : k = l.length := by omega
      have HX0 : Hid (dopenE y l = 0) := Lib.hid (by rw [HX.out, hLk])
      have hS : ∀ V, Below w2.heap.size w2 V → V.cell? ⟨w1.heap.size, 0, none⟩ = some (.int .i64 y.s) ∧ V.cell? ⟨w1.heap.size, 1, none⟩ = some (.int .i64 y.j) ∧ V.cell? ⟨w1.heap.size, 2, none⟩ = some (.int .i64 y.i) := fun V hb =>
        ⟨(hb.cell (p := ⟨w1.heap.size, 0, none⟩) lS2).trans ((bS2.cells 0).trans rfl), (hb.cell (p := ⟨w1.heap.size, 1, none⟩) lS2).trans ((bS2.cells 1).trans rfl), (hb.cell (p := ⟨w1.heap.size, 2, none⟩) lS2).trans ((bS2.cells 2).trans rfl)⟩
      have HSS := Lib.hid hS
      clear hS hLk
      go_wp2_with fail
      refine wp_region_mix [.take 0, .take 1, .take 2, .take 3, .take 4, .one 5, .one 6, .one 7, .one 8] 7 (fun V => V.cell? ⟨w1.heap.size, 0, none⟩ = some (.int .i64 y.s) ∧ V.cell? ⟨w1.heap.size, 1, none⟩ = some (.int .i64 y.j) ∧ V.cell? ⟨w1.heap.size, 2, none⟩ = some (.int .i64 y.i)) (by kernel_rfl) (by kernel_rfl) (fun _ _ _ _ _ h => h) (HSS.out _ (Below.refl _ _).drew) ?_
      simp only [List.map_cons, List.map_nil, Ms.fill, List.getD_cons_zero, List.getD_cons_succ]
      iterate 5 (refine mixT_take (by rfl) ?_ (fun w' hw' => ?_) ?_; rotate_left; (focus (go_simp; (try with_reducible rfl))); (try simp only [Act.put, List.setIfInBounds_toArray, List.set_cons_zero, List.set_cons_succ]))
      refine mixT_step (by rfl) fun K hK => ?_
      go_simp
      refine (clone_ints A c l w2.drew (hA2.reads.below (Below.refl _ _).drew) hA2.nil (by omega)).mono ?_
      rintro e w3 ⟨v3, rfl, ho3, hb3⟩
      obtain ⟨a3, c3', rfl⟩ := own_slice ho3
      have B23 : Below w2.heap.size w2 w3 := (Below.refl _ _).drew.trans hb3
      refine hK _ _ (fun _ => HSS.out _ B23) ?_
      clear hK K
      refine mixT_step (by rfl) fun K hK => ?_
      go_simp
      refine hK _ _ (fun _ => HSS.out _ B23) ?_
      clear hK K
      have bR3 := bR2.belowAll B23
      have B3 := B2.trans (B23.mono z2)
      refine mixT_step (by rfl) fun K hK => ?_
      have hst := storeRow (ty := 96) (vs := lsC T y.s y.j y.i kd (.slice a3 l.length c3')) bR3 rfl (by simp [Value.oneCell']) (by kernel_rfl)
      refine op_storeBy _ _ _ rfl _ _ rfl rfl hst ?_
      refine hK _ _ (fun h => absurd h (by decide)) ?_
      clear hK K
      refine mixT_step (by rfl) fun K hK => ?_
      go_simp
      refine hK _ _ (fun h => absurd h (by decide)) ?_
      clear hK K
      refine mixT_nil ?_
      go_wp2_with fail
      have cF := (bR3.setRow (cs' := lsC T y.s y.j y.i kd (.slice a3 l.length c3'))).cells
      refine bodyPost_ret (v := .tuple #[.agg (lsC T y.s y.j y.i kd (.slice a3 l.length c3')), .int .i64 0]) (by simp [results, Tryz.results54, go_sem, cF]) rfl ?_
      refine ⟨Below.setRow B3 (Nat.le_refl _) _, .inr ⟨HX0.out, _, rfl, ?_⟩⟩
      have hb : w.heap.size < w2.heap.size := bR2.lt
      exact own_base (own_block ho3 fun q hq => setRow_other _ _ _ _ (fun e => by have h9 := (ho3.lt q hq).1; rw [e] at h9; exact absurd h9 (by show ¬ w2.heap.size ≤ w.heap.size; omega))) (by show w.heap.size ≤ w2.heap.size; omega)

theorem dopen_tx (T : Nat) (F : List Nat) (D : Nat) (y : TxS) (kd : Int) (A : Option Addr) (c : Nat) (l : List Int) (hl : l.length ≤ 1000) (w : World) (h : TxAt w T F D y) (hA : SlI w A c l) :
    Calls Tryz.prog 54 #[.pointer (some ⟨T, 0, none⟩), .int .i64 kd, .slice A l.length c] w (DopenPost w T y kd l) := by
  by_cases hE : y.stateE = 0
  · exact dopen_in T F D y kd A c l hl w h hE hA
  · refine (dopen_bad _ _ kd _ w h.st hE).mono ?_
    rintro e w' ⟨rfl, hb⟩
    have e1 : dopenE y l = y.stateE := by unfold dopenE; rw [if_pos (by simpa using hE)]
    exact ⟨hb, .inl ⟨by rw [e1]; exact hE, by rw [e1]⟩⟩

end Go.Proofs.YtljmdcegcckblaaGreatDoor
/- Layer 12: sector, part. -/
namespace Go.Proofs.YtljmdcegcckblaaGreatDoor
open Go.RowKit Go.Maps

set_option maxRecDepth 100000 in
set_option maxHeartbeats 2000000 in
theorem sector_ls (Lb T : Nat) (s j i kd : Int) (A : Option Addr) (c : Nat) (l : List Int) (k : Nat) (v : Int) (hv : l[k]? = some v) (_hl : l.length ≤ 1000) (w : World) (b : Blk w Lb 96 (lsC T s j i kd (.slice A l.length c))) (hR : Reads w A (l.map (.int .i64))) :
    Calls Tryz.prog 73 #[.pointer (some ⟨Lb, 0, none⟩), .int .i64 k] w fun e w' => e = .returned (.int .i64 (SecV s j i v)) ∧ Below w.heap.size w w' := by
  obtain ⟨hk, hv'⟩ := List.getElem?_eq_some_iff.1 hv
  obtain ⟨g, off, rfl, hg, hcx⟩ := hR.at_ (k := k) (by simpa using hk)
  rw [List.getElem_map, hv'] at hcx
  obtain ⟨x, rfl⟩ : ∃ x, x = v := ⟨_, rfl⟩
  have lL := b.lt
  have hS : ∀ V, Below w.heap.size w V → V.cell? ⟨Lb, 1, none⟩ = some (.int .i64 s) ∧ V.cell? ⟨Lb, 2, none⟩ = some (.int .i64 j) ∧ V.cell? ⟨Lb, 3, none⟩ = some (.int .i64 i) ∧ V.cell? ⟨Lb, 5, none⟩ = some (.slice (some ⟨g, off, none⟩) l.length c) ∧ V.cell? ⟨g, off + k, none⟩ = some (.int .i64 x) := fun V hb =>
    ⟨(hb.cell (p := ⟨Lb, 1, none⟩) lL).trans ((b.cells 1).trans rfl), (hb.cell (p := ⟨Lb, 2, none⟩) lL).trans ((b.cells 2).trans rfl), (hb.cell (p := ⟨Lb, 3, none⟩) lL).trans ((b.cells 3).trans rfl), (hb.cell (p := ⟨Lb, 5, none⟩) lL).trans ((b.cells 5).trans rfl), (hb.cell (p := ⟨g, off + k, none⟩) hg).trans hcx⟩
  have HSS := Lib.hid hS
  clear hS hv hv' hcx b hR
  go_enter Tryz.func73, Tryz.ntmps73
  go_wp2_with fail
  refine wp_region_mix [.take 0, .take 1, .take 2, .take 3, .take 4, .take 5, .take 6, .take 7, .take 8, .take 9, .take 10, .one 11, .take 12, .take 13, .take 14, .take 15, .take 16] 17 (fun V => V.cell? ⟨Lb, 1, none⟩ = some (.int .i64 s) ∧ V.cell? ⟨Lb, 2, none⟩ = some (.int .i64 j) ∧ V.cell? ⟨Lb, 3, none⟩ = some (.int .i64 i) ∧ V.cell? ⟨Lb, 5, none⟩ = some (.slice (some ⟨g, off, none⟩) l.length c) ∧ V.cell? ⟨g, off + k, none⟩ = some (.int .i64 x)) (by kernel_rfl) (by kernel_rfl) (fun _ _ _ _ _ h => h) (HSS.out _ (Below.refl _ _).drew) ?_
  simp only [List.map_cons, List.map_nil, Ms.fill, List.getD_cons_zero, List.getD_cons_succ]
  iterate 11 (refine mixT_take (by rfl) ?_ (fun w' hw' => ?_) ?_; rotate_left; (focus (go_simp; (try with_reducible rfl))); (try simp only [Act.put, List.setIfInBounds_toArray, List.set_cons_zero, List.set_cons_succ]))
  refine mixT_step (by rfl) fun K hK => ?_
  go_simp
  refine (sector_any s j i x w.drew).mono ?_
  rintro e w1 ⟨rfl, hb1⟩
  have B1 : Below w.heap.size w w1 := (Below.refl _ _).drew.trans hb1
  refine hK _ _ (fun _ => HSS.out _ B1) ?_
  clear hK K
  iterate 5 (refine mixT_take (by rfl) ?_ (fun w' hw' => ?_) ?_; rotate_left; (focus (go_simp; (try with_reducible rfl))); (try simp only [Act.put, List.setIfInBounds_toArray, List.set_cons_zero, List.set_cons_succ]))
  refine mixT_nil ?_
  go_wp2_with fail
  go_ret
  exact ⟨rfl, B1⟩

/-- The part that a block holds. -/
def TxS.part (y : TxS) (x : DevS) (kd b : Int) : ByteArray × Int :=
  if (y.read x (SecV y.s y.j y.i b)).2.2 = 0 ∧ (y.read x (SecV y.s y.j y.i b)).1 ≠ kd then (⟨#[]⟩, 6) else ((y.read x (SecV y.s y.j y.i b)).2.1, (y.read x (SecV y.s y.j y.i b)).2.2)

set_option maxRecDepth 100000 in
set_option maxHeartbeats 2000000 in
theorem part_ls (Lb T : Nat) (F : List Nat) (D : Nat) (y : TxS) (B : List Nat) (x : DevS) (kd : Int) (A : Option Addr) (c : Nat) (l : List Int) (k : Nat) (v : Int) (hv : l[k]? = some v) (hl : l.length ≤ 1000) (w : World) (h : TxAt w T F D y) (hd : DevAt w D B x) (b : Blk w Lb 96 (lsC T y.s y.j y.i kd (.slice A l.length c))) (hR : Reads w A (l.map (.int .i64))) :
    Calls Tryz.prog 55 #[.pointer (some ⟨Lb, 0, none⟩), .int .i64 k] w fun e w' => e = .returned (.tuple #[.string (y.part x kd v).1, .int .i64 (y.part x kd v).2]) ∧ Below w.heap.size w w' := by
  have lL := b.lt
  have hS : ∀ V, Below w.heap.size w V → V.cell? ⟨Lb, 0, none⟩ = some (.pointer (some ⟨T, 0, none⟩)) := fun V hb => (hb.cell (p := ⟨Lb, 0, none⟩) lL).trans ((b.cells 0).trans rfl)
  have HSS := Lib.hid hS
  clear hS
  have HP : Hid (y.part x kd v = if (y.read x (SecV y.s y.j y.i v)).2.2 = 0 ∧ (y.read x (SecV y.s y.j y.i v)).1 ≠ kd then (⟨#[]⟩, 6) else ((y.read x (SecV y.s y.j y.i v)).2.1, (y.read x (SecV y.s y.j y.i v)).2.2)) := Lib.hid rfl
  go_enter Tryz.func55, Tryz.ntmps55
  go_wp2_with fail
  refine wp_region_mix [.take 0, .take 1, .take 2, .take 3, .take 4, .take 5, .one 6, .one 7, .take 8, .take 9, .take 10, .take 11, .take 12, .take 13, .take 14] 15 (fun V => V.cell? ⟨Lb, 0, none⟩ = some (.pointer (some ⟨T, 0, none⟩))) (by kernel_rfl) (by kernel_rfl) (fun _ _ _ _ _ h => h) (HSS.out _ (Below.refl _ _).drew) ?_
  simp only [List.map_cons, List.map_nil, Ms.fill, List.getD_cons_zero, List.getD_cons_succ]
  iterate 6 (refine mixT_take (by rfl) ?_ (fun w' hw' => ?_) ?_; rotate_left; (focus (go_simp; (try with_reducible rfl))); (try simp only [Act.put, List.setIfInBounds_toArray, List.set_cons_zero, List.set_cons_succ]))
  refine mixT_step (by rfl) fun K hK => ?_
  go_simp
  refine (sector_ls Lb T y.s y.j y.i kd A c l k v hv hl w.drew b.drew (hR.below (Below.refl _ _).drew)).mono ?_
  rintro e w1 ⟨rfl, hb1⟩
  have B1 : Below w.heap.size w w1 := (Below.refl _ _).drew.trans hb1
  refine hK _ _ (fun _ => HSS.out _ B1) ?_
  clear hK K
  refine mixT_step (by rfl) fun K hK => ?_
  go_simp
  refine (read_tx T F D y B x _ w1 (h.below B1) (hd.below B1)).mono ?_
  rintro e w2 ⟨rfl, hb2⟩
  have B2 : Below w.heap.size w w2 := B1.trans (hb2.mono B1.size)
  refine hK _ _ (fun _ => HSS.out _ B2) ?_
  clear hK K
  iterate 7 (refine mixT_take (by rfl) ?_ (fun w' hw' => ?_) ?_; rotate_left; (focus (go_simp; (try with_reducible rfl))); (try simp only [Act.put, List.setIfInBounds_toArray, List.set_cons_zero, List.set_cons_succ]))
  refine mixT_nil ?_
  have bb := b.belowAll B2
  have c4 : w2.cell? ⟨Lb, 4, none⟩ = some (.int .i64 kd) := (bb.cells 4).trans rfl
  have lL2 := bb.lt
  clear b bb hR h hd
  generalize y.read x (SecV y.s y.j y.i v) = r at *
  obtain ⟨rk, rd, re⟩ := r
  simp only at HP ⊢
  by_cases h0 : re = 0
  · subst h0
    by_cases hkd : rk = kd
    · have HX : Hid (y.part x kd v = (rd, 0)) := Lib.hid (by rw [HP.out, if_neg (by simp [hkd])])
      have hq : (rk != kd) = false := by simpa using hkd
      clear hkd
      go_wp2_with fail
      go_ret2
      exact ⟨by rw [HX.out]; rfl, B2⟩
    · have HX : Hid (y.part x kd v = (⟨#[]⟩, 6)) := Lib.hid (by rw [HP.out, if_pos ⟨rfl, hkd⟩])
      have hq : (rk != kd) = true := by simpa using hkd
      clear hkd
      go_wp2_with fail
      go_ret2
      exact ⟨by rw [HX.out]; rfl, B2⟩
  · have HX : Hid (y.part x kd v = (rd, re)) := Lib.hid (by rw [HP.out, if_neg (fun hh => h0 hh.1)])
    have hq : (re == 0) = false := by simpa using h0
    clear h0
    go_wp2_with fail
    go_ret2
    exact ⟨by rw [HX.out]; rfl, B2⟩

end Go.Proofs.YtljmdcegcckblaaGreatDoor
/- Layer 12: sized. -/
namespace Go.Proofs.YtljmdcegcckblaaGreatDoor
open Go.RowKit Go.Maps

def sizedE (y : TxS) (l : List Int) (size : Int) (bad long : Bool) : Int :=
  if dopenE y l ≠ 0 then dopenE y l else if (size < 0 ∨ 768 < size) ∨ bad = true then 7 else if long = true then 3 else if (l.length : Int) ≠ (size + 95) / 96 then 6 else 0
def SizedPost (w : World) (T : Nat) (y : TxS) (k : Int) (l : List Int) (size : Int) (bad long : Bool) (e : Ending) (w' : World) : Prop :=
  Below w.heap.size w w' ∧ ((sizedE y l size bad long ≠ 0 ∧ ∃ cs : Array Value, (cs = ls0 ∨ ∃ A c, cs = lsC T y.s y.j y.i k (.slice A l.length c)) ∧ e = .returned (.tuple #[.agg cs, .int .i64 (sizedE y l size bad long)])) ∨
    (sizedE y l size bad long = 0 ∧ ∃ v, e = .returned (.tuple #[.agg (lsC T y.s y.j y.i k v), .int .i64 0]) ∧ w'.ownsRow w.heap.size 3 1 v l.length (l.map (.int .i64))))

set_option maxRecDepth 100000 in
set_option maxHeartbeats 4000000 in
theorem sized_tx (T : Nat) (F : List Nat) (D : Nat) (y : TxS) (kd : Int) (A : Option Addr) (c : Nat) (l : List Int) (hl : l.length ≤ 1000) (size : Int) (bad long : Bool) (hsz : -9223372036854775808 ≤ size ∧ size ≤ 9223372036854775807) (w : World) (h : TxAt w T F D y) (hA : SlI w A c l) :
    Calls Tryz.prog 37 #[.pointer (some ⟨T, 0, none⟩), .int .i64 kd, .slice A l.length c, .int .i64 size, .bool bad, .bool long] w (SizedPost w T y kd l size bad long) := by
  obtain ⟨wA, hWA⟩ : ∃ wA, wA = w.alloc (.cells ls0 96) := ⟨_, rfl⟩
  have bR : Blk wA w.heap.size 96 ls0 := by rw [hWA]; exact (by (repeat' (first | (with_reducible assumption) | exact Blk.new' (by simp) | refine Blk.alloc ?_ _)))
  have BA : Below w.heap.size w wA := by rw [hWA]; (repeat' (first | (with_reducible exact Below.refl _ _) | (with_reducible assumption) | (with_reducible refine Below.alloc ?_ ?_ _) | (with_reducible refine Below.drew ?_) | (with_reducible refine below_drewN' ?_ _) | (with_reducible refine Below.setCell ?_ ?_ _) | (with_reducible exact Nat.le_refl _) | omega | (simp; done) | (simp; omega)))
  have hop := dopen_tx T F D y kd A c l hl wA (h.below BA) (hA.below BA)
  have HSE : Hid (sizedE y l size bad long = if dopenE y l ≠ 0 then dopenE y l else if (size < 0 ∨ 768 < size) ∨ bad = true then 7 else if long = true then 3 else if (l.length : Int) ≠ (size + 95) / 96 then 6 else 0) := Lib.hid rfl
  clear h hA
  go_enter Tryz.func37, Tryz.ntmps37
  go_wp2_with fail
  rw [← hWA]
  go_wp2_with fail
  refine hop.mono ?_
  rintro e w1 ⟨hb1, hpost⟩
  have B1 := BA.trans (hb1.mono BA.size)
  have bR1 := bR.belowAll hb1
  have HZA : Hid (w.heap.size + 1 = wA.heap.size) := Lib.hid (by rw [hWA]; simp)
  clear hop hWA hb1 bR BA
  rcases hpost with ⟨hne, rfl⟩ | ⟨h0, v, rfl, hov⟩
  · have HX : Hid (sizedE y l size bad long = dopenE y l) := Lib.hid (by rw [HSE.out, if_pos hne])
    generalize dopenE y l = E at *
    have HN := Lib.hid hne
    have hE' : (E != 0) = true := by simpa using hne
    clear hne
    obtain ⟨w2, hw2⟩ : ∃ w2, w2 = w1.alloc (.cells ls0 96) := ⟨_, rfl⟩
    have bR2 : Blk w2 w.heap.size 96 ls0 := by rw [hw2]; exact bR1.alloc _
    have bL2 : Blk w2 w1.heap.size 96 ls0 := by rw [hw2]; exact Blk.new _ _ _
    have B2 : Below w.heap.size w w2 := by rw [hw2]; exact B1.alloc B1.size _
    have lL := bL2.lt
    have lR := bR2.lt
    have HST := storeRow (ty := 96) (vs := ls0) bR2 rfl (by simp [Value.oneCell']) (by kernel_rfl)
    have cL := bL2.cells
    rw [hw2] at cL lL lR HST
    have HW2 := Lib.hid hw2
    have hlt : w.heap.size < w1.heap.size := bR1.lt
    clear hw2
    go_wp2_with (refine wpList_storeBy rfl _ _ _ rfl _ _ rfl rfl HST ?_)
    rw [← HW2.out]
    have cF := (bR2.setRow (cs' := ls0)).cells
    refine bodyPost_ret (v := .tuple #[.agg ls0, .int .i64 E]) (by simp [results, Tryz.results37, go_sem, cF]) rfl ?_
    exact ⟨Below.setRow B2 (Nat.le_refl _) _, .inl ⟨by rw [HX.out]; exact HN.out, ls0, .inl rfl, by rw [HX.out]⟩⟩
  obtain ⟨a3, c3, rfl⟩ := own_slice hov
  obtain ⟨w2, hw2⟩ : ∃ w2, w2 = w1.alloc (.cells (lsC T y.s y.j y.i kd (.slice a3 l.length c3)) 96) := ⟨_, rfl⟩
  have bR2 : Blk w2 w.heap.size 96 ls0 := by rw [hw2]; exact bR1.alloc _
  have bL2 : Blk w2 w1.heap.size 96 (lsC T y.s y.j y.i kd (.slice a3 l.length c3)) := by rw [hw2]; exact Blk.new _ _ _
  have B2 : Below w.heap.size w w2 := by rw [hw2]; exact B1.alloc B1.size _
  have ho2 : w2.ownsRow wA.heap.size 3 1 (.slice a3 l.length c3) l.length (l.map (.int .i64)) := by rw [hw2]; exact own_below (W := w1) hov ((Below.refl _ _).alloc (Nat.le_refl _) _)
  have lL := bL2.lt
  have lR := bR2.lt
  have HST := storeRow (ty := 96) (vs := lsC T y.s y.j y.i kd (.slice a3 l.length c3)) bR2 rfl (by simp [Value.oneCell']) (by kernel_rfl)
  have cL := bL2.cells
  rw [hw2] at cL lL lR HST
  have HW2 := Lib.hid hw2
  have hlt : w.heap.size < w1.heap.size := bR1.lt
  clear hw2
  have hso : sizedE y l size bad long = if (size < 0 ∨ 768 < size) ∨ bad = true then 7 else if long = true then 3 else if (l.length : Int) ≠ (size + 95) / 96 then 6 else 0 := by rw [HSE.out, if_neg (by simpa using h0)]
  have HSO := Lib.hid hso
  clear hso h0
  by_cases p7 : (size < 0 ∨ 768 < size) ∨ bad = true
  · have HX : Hid (sizedE y l size bad long = 7) := Lib.hid (by rw [HSO.out, if_pos p7])
    have h7 : (decide (size < 0) = true) ∨ (decide (size < 0) = false ∧ decide (768 < size) = true) ∨ (decide (size < 0) = false ∧ decide (768 < size) = false ∧ bad = true) := by
      by_cases e1 : size < 0
      · exact .inl (by simpa using e1)
      · by_cases e2 : 768 < size
        · exact .inr (.inl ⟨by simpa using e1, by simpa using e2⟩)
        · exact .inr (.inr ⟨by simpa using e1, by simpa using e2, by rcases p7 with h | h; omega; exact h⟩)
    clear p7
    rcases h7 with h7 | ⟨h7, h7'⟩ | ⟨h7, h7', rfl⟩
    all_goals
      go_wp2_with (refine wpList_storeBy rfl _ _ _ rfl _ _ rfl rfl HST ?_)
      rw [← HW2.out]
      have cF := (bR2.setRow (cs' := lsC T y.s y.j y.i kd (.slice a3 l.length c3))).cells
      refine bodyPost_ret (v := .tuple #[.agg (lsC T y.s y.j y.i kd (.slice a3 l.length c3)), .int .i64 7]) (by simp [results, Tryz.results37, go_sem, cF]) rfl ?_
      exact ⟨Below.setRow B2 (Nat.le_refl _) _, .inl ⟨by rw [HX.out]; decide, lsC T y.s y.j y.i kd (.slice a3 l.length c3), .inr ⟨_, _, rfl⟩, by rw [HX.out]⟩⟩
  have h7 : decide (size < 0) = false := by simp; omega
  have h7' : decide (768 < size) = false := by simp; omega
  obtain rfl : bad = false := by cases bad; rfl; exact absurd (.inr rfl) p7
  cases long
  rotate_left
  · have HX : Hid (sizedE y l size false true = 3) := Lib.hid (by rw [HSO.out, if_neg p7, if_pos rfl])
    clear p7
    go_wp2_with (refine wpList_storeBy rfl _ _ _ rfl _ _ rfl rfl HST ?_)
    rw [← HW2.out]
    have cF := (bR2.setRow (cs' := lsC T y.s y.j y.i kd (.slice a3 l.length c3))).cells
    refine bodyPost_ret (v := .tuple #[.agg (lsC T y.s y.j y.i kd (.slice a3 l.length c3)), .int .i64 3]) (by simp [results, Tryz.results37, go_sem, cF]) rfl ?_
    exact ⟨Below.setRow B2 (Nat.le_refl _) _, .inl ⟨by rw [HX.out]; decide, lsC T y.s y.j y.i kd (.slice a3 l.length c3), .inr ⟨_, _, rfl⟩, by rw [HX.out]⟩⟩
  have hs0 : 0 ≤ size := by omega
  have hs1 : size ≤ 768 := by omega
  by_cases p6 : (l.length : Int) ≠ (size + 95) / 96
  · have HX : Hid (sizedE y l size false false = 6) := Lib.hid (by rw [HSO.out, if_neg p7, if_neg (by decide), if_pos p6])
    have hq : ((l.length : Int) != (size + 96 - 1) / 96) = true := by simp; omega
    clear p7 p6
    go_wp2_with (refine wpList_storeBy rfl _ _ _ rfl _ _ rfl rfl HST ?_)
    rw [← HW2.out]
    have cF := (bR2.setRow (cs' := lsC T y.s y.j y.i kd (.slice a3 l.length c3))).cells
    refine bodyPost_ret (v := .tuple #[.agg (lsC T y.s y.j y.i kd (.slice a3 l.length c3)), .int .i64 6]) (by simp [results, Tryz.results37, go_sem, cF]) rfl ?_
    exact ⟨Below.setRow B2 (Nat.le_refl _) _, .inl ⟨by rw [HX.out]; decide, lsC T y.s y.j y.i kd (.slice a3 l.length c3), .inr ⟨_, _, rfl⟩, by rw [HX.out]⟩⟩
  · have HX : Hid (sizedE y l size false false = 0) := Lib.hid (by rw [HSO.out, if_neg p7, if_neg (by decide), if_neg p6])
    have hq : ((l.length : Int) != (size + 96 - 1) / 96) = false := by simp; omega
    clear p7 p6
    go_wp2_with (refine wpList_storeBy rfl _ _ _ rfl _ _ rfl rfl HST ?_)
    rw [← HW2.out]
    have cF := (bR2.setRow (cs' := lsC T y.s y.j y.i kd (.slice a3 l.length c3))).cells
    refine bodyPost_ret (v := .tuple #[.agg (lsC T y.s y.j y.i kd (.slice a3 l.length c3)), .int .i64 0]) (by simp [results, Tryz.results37, go_sem, cF]) rfl ?_
    have zA1 : w.heap.size < wA.heap.size := by rw [← HZA.out]; omega
    refine ⟨Below.setRow B2 (Nat.le_refl _) _, .inr ⟨HX.out, _, rfl, ?_⟩⟩
    exact own_base (own_block ho2 fun q hq => setRow_other _ _ _ _ (fun e => by have h9 := (ho2.lt q hq).1; omega)) (by omega)

end Go.Proofs.YtljmdcegcckblaaGreatDoor
