/- Parts of the proof, put together by program: CE, CF, CG, A3, R3, R4. -/
import Derived.Test.YtloddiipepiocaaGreatDoorPart28
import Derived.Test.YtloddiipepiocaaGreatDoorPart01
import Derived.Test.YtloddiipepiocaaGreatDoorPart25
set_option linter.unusedVariables false
set_option linter.unusedSimpArgs false
/- Layer 6, the reference: Reads walked (of a state without a cache). -/
namespace Go.Proofs.YtloddiipepiocaaGreatDoor
open Go.RowKit Go.Maps

theorem SecAt.belowAll {B : Nat} {w w' : World} {p : Addr} {xs : List Int} (h : SecAt w p xs) (hb : Below B w w') (hp : p.block < B) : SecAt w' p xs :=
  ⟨h.1, h.2.1, fun j hj => (hb.cell (p := ⟨p.block, p.off + j, none⟩) hp).trans (h.2.2 j hj)⟩

set_option maxRecDepth 100000 in
set_option maxHeartbeats 1000000 in
theorem rreads_any (S n c k : Nat) (tk pw : Int) (off : Bool) (xs : List Int) (hk : k < n) (hn : n ≤ 256) (w : World) (hSb : S < w.heap.size) (hS : SecAt w ⟨S, k * 128, none⟩ xs) :
    Calls Tryz.prog 157 #[.agg (stateC (.slice (some ⟨S, 0, none⟩) n c) (.slice none 0 0) tk pw off), .int .i64 k] w fun e w' => e = .returned (.agg (bytesV xs)) ∧ Below w.heap.size w w' := by
  have hz := zeroSector
  have hxl := hS.1
  obtain ⟨w0, hw0⟩ : ∃ w0, w0 = (w.alloc (.cells (stateC (.slice (some ⟨S, 0, none⟩) n c) (.slice none 0 0) tk pw off) 33)).alloc (.cells (bytesV zsec) 42) := ⟨_, rfl⟩
  have bD : Blk w0 w.heap.size 33 (stateC (.slice (some ⟨S, 0, none⟩) n c) (.slice none 0 0) tk pw off) := by rw [hw0]; exact (Blk.new _ _ _).alloc _
  have bR : Blk w0 (w.heap.size + 1) 42 (bytesV zsec) := by rw [hw0]; exact Blk.new' (by simp)
  have B0 : Below w.heap.size w w0 := by rw [hw0]; (repeat' (first | (with_reducible exact Below.refl _ _) | (with_reducible assumption) | (with_reducible refine Below.alloc ?_ ?_ _) | (with_reducible refine Below.drew ?_) | (with_reducible refine below_drewN' ?_ _) | (with_reducible refine Below.setCell ?_ ?_ _) | (with_reducible exact Nat.le_refl _) | omega | (simp; done) | (simp; omega)))
  have hS0 := hS.belowAll B0 hSb
  unfold stateC at *
  go_enter Tryz.func157, Tryz.ntmps157
  go_upto_region 1 with fail
  rw [← hw0]
  clear hw0
  have cD := bD.cells
  have lD := bD.lt
  have hkn : (k : Int) < n := by omega
  have bT : Blk (w0.alloc (.cells (bytesV zsec) 42)) w0.heap.size 42 (bytesV zsec) := Blk.new _ _ _
  go_wp2_with (first
    | (refine wpList_loadSecAny rfl _ rfl ⟨S, k * 128, none⟩ (by first | rfl | simp) hS0 ?_)
    | (refine wpList_storeSec rfl _ _ rfl w0.heap.size xs rfl rfl bT zsec_length hxl ?_; obtain ⟨W1, hW1⟩ : ∃ W1, W1 = World.setRow (w0.alloc (.cells (bytesV zsec) 42)) w0.heap.size (bytesV xs) := ⟨_, rfl⟩; rw [← hW1]; have hB1 : Below w0.heap.size w0 W1 := (by rw [hW1]; exact Below.setRow ((Below.refl _ _).alloc (Nat.le_refl _) _) (Nat.le_refl _) _); have bT1 : Blk W1 w0.heap.size 42 (bytesV xs) := (by rw [hW1]; exact Blk.setRow bT); have bD1 := bD.belowAll hB1; have bR1 := bR.belowAll hB1; have cD1 := bD1.cells; have B1 : Below w.heap.size w W1 := B0.trans (hB1.mono B0.size); clear hW1 hB1))
  have l0 := bT1.lt
  have lD1 := bD1.lt
  go_loopw [6] (fun q wr => q = .int .i64 0 ∧ wr = W1) (fun _ _ => 0)
  case atStart => exact ⟨rfl, rfl⟩
  case round =>
    obtain ⟨rfl, hw⟩ := hrel
    subst hw
    go_wp2_with (first
      | (refine wpList_loadSec rfl _ rfl w0.heap.size rfl bT1 hxl ?_)
      | (refine wpList_storeSec rfl _ _ rfl (w.heap.size + 1) xs rfl rfl bR1 zsec_length hxl ?_))
    have bR2 := bR1.setRow (cs' := bytesV xs)
    refine bodyPost_ret (results_cell_row rfl _ _ (w.heap.size + 1) 42 (bytesV xs) (0, 0) _ rfl bR2 Tryz.underlying42 rfl (by rw [bytesV_size, hxl]; exact sizeSector)) rfl ?_
    exact ⟨rfl, Below.setRow B1 (by omega) _⟩

end Go.Proofs.YtloddiipepiocaaGreatDoor
/- Layer 6 and 7, the reference: Read and Get walked (of a state without a cache, a sector that is there). -/
namespace Go.Proofs.YtloddiipepiocaaGreatDoor
open Go.RowKit Go.Maps

set_option maxRecDepth 100000 in
set_option maxHeartbeats 1000000 in
theorem rread_any (S n c k : Nat) (tk pw : Int) (xs : List Int) (hk : k < n) (hn : n ≤ 256) (w : World) (hSb : S < w.heap.size) (hS : SecAt w ⟨S, k * 128, none⟩ xs) :
    Calls Tryz.prog 94 #[.agg (stateC (.slice (some ⟨S, 0, none⟩) n c) (.slice none 0 0) tk pw false), .int .i64 k] w fun e w' => e = .returned (.tuple #[.agg (bytesV xs), .int .i64 0]) ∧ Below w.heap.size w w' := by
  have hz := zeroSector
  have hxl := hS.1
  obtain ⟨w0, hw0⟩ : ∃ w0, w0 = (w.alloc (.cells (stateC (.slice (some ⟨S, 0, none⟩) n c) (.slice none 0 0) tk pw false) 33)).alloc (.cells (bytesV zsec) 42) := ⟨_, rfl⟩
  have bD : Blk w0 w.heap.size 33 (stateC (.slice (some ⟨S, 0, none⟩) n c) (.slice none 0 0) tk pw false) := by rw [hw0]; exact (Blk.new _ _ _).alloc _
  have bR : Blk w0 (w.heap.size + 1) 42 (bytesV zsec) := by rw [hw0]; exact Blk.new' (by simp)
  have B0 : Below w.heap.size w w0 := by rw [hw0]; (repeat' (first | (with_reducible exact Below.refl _ _) | (with_reducible assumption) | (with_reducible refine Below.alloc ?_ ?_ _) | (with_reducible refine Below.drew ?_) | (with_reducible refine below_drewN' ?_ _) | (with_reducible refine Below.setCell ?_ ?_ _) | (with_reducible exact Nat.le_refl _) | omega | (simp; done) | (simp; omega)))
  have hS0 := hS.belowAll B0 hSb
  have hr := rreads_any S n c k tk pw false xs hk hn w0 (Nat.lt_of_lt_of_le hSb B0.size) hS0
  unfold stateC at *
  go_enter Tryz.func94, Tryz.ntmps94
  go_upto_region 1 with fail
  rw [← hw0]
  clear hw0
  have cD := bD.cells
  have lD := bD.lt
  have hkn : ¬ (n : Int) ≤ k := by omega
  have hk0 : ¬ (k : Int) < 0 := by omega
  go_wp2_with fail
  refine hr.mono ?_
  rintro e w1 ⟨rfl, hb1⟩
  have bR1 := bR.belowAll hb1
  have B1 := B0.trans (hb1.mono B0.size)
  go_wp2_with (refine wpList_storeSec rfl _ _ rfl (w.heap.size + 1) xs rfl rfl bR1 zsec_length hxl ?_)
  refine bodyPost_ret (results_sec rfl rfl rfl (bR1.setRow (cs' := bytesV xs)) hxl) rfl ?_
  exact ⟨rfl, Below.setRow B1 (by omega) _⟩

theorem openV_row (a : Int) (xs : List Int) : ∃ x y z, openV a xs = #[.int .i64 x, .int .u32 y, .string z] := by
  unfold openV
  split
  · exact ⟨_, _, _, rfl⟩
  · exact ⟨_, _, _, rfl⟩

set_option maxRecDepth 100000 in
set_option maxHeartbeats 1000000 in
theorem rget_any (S n c k : Nat) (tk pw : Int) (xs : List Int) (hbx : Bytes xs) (hk : k < n) (hn : n ≤ 256) (w : World) (hSb : S < w.heap.size) (hS : SecAt w ⟨S, k * 128, none⟩ xs) :
    Calls Tryz.prog 46 #[.agg (stateC (.slice (some ⟨S, 0, none⟩) n c) (.slice none 0 0) tk pw false), .int .i64 k] w (OpenPost k xs w) := by
  have hz := zeroSector
  have hxl := hS.1
  obtain ⟨w0, hw0⟩ : ∃ w0, w0 = (w.alloc (.cells (stateC (.slice (some ⟨S, 0, none⟩) n c) (.slice none 0 0) tk pw false) 33)).alloc (.cells #[Value.int .i64 0, Value.int .u32 0, Value.string ⟨#[]⟩] 26) := ⟨_, rfl⟩
  have bD : Blk w0 w.heap.size 33 (stateC (.slice (some ⟨S, 0, none⟩) n c) (.slice none 0 0) tk pw false) := by rw [hw0]; exact (Blk.new _ _ _).alloc _
  have bR : Blk w0 (w.heap.size + 1) 26 #[Value.int .i64 0, Value.int .u32 0, Value.string ⟨#[]⟩] := by rw [hw0]; exact Blk.new' (by simp)
  have B0 : Below w.heap.size w w0 := by rw [hw0]; (repeat' (first | (with_reducible exact Below.refl _ _) | (with_reducible assumption) | (with_reducible refine Below.alloc ?_ ?_ _) | (with_reducible refine Below.drew ?_) | (with_reducible refine below_drewN' ?_ _) | (with_reducible refine Below.setCell ?_ ?_ _) | (with_reducible exact Nat.le_refl _) | omega | (simp; done) | (simp; omega)))
  have hS0 := hS.belowAll B0 hSb
  have hr := rread_any S n c k tk pw xs hk hn w0 (Nat.lt_of_lt_of_le hSb B0.size) hS0
  unfold stateC at *
  go_enter Tryz.func46, Tryz.ntmps46
  go_upto_region 1 with fail
  rw [← hw0]
  clear hw0
  have cD := bD.cells
  have lD := bD.lt
  go_wp2_with fail
  refine hr.mono ?_
  rintro e w1 ⟨rfl, hb1⟩
  have bR1 := bR.belowAll hb1
  have B1 := B0.trans (hb1.mono B0.size)
  have bT : Blk (w1.alloc (.cells (bytesV zsec) 42)) w1.heap.size 42 (bytesV zsec) := Blk.new _ _ _
  go_wp2_with (first
    | (refine wpList_loadSec rfl _ rfl w1.heap.size rfl bT2 hxl ?_)
    | (refine wpList_storeSec rfl _ _ rfl w1.heap.size xs rfl rfl bT zsec_length hxl ?_; obtain ⟨W2, hW2⟩ : ∃ W2, W2 = World.setRow (w1.alloc (.cells (bytesV zsec) 42)) w1.heap.size (bytesV xs) := ⟨_, rfl⟩; rw [← hW2]; have hB2 : Below w1.heap.size w1 W2 := (by rw [hW2]; exact Below.setRow ((Below.refl _ _).alloc (Nat.le_refl _) _) (Nat.le_refl _) _); have bT2 : Blk W2 w1.heap.size 42 (bytesV xs) := (by rw [hW2]; exact Blk.setRow bT); have bR2 := bR1.belowAll hB2; have B2 : Below w.heap.size w W2 := B1.trans (hB2.mono B1.size); clear hW2 hB2))
  refine (ropen_any k xs hxl hbx _).mono ?_
  rintro e w3 ⟨hb3, rfl⟩
  have bR3 := bR2.belowAll hb3
  have B3 := B2.trans (hb3.mono B2.size)
  obtain ⟨x, y, z, hv⟩ := openV_row k xs
  have cR := bR3.cells
  have fR := bR3.free
  have lR := bR3.lt
  have HV := Lib.hid hv
  rw [hv]
  generalize hE : openE k xs = E
  have HE := Lib.hid hE
  clear hv hE
  go_wp2_with fail
  refine bodyPost_ret (v := .tuple #[.agg #[.int .i64 x, .int .u32 y, .string z], .int .i64 E]) (by simp [results, Tryz.results46, go_sem, cR, lR]) rfl ?_
  exact ⟨by (repeat' (first | (with_reducible exact Below.refl _ _) | (with_reducible assumption) | (with_reducible refine Below.alloc ?_ ?_ _) | (with_reducible refine Below.drew ?_) | (with_reducible refine below_drewN' ?_ _) | (with_reducible refine Below.setCell ?_ ?_ _) | (with_reducible exact Nat.le_refl _) | omega | (simp; done) | (simp; omega))), by rw [HV.out, HE.out]⟩

end Go.Proofs.YtloddiipepiocaaGreatDoor
/- Layer 10, the reference: fits walked. -/
namespace Go.Proofs.YtloddiipepiocaaGreatDoor
open Go.RowKit Go.Maps

/-- The error of a device and a layout. -/
def fitE (n : Nat) (s j i : Int) : Int := if rgE s j i = 0 ∧ (n : Int) ≠ s then 6 else rgE s j i

set_option maxRecDepth 100000 in
set_option maxHeartbeats 1000000 in
theorem rfits_any (cv : Value) (S n c : Nat) (tk pw s j i : Int) (off : Bool) (w : World) :
    Calls Tryz.prog 45 #[.agg (stateC (.slice (some ⟨S, 0, none⟩) n c) cv tk pw off), .agg #[.int .i64 s, .int .i64 j, .int .i64 i]] w fun e w' => Below w.heap.size w w' ∧ e = .returned (.tuple #[rgV s j i, .int .i64 (fitE n s j i)]) := by
  obtain ⟨w0, hw0⟩ : ∃ w0, w0 = ((w.alloc (.cells (stateC (.slice (some ⟨S, 0, none⟩) n c) cv tk pw off) 33)).alloc (.cells #[.int .i64 s, .int .i64 j, .int .i64 i] 23)).alloc (.cells #[.int .i64 0, .int .i64 0, .int .i64 0, .int .i64 0, .int .i64 0] 38) := ⟨_, rfl⟩
  have bD : Blk w0 w.heap.size 33 (stateC (.slice (some ⟨S, 0, none⟩) n c) cv tk pw off) := by rw [hw0]; exact ((Blk.new _ _ _).alloc _).alloc _
  have bL : Blk w0 (w.heap.size + 1) 23 #[.int .i64 s, .int .i64 j, .int .i64 i] := by rw [hw0]; exact (Blk.new' (by simp)).alloc _
  have bR : Blk w0 (w.heap.size + 2) 38 #[.int .i64 0, .int .i64 0, .int .i64 0, .int .i64 0, .int .i64 0] := by rw [hw0]; exact Blk.new' (by simp)
  have B0 : Below w.heap.size w w0 := by rw [hw0]; (repeat' (first | (with_reducible exact Below.refl _ _) | (with_reducible assumption) | (with_reducible refine Below.alloc ?_ ?_ _) | (with_reducible refine Below.drew ?_) | (with_reducible refine below_drewN' ?_ _) | (with_reducible refine Below.setCell ?_ ?_ _) | (with_reducible exact Nat.le_refl _) | omega | (simp; done) | (simp; omega)))
  unfold stateC at *
  go_enter Tryz.func45, Tryz.ntmps45
  go_upto_region 1 with fail
  rw [← hw0]
  clear hw0
  have cD := bD.cells
  have cL := bL.cells
  have lD := bD.lt
  have lL := bL.lt
  go_wp2_with fail
  refine (regionsR_any s j i w0).mono ?_
  rintro e w1 ⟨rfl, hb1⟩
  have bD1 := bD.belowAll hb1
  have bL1 := bL.belowAll hb1
  have bR1 := bR.belowAll hb1
  have B1 := B0.trans (hb1.mono B0.size)
  have cD := bD1.cells
  have cL := bL1.cells
  have cR := bR1.cells
  have fR := bR1.free
  have lD := bD1.lt
  have lL := bL1.lt
  have lR := bR1.lt
  have hfe : fitE n s j i = if rgE s j i = 0 ∧ (n : Int) ≠ s then 6 else rgE s j i := rfl
  obtain ⟨a1, a2, a3, a4, a5, hv⟩ : ∃ a1 a2 a3 a4 a5 : Int, rgV s j i = .agg #[.int .i64 a1, .int .i64 a2, .int .i64 a3, .int .i64 a4, .int .i64 a5] := ⟨_, _, _, _, _, rfl⟩
  have HV := Lib.hid hv
  rw [hv]
  clear hv
  generalize rgE s j i = E at hfe ⊢
  by_cases hE : E = 0
  · subst hE
    by_cases hns : (n : Int) = s
    · rw [if_neg (by simp [hns])] at hfe
      have hd : ((n : Int) != s) = false := by simpa using hns
      have HF := Lib.hid hfe
      clear hfe hns
      go_wp2_with fail
      refine bodyPost_ret (v := .tuple #[.agg #[.int .i64 a1, .int .i64 a2, .int .i64 a3, .int .i64 a4, .int .i64 a5], .int .i64 0]) (by simp [results, Tryz.results45, go_sem, cR, lR]) rfl ?_
      exact ⟨by (repeat' (first | (with_reducible exact Below.refl _ _) | (with_reducible assumption) | (with_reducible refine Below.alloc ?_ ?_ _) | (with_reducible refine Below.drew ?_) | (with_reducible refine below_drewN' ?_ _) | (with_reducible refine Below.setCell ?_ ?_ _) | (with_reducible exact Nat.le_refl _) | omega | (simp; done) | (simp; omega))), by rw [HV.out, HF.out]⟩
    · rw [if_pos ⟨rfl, hns⟩] at hfe
      have hd : ((n : Int) != s) = true := by simpa using hns
      have HF := Lib.hid hfe
      clear hfe hns
      go_wp2_with fail
      refine bodyPost_ret (v := .tuple #[.agg #[.int .i64 a1, .int .i64 a2, .int .i64 a3, .int .i64 a4, .int .i64 a5], .int .i64 6]) (by simp [results, Tryz.results45, go_sem, cR, lR]) rfl ?_
      exact ⟨by (repeat' (first | (with_reducible exact Below.refl _ _) | (with_reducible assumption) | (with_reducible refine Below.alloc ?_ ?_ _) | (with_reducible refine Below.drew ?_) | (with_reducible refine below_drewN' ?_ _) | (with_reducible refine Below.setCell ?_ ?_ _) | (with_reducible exact Nat.le_refl _) | omega | (simp; done) | (simp; omega))), by rw [HV.out, HF.out]⟩
  · rw [if_neg (by simp [hE])] at hfe
    have hd : (E == 0) = false := by simpa using hE
    have HF := Lib.hid hfe
    clear hfe hE
    go_wp2_with fail
    refine bodyPost_ret (v := .tuple #[.agg #[.int .i64 a1, .int .i64 a2, .int .i64 a3, .int .i64 a4, .int .i64 a5], .int .i64 E]) (by simp [results, Tryz.results45, go_sem, cR, lR]) rfl ?_
    exact ⟨by (repeat' (first | (with_reducible exact Below.refl _ _) | (with_reducible assumption) | (with_reducible refine Below.alloc ?_ ?_ _) | (with_reducible refine Below.drew ?_) | (with_reducible refine below_drewN' ?_ _) | (with_reducible refine Below.setCell ?_ ?_ _) | (with_reducible exact Nat.le_refl _) | omega | (simp; done) | (simp; omega))), by rw [HV.out, HF.out]⟩

end Go.Proofs.YtloddiipepiocaaGreatDoor
/- ref free. -/
namespace Go.Proofs.YtloddiipepiocaaGreatDoor
open Go.RowKit

def nfree (us : List Bool) : Nat := us.countP (!·)
theorem nfree_le (us : List Bool) : nfree us ≤ us.length := List.countP_le_length
theorem nfree_snoc (us : List Bool) (k : Nat) (h : k < us.length) : nfree (us.take (k + 1)) = nfree (us.take k) + if us[k] = false then 1 else 0 := by
  unfold nfree
  rw [List.take_succ_eq_append_getElem h, List.countP_append]
  cases us[k] <;> simp

set_option maxHeartbeats 400000 in
theorem rfree_any (s j i : Int) (A : Option Addr) (c : Nat) (us : List Bool) (w : World) (hR : Reads w A (us.map .bool)) (hn : us.length ≤ 1000) :
    Calls Tryz.prog 179 #[.agg #[.int .i64 s, .int .i64 j, .int .i64 i, .slice A us.length c]] w fun e w' => e = .returned (.int .i64 (nfree us)) ∧ Below w.heap.size w w' := by
  go_enter Tryz.func179, Tryz.ntmps179
  go_wp2
  go_loop [3, 4] (fun n i => ∃ k : Nat, k ≤ us.length ∧ i = .int .i64 k ∧ n = .int .i64 (nfree (us.take k))) (fun _ i => us.length - (intOf i).toNat)
  case atStart => exact ⟨0, by omega, rfl, rfl⟩
  case round =>
    obtain ⟨k, hk, rfl, rfl⟩ := hrel
    by_cases hlt : k < us.length
    · obtain ⟨b, off, rfl, hb, hc⟩ := hR.at_ (k := k) (by simpa using hlt)
      rw [List.getElem_map] at hc
      have hle := nfree_le (us.take k)
      have hs := nfree_snoc us k hlt
      have hs' := Lib.hid hs
      have hl : (us.take k).length ≤ k := List.length_take_le _ _
      clear hs
      cases hu : us[k] <;> rw [hu] at hc hs'
      all_goals
        clear hu
        go_wp2
        go_round
        case rel => exact ⟨k + 1, by omega, by go_num, by rw [hs'.out]; simp⟩
        case measure => simp [intOf]; omega
    · go_wp2
      go_ret
      refine ⟨ret_int (by rw [List.take_of_length_le (by omega)]), ?_⟩
      exact (Below.refl _ _).alloc (Nat.le_refl _) _
end Go.Proofs.YtloddiipepiocaaGreatDoor
/- Alloc, whatever the arguments; Count. -/
namespace Go.Proofs.YtloddiipepiocaaGreatDoor
open Go.RowKit Go.Shelf

attribute [local go_sem] Oper.semAt_some

def AlE (s j i : Int) (us : List Bool) (near many : Int) : Int :=
  if CkE s j i us.length = 0 then (if near < 0 ∨ (us.length : Int) - 1 < near ∨ many < 0 then 7 else if (frees us near.toNat).length < many.toNat then 11 else 0) else CkE s j i us.length

def AlPost (s j i : Int) (A : Option Addr) (c : Nat) (us : List Bool) (near many : Int) (w : World) (e : Ending) (w' : World) : Prop :=
  Below w.heap.size w w' ∧ ((AlE s j i us near many ≠ 0 ∧ e = .returned (.tuple #[.agg #[.int .i64 s, .int .i64 j, .int .i64 i, .slice A us.length c], .slice none 0 0, .int .i64 (AlE s j i us near many)])) ∨
    (AlE s j i us near many = 0 ∧ ∃ g cap av cv, e = .returned (.tuple #[.agg #[.int .i64 s, .int .i64 j, .int .i64 i, .slice (some ⟨g, 0, none⟩) us.length cap], .slice av (allocd us near.toNat many.toNat).length cv, .int .i64 0]) ∧
      w'.ownsRow w.heap.size 4 1 (.slice (some ⟨g, 0, none⟩) us.length cap) us.length ((setAll us (allocd us near.toNat many.toNat) true).map .bool) ∧
      w'.ownsRow w.heap.size 3 1 (.slice av (allocd us near.toNat many.toNat).length cv) (allocd us near.toNat many.toNat).length ((allocd us near.toNat many.toNat).map (.int .i64))))

set_option maxRecDepth 100000 in
set_option maxHeartbeats 1000000 in
theorem alloc_bad (s j i : Int) (A : Option Addr) (n c : Nat) (near many : Int) (w : World) (hn : n ≤ maxLen) (E : Int)
    (h : (CkE s j i n ≠ 0 ∧ E = CkE s j i n) ∨ (CkE s j i n = 0 ∧ (near < 0 ∨ (n : Int) - 1 < near ∨ many < 0) ∧ E = 7)) :
    Calls Tryz.prog 115 #[.agg #[.int .i64 s, .int .i64 j, .int .i64 i, .slice A n c], .int .i64 near, .int .i64 many] w fun e w' =>
      e = .returned (.tuple #[.agg #[.int .i64 s, .int .i64 j, .int .i64 i, .slice A n c], .slice none 0 0, .int .i64 E]) ∧ Below w.heap.size w w' := by
  have key : ∀ w1 : World, Below w.heap.size w w1 → Blk w1 w.heap.size 53 #[.int .i64 s, .int .i64 j, .int .i64 i, .slice A n c] → Blk w1 (w.heap.size + 1) 3 #[.int .i64 many] → Blk w1 (w.heap.size + 2) 53 #[.int .i64 0, .int .i64 0, .int .i64 0, .slice none 0 0] → Blk w1 (w.heap.size + 3) 71 #[.slice none 0 0] → True := fun _ _ _ _ _ _ => trivial
  clear key
  have hn' := hn
  unfold maxLen at hn'
  rcases h with ⟨hE, rfl⟩ | ⟨hE, hr, rfl⟩
  · have hE' : (CkE s j i n != 0) = true := by simpa using hE
    have HE := Lib.hid hE
    clear hE
    go_enter Tryz.func115, Tryz.ntmps115
    go_wp2_with fail
    refine (check_any s j i A n c _ hn).mono ?_
    rintro e w1 ⟨rfl, hb1⟩
    have bS : Blk w1 w.heap.size 53 #[.int .i64 s, .int .i64 j, .int .i64 i, .slice A n c] := Blk.belowAll (by (repeat' (first | (with_reducible assumption) | exact Blk.new' (by simp) | refine Blk.alloc ?_ _))) hb1
    have bR : Blk w1 (w.heap.size + 2) 53 #[.int .i64 0, .int .i64 0, .int .i64 0, .slice none 0 0] := Blk.belowAll (by (repeat' (first | (with_reducible assumption) | exact Blk.new' (by simp) | refine Blk.alloc ?_ _))) hb1
    have bL : Blk w1 (w.heap.size + 3) 71 #[.slice none 0 0] := Blk.belowAll (by (repeat' (first | (with_reducible assumption) | exact Blk.new' (by simp) | refine Blk.alloc ?_ _))) hb1
    replace hb1 : Below w.heap.size w w1 := below3 (below1 hb1)
    have cS := bS.cells
    have cR := bR.cells
    have fR := bR.free
    have cL := bL.cells
    have fL := bL.free
    go_wp2_with fail
    refine bodyPost_ret (v := .tuple #[.agg #[.int .i64 s, .int .i64 j, .int .i64 i, .slice A n c], .slice none 0 0, .int .i64 (CkE s j i n)]) (by simp [results, Tryz.results115, go_sem, cR, cL]) rfl ?_
    exact ⟨rfl, by (repeat' (first | (with_reducible exact Below.refl _ _) | (with_reducible assumption) | (with_reducible refine Below.alloc ?_ ?_ _) | (with_reducible refine Below.drew ?_) | (with_reducible refine below_drewN' ?_ _) | (with_reducible refine Below.setCell ?_ ?_ _) | (with_reducible exact Nat.le_refl _) | omega | (simp; done) | (simp; omega)))⟩
  · have hE' : (CkE s j i n != 0) = false := by simpa using hE
    have HE := Lib.hid hE
    clear hE
    by_cases hnr : near < 0 ∨ (n : Int) - 1 < near
    all_goals
      first | have hO := outB_yes hnr | have hO := outB_no hnr
      have hm0 : ¬ (near < 0 ∨ (n : Int) - 1 < near) → decide (many < 0) = true := fun h' => by simp; omega
      first | (have hm1 := hm0 hnr; clear hm0) | clear hm0
      go_enter Tryz.func115, Tryz.ntmps115
      go_wp2_with fail
      refine (check_any s j i A n c _ hn).mono ?_
      rintro e w1 ⟨rfl, hb1⟩
      have bS : Blk w1 w.heap.size 53 #[.int .i64 s, .int .i64 j, .int .i64 i, .slice A n c] := Blk.belowAll (by (repeat' (first | (with_reducible assumption) | exact Blk.new' (by simp) | refine Blk.alloc ?_ _))) hb1
      have bM : Blk w1 (w.heap.size + 1) 3 #[.int .i64 many] := Blk.belowAll (by (repeat' (first | (with_reducible assumption) | exact Blk.new' (by simp) | refine Blk.alloc ?_ _))) hb1
      have bR : Blk w1 (w.heap.size + 2) 53 #[.int .i64 0, .int .i64 0, .int .i64 0, .slice none 0 0] := Blk.belowAll (by (repeat' (first | (with_reducible assumption) | exact Blk.new' (by simp) | refine Blk.alloc ?_ _))) hb1
      have bL : Blk w1 (w.heap.size + 3) 71 #[.slice none 0 0] := Blk.belowAll (by (repeat' (first | (with_reducible assumption) | exact Blk.new' (by simp) | refine Blk.alloc ?_ _))) hb1
      replace hb1 : Below w.heap.size w w1 := below3 (below1 hb1)
      have cS := bS.cells
      have cM := bM.cells
      have cR := bR.cells
      have fR := bR.free
      have cL := bL.cells
      have fL := bL.free
      go_wp2_with (go_at_call 152; refine (outside_out _ _ _ _).mono ?_; rintro e w' ⟨rfl, rfl⟩)
      refine bodyPost_ret (v := .tuple #[.agg #[.int .i64 s, .int .i64 j, .int .i64 i, .slice A n c], .slice none 0 0, .int .i64 7]) (by simp [results, Tryz.results115, go_sem, cR, cL]) rfl ?_
      exact ⟨rfl, by (repeat' (first | (with_reducible exact Below.refl _ _) | (with_reducible assumption) | (with_reducible refine Below.alloc ?_ ?_ _) | (with_reducible refine Below.drew ?_) | (with_reducible refine below_drewN' ?_ _) | (with_reducible refine Below.setCell ?_ ?_ _) | (with_reducible exact Nat.le_refl _) | omega | (simp; done) | (simp; omega)))⟩

theorem alloc_any (s j i : Int) (A : Option Addr) (c : Nat) (us : List Bool) (near many : Int) (w : World) (hn : us.length ≤ 1000) (hR : Reads w A (us.map .bool)) :
    Calls Tryz.prog 115 #[.agg #[.int .i64 s, .int .i64 j, .int .i64 i, .slice A us.length c], .int .i64 near, .int .i64 many] w (AlPost s j i A c us near many w) := by
  by_cases hE : CkE s j i us.length = 0
  · by_cases hr : near < 0 ∨ (us.length : Int) - 1 < near ∨ many < 0
    · have h7 : AlE s j i us near many = 7 := by simp only [AlE, if_pos hE, if_pos hr]
      exact (alloc_bad s j i A us.length c near many w (by unfold maxLen; omega) 7 (.inr ⟨hE, hr, rfl⟩)).mono fun e w' ⟨he, hb⟩ => ⟨hb, .inl ⟨by omega, by rw [he, h7]⟩⟩
    · obtain ⟨nr, rfl⟩ := Int.eq_ofNat_of_zero_le (show 0 ≤ near by omega)
      obtain ⟨mn, rfl⟩ := Int.eq_ofNat_of_zero_le (show 0 ≤ many by omega)
      refine (alloc_loop s j i A c nr mn us (by omega) hn w hR hE).mono fun e w' ⟨hb, h⟩ => ⟨hb, ?_⟩
      rcases h with ⟨hf, he⟩ | ⟨hf, g, cap, av, cv, he, h1, h2⟩
      · have h11 : AlE s j i us nr mn = 11 := by
          simp only [AlE, if_pos hE, if_neg hr]
          rw [if_pos (by simpa using hf)]
        exact .inl ⟨by omega, by rw [he, h11]⟩
      · have h00 : AlE s j i us nr mn = 0 := by
          simp only [AlE, if_pos hE, if_neg hr]
          rw [if_neg (by simpa using hf)]
        exact .inr ⟨h00, g, cap, av, cv, by simpa using he, by simpa using h1, by simpa using h2⟩
  · have hx : AlE s j i us near many = CkE s j i us.length := by simp only [AlE, if_neg hE]
    exact (alloc_bad s j i A us.length c near many w (by unfold maxLen; omega) _ (.inl ⟨hE, rfl⟩)).mono fun e w' ⟨he, hb⟩ => ⟨hb, .inl ⟨by omega, by rw [he, hx]⟩⟩

end Go.Proofs.YtloddiipepiocaaGreatDoor
/- Count. -/
namespace Go.Proofs.YtloddiipepiocaaGreatDoor
open Go.RowKit Go.Shelf

attribute [local go_sem] Oper.semAt_some

theorem boxed_own {β : Type} (B C : Nat) (t : TypeId) (f : β → Value) : OwnFrom C (fun (s : β) W => Boxed W B t (f s)) :=
  fun s X Y row hs hg hr => hs.kept hg (fun e => by
    obtain ⟨_, o, ho, hc⟩ := hr B e.symm
    rw [show X.heap[B]? = _ from hs] at ho; cases ho; cases hc)

/-- What Count counts. -/
def CountN (s j i : Int) (us : List Bool) : Int := if CkE s j i us.length = 0 then ((frees us 0).length : Int) else 0

set_option maxRecDepth 100000 in
set_option maxHeartbeats 2000000 in
theorem count_any (s j i : Int) (A : Option Addr) (c : Nat) (us : List Bool) (hus : us.length ≤ 1000) (w : World) (hR : Reads w A (us.map .bool)) :
    Calls Tryz.prog 111 #[.agg #[.int .i64 s, .int .i64 j, .int .i64 i, .slice A us.length c]] w fun e w' =>
      e = .returned (.tuple #[.int .i64 (CountN s j i us), .int .i64 (CkE s j i us.length)]) ∧ Below w.heap.size w w' := by
  by_cases hE : CkE s j i us.length = 0
  · have hE' : (CkE s j i us.length != 0) = false := by simpa using hE
    have hN : CountN s j i us = ((frees us 0).length : Int) := by simp only [CountN, if_pos hE]
    have hpos : 0 < us.length := by
      unfold CkE at hE
      split at hE
      · rename_i hg
        split at hE
        · rename_i hl; have := rg_bds hg; have := (rg_ok hg).2.2.2.2; omega
        · omega
      · exact absurd hE (by assumption)
    have HE := Lib.hid hE
    have HN := Lib.hid hN
    clear hE hN
    refine calls_of_marks Tryz.func111 rfl ?_
    simp only [Tryz.ntmps111, List.size_toArray, List.length_cons, List.length_nil, Nat.reduceAdd, Nat.reduceSub, Array.replicate_succ, Array.replicate_zero, List.push_toArray, List.append_toArray, List.nil_append, List.cons_append]
    go_wp2_with fail
    refine (check_any s j i A us.length c _ (by unfold maxLen; omega)).mono ?_
    rintro e w1 ⟨rfl, hb1⟩
    have bS : Blk w1 w.heap.size 53 #[.int .i64 s, .int .i64 j, .int .i64 i, .slice A us.length c] := Blk.belowAll (by (repeat' (first | (with_reducible assumption) | exact Blk.new' (by simp) | refine Blk.alloc ?_ _))) hb1
    have bN : Blk w1 (w.heap.size + 1) 3 #[.int .i64 0] := Blk.belowAll (by (repeat' (first | (with_reducible assumption) | exact Blk.new' (by simp) | refine Blk.alloc ?_ _))) hb1
    replace hb1 : Below w.heap.size w w1 := below2 hb1
    have cS := bS.cells
    have cN := bN.cells
    go_wp2_with (go_at_call 166; refine (free_any _ _ _ _ _ _ _ _).mono ?_; rintro e w' ⟨rfl, rfl⟩)
    obtain ⟨b, off, hA, hb, _⟩ := hR.at_ (k := 0) (by simp; omega)
    have hcs : ∀ k (h : k < us.length), w.cell? ⟨b, off + k, none⟩ = some (.bool us[k]) := by
      intro k h
      obtain ⟨b', off', hA', _, hc'⟩ := hR.at_ (k := k) (by simpa using h)
      rw [hA] at hA'
      simp only [Option.some.injEq, Addr.mk.injEq, and_true] at hA'
      obtain ⟨rfl, rfl⟩ := hA'
      rw [hc', List.getElem_map]
    have HA := Lib.hid hA
    clear hA
    have hz : w.heap.size + 1 < w1.heap.size := bN.lt
    obtain ⟨W1, hW1⟩ : ∃ W1, W1 = (w1.alloc (.cells #[.int .i64 s, .int .i64 j, .int .i64 i, .slice A us.length c] 53)).alloc (.cells #[.int .i64 0] 3) := ⟨_, rfl⟩
    rw [← hW1]
    have bN1 : Boxed W1 (w.heap.size + 1) 3 (.int .i64 0) := by rw [hW1]; exact (bN.alloc _).alloc _
    have bI0 : Blk W1 w1.heap.size 53 #[.int .i64 s, .int .i64 j, .int .i64 i, .slice A us.length c] := by rw [hW1]; exact (Blk.new _ _ _).alloc _
    have bI1 : Blk W1 (w1.heap.size + 1) 3 #[.int .i64 ((0 : Nat) : Int)] := by rw [hW1]; exact Blk.new' (by simp)
    have hB1 : Below w.heap.size w W1 := by rw [hW1]; exact (hb1.alloc hb1.size _).alloc (by simp; omega) _
    have hs1 : W1.heap.size = w1.heap.size + 2 := by rw [hW1]; simp
    have hcs1 : ∀ k (h : k < us.length), W1.cell? ⟨b, off + k, none⟩ = some (.bool us[k]) := fun k h => (hB1.cell (p := ⟨b, off + k, none⟩) hb).trans (hcs k h)
    clear hW1 bS bN cS cN hb1 hcs
    have HCS := Lib.hid hcs1
    clear hcs1
    refine range_meet (n := 6) (fun D W => W.heap[D]? = some (.deferred (some [])) ∧ w1.heap.size + 2 ≤ D ∧ Boxed W (w.heap.size + 1) 3 (.int .i64 ((frees us 0).length : Int)) ∧ KeepEx (w1.heap.size + 2) [w.heap.size + 1] W1 W) ?loop ?after
    case loop =>
      refine wpIn_rangeFunc_ownG rfl (by omega) (gf := 187) (lb := #[.pointer (some ⟨w1.heap.size, 0, none⟩), .pointer (some ⟨w1.heap.size + 1, 0, none⟩)]) rfl trivial (enters_of Tryz.func187 (by kernel_rfl) rfl)
        (free_stops Fence.wide (6 - 1) trivial rfl (by omega) w1.heap.size (w1.heap.size + 1) (w1.heap.size + 2) s j i A c 0 us hpos hus W1 [w.heap.size + 1] (by simp; omega) (by simp; omega) (by omega) (by omega) (by omega) bI0 bI1 b off HA.out (by omega) (by simp; omega) HCS.out)
        keepEx_t (keepEx_b (by omega)) (Below.refl _ _) (fun _ => rfl)
        (fun pre W => Boxed W (w.heap.size + 1) 3 (.int .i64 (pre.length : Int)) ∧ KeepEx (w1.heap.size + 2) [w.heap.size + 1] W1 W)
        (fun _ _ _ => False)
        (OwnFrom.and (boxed_own _ _ _ (fun pre : List Int => .int .i64 (pre.length : Int))) (ownFrom_keepEx (by omega) (by omega)))
        (fun _ _ _ _ _ hs _ _ => hs)
        ⟨bN1, KeepEx.refl _ _ _⟩
        (fun x => { tmps := #[.agg #[.int .i64 s, .int .i64 j, .int .i64 i, .slice A us.length c], .pointer (some ⟨w.heap.size, 0, none⟩), .pointer (some ⟨w.heap.size + 1, 0, none⟩), .int .i64 0, .int .i64 (CkE s j i us.length), .agg #[.int .i64 s, .int .i64 j, .int .i64 i, .slice A us.length c], .int .i64 (CkE s j i us.length), .int .i64 (CkE s j i us.length), .bool false, undef,
          .agg #[.int .i64 s, .int .i64 j, .int .i64 i, .slice A us.length c], .func (.func 187) #[] #[.pointer (some ⟨w1.heap.size, 0, none⟩), .pointer (some ⟨w1.heap.size + 1, 0, none⟩)], .int .i64 x, undef, undef, undef], defers := [] }) ?assign ?body ?done ?stop
      case assign =>
        intro l x W K hK
        gi_wp2
        simpa using hK
      case body =>
        rintro l pre x W ⟨hv, hK⟩ hlt
        have hc := hv.cell
        have hf := hv.frozen
        gi_wp2
        refine ⟨(KeepsOthers.setCell _ _ _).from _, KeepEx.setCell _ (.inl (by simp)) _, ?_, hK.trans (KeepEx.setCell _ (.inl (by simp)) _)⟩
        have := hv.set (.int .i64 ((pre.length : Int) + 1))
        simpa using this
      case done =>
        rintro D ys W hD rfl ⟨hbox, hK⟩ hKd
        exact ⟨.inl rfl, D, rfl, hKd, by omega, hbox, hK⟩
      case stop =>
        rintro D c pre W _ _ h _
        exact h.elim
    case after =>
      rintro D W ⟨hKd, hD, hv, hK⟩
      have hc := hv.cell
      have hf := hv.frozen
      have hBW : Below w.heap.size w W := hB1.trans (hK.toBelow (by omega) (by simp))
      go_wp2
      refine gen_world (C := bodyPostM Fence.wide 9 Tryz.prog Tryz.f111 (fun e w' => e = .returned (.tuple #[.int .i64 (CountN s j i us), .int .i64 (CkE s j i us.length)]) ∧ Below w.heap.size w w') Exit.ret _)
        (F := fun Wf => Blk Wf (w.heap.size + 1) 3 #[.int .i64 ((frees us 0).length : Int)] ∧ Wf.heap[D]? = some (.deferred (some [])) ∧ Below w.heap.size w Wf) ?_ ?_
      · refine ⟨Blk.set_ hv 0 _, ?_, by (repeat' (first | (with_reducible exact Below.refl _ _) | (with_reducible assumption) | (with_reducible refine Below.alloc ?_ ?_ _) | (with_reducible refine Below.drew ?_) | (with_reducible refine below_drewN' ?_ _) | (with_reducible refine Below.setCell ?_ ?_ _) | (with_reducible exact Nat.le_refl _) | omega | (simp; done) | (simp; omega)))⟩
        (repeat (first | (with_reducible exact hKd) | refine (Below.heap_setCell _ _ _ _ (by simp; omega)).trans ?_))
      · rintro Wf ⟨BN, hKf, HBf⟩
        have cN' := (blk_put (o := .deferred none) BN (by omega : _ ≠ D)).cells
        refine marks_ret (.tuple #[.int .i64 ((frees us 0).length : Int), .int .i64 0]) hKf (by simp [results, Tryz.results111, go_sem, cN']) ?_
        exact ⟨by rw [HN.out, HE.out], below_put HBf (by omega)⟩
  · have hE' : (CkE s j i us.length != 0) = true := by simpa using hE
    have hN : CountN s j i us = 0 := by simp only [CountN, if_neg hE]
    have HE := Lib.hid hE
    have HN := Lib.hid hN
    clear hE hN
    go_enter Tryz.func111, Tryz.ntmps111
    go_wp2_with fail
    refine (check_any s j i A us.length c _ (by unfold maxLen; omega)).mono ?_
    rintro e w1 ⟨rfl, hb1⟩
    have bN : Blk w1 (w.heap.size + 1) 3 #[.int .i64 0] := Blk.belowAll (by (repeat' (first | (with_reducible assumption) | exact Blk.new' (by simp) | refine Blk.alloc ?_ _))) hb1
    replace hb1 : Below w.heap.size w w1 := below2 hb1
    have cN := bN.cells
    have fN := bN.free
    go_wp2_with fail
    refine bodyPost_ret (v := .tuple #[.int .i64 0, .int .i64 (CkE s j i us.length)]) (by simp [results, Tryz.results111, go_sem, cN]) rfl ?_
    exact ⟨by rw [HN.out], by (repeat' (first | (with_reducible exact Below.refl _ _) | (with_reducible assumption) | (with_reducible refine Below.alloc ?_ ?_ _) | (with_reducible refine Below.drew ?_) | (with_reducible refine below_drewN' ?_ _) | (with_reducible refine Below.setCell ?_ ?_ _) | (with_reducible exact Nat.le_refl _) | omega | (simp; done) | (simp; omega)))⟩

end Go.Proofs.YtloddiipepiocaaGreatDoor
