/- Parts of the proof, put together by program: G4, X2, J1, J2. -/
import Derived.Test.YtloddiipepiocaaGreatDoorPart12
import Derived.Test.YtloddiipepiocaaGreatDoorPart11
set_option linter.unusedVariables false
set_option linter.unusedSimpArgs false
/- Layer 6: Load of a device without a cache; New. -/
namespace Go.Proofs.YtloddiipepiocaaGreatDoor
open Go.RowKit Go.Maps

set_option maxRecDepth 100000 in
set_option maxHeartbeats 400000 in
theorem indexDv_nil (fv : Value) (w : World) :
    Calls Tryz.prog 89 #[.slice none 0 0, fv] w fun e w' => e = .returned (.int .i64 (-1)) ∧ w' = w := by
  go_enter Tryz.func89, Tryz.ntmps89
  go_wp2_with fail
  refine wp_loop_rounds 1 ?_
  rw [rounds_succ]
  go_wp2_with fail
  go_ret
  exact ⟨rfl, rfl⟩
set_option maxRecDepth 100000 in
set_option maxHeartbeats 400000 in
theorem containsDv_nil (fv : Value) (w : World) :
    Calls Tryz.prog 40 #[.slice none 0 0, fv] w fun e w' => e = .returned (.bool false) ∧ w' = w := by
  go_enter Tryz.func40, Tryz.ntmps40
  go_wp2_with fail
  refine (indexDv_nil fv w).mono ?_
  rintro e w1 ⟨rfl, rfl⟩
  go_wp2_with fail
  go_ret
  exact ⟨rfl, rfl⟩

set_option maxRecDepth 100000 in
set_option maxHeartbeats 2000000 in
theorem load_fresh (S c : Nat) (x : DevS) (ok : x.Ok) (hc : x.cache = []) (w : World) (hH : HalfAt w) (own : w.ownsRow 0 42 128 (.slice (some ⟨S, 0, none⟩) x.stable.length c) x.stable.length (x.stable.flatMap secV)) :
    Calls Tryz.prog 9 #[.agg #[.slice (some ⟨S, 0, none⟩) x.stable.length c, .slice none 0 0, .int .i64 x.taken, .int .i64 x.power, .bool x.off]] w fun e w' =>
      ∃ D F, e = .returned (.tuple #[.pointer (some ⟨D, 0, none⟩), .int .i64 0]) ∧ DevAt w' D F x ∧ Below w.heap.size w w' ∧ ∀ b ∈ F, w.heap.size ≤ b := by
  have hmf : ∀ (fn : Fn) (first cap : Array Value) (w : World), (Instr.makeFunc fn first cap).run Tryz.prog w = .ok (.func fn first cap) w := fun _ _ _ _ => rfl
  have hlo := ok.lo
  have hhi := ok.hi
  have htk := ok.tk
  have hpw := ok.pw
  have d1 : decide ((x.stable.length : Int) < 64) = false := decide_eq_false (by omega)
  have d2 : decide (256 < (x.stable.length : Int)) = false := decide_eq_false (by omega)
  have d3 : decide (x.taken < 0) = false := decide_eq_false (by omega)
  have d4 : decide (1000000000000 < x.taken) = false := decide_eq_false (by omega)
  have d5 : decide (x.power < -1) = false := decide_eq_false (by omega)
  have d6 : decide (1000000000000 < x.power) = false := decide_eq_false (by omega)
  have hmm := @run_makeMap Tryz.prog
  obtain ⟨w0, hw0⟩ : ∃ w0, w0 = (w.alloc (.cells #[.slice (some ⟨S, 0, none⟩) x.stable.length c, .slice none 0 0, .int .i64 x.taken, .int .i64 x.power, .bool x.off] 33)).alloc (.cells #[.int .i64 x.stable.length] 3) := ⟨_, rfl⟩
  have b0 : Blk w0 w.heap.size 33 #[.slice (some ⟨S, 0, none⟩) x.stable.length c, .slice none 0 0, .int .i64 x.taken, .int .i64 x.power, .bool x.off] := by rw [hw0]; exact (by (repeat' (first | (with_reducible assumption) | exact Blk.new' (by simp) | refine Blk.alloc ?_ _)))
  have b1 : Blk w0 (w.heap.size + 1) 3 #[.int .i64 x.stable.length] := by rw [hw0]; exact (by (repeat' (first | (with_reducible assumption) | exact Blk.new' (by simp) | refine Blk.alloc ?_ _)))
  have B0 : Below w.heap.size w w0 := by rw [hw0]; (repeat' (first | (with_reducible exact Below.refl _ _) | (with_reducible assumption) | (with_reducible refine Below.alloc ?_ ?_ _) | (with_reducible refine Below.drew ?_) | (with_reducible refine below_drewN' ?_ _) | (with_reducible refine Below.setCell ?_ ?_ _) | (with_reducible exact Nat.le_refl _) | omega | (simp; done) | (simp; omega)))
  have z0 : w0.heap.size = w.heap.size + 2 := by rw [hw0]; simp
  have c0 := b0.cells
  have l0 := b0.lt
  have c1 := b1.cells
  have l1 := b1.lt
  have HZ := Lib.hid z0
  clear z0
  go_enter Tryz.func9, Tryz.ntmps9
  go_wp2_with fail
  rw [← hw0]
  go_wp2_with fail
  refine (containsDv_nil _ w0).mono ?_
  rintro e w' ⟨rfl, hw'⟩
  replace hw' := hw'.symm
  subst hw'
  clear hw0
  go_wp2_with fail
  obtain ⟨W, hW⟩ : ∃ W, W = (w0.alloc (.map #[] 0)).alloc (.cells #[.slice (some ⟨S, 0, none⟩) x.stable.length c, .slice none 0 0, .int .i64 x.taken, .int .i64 x.power, .bool x.off, .map (some w0.heap.size)] 115) := ⟨_, rfl⟩
  have hc0 : x.cache.length = 0 := by rw [hc]; rfl
  have BW : Below w.heap.size w W := by rw [hW]; exact (B0.alloc B0.size _).alloc (by have := B0.size; simp; omega) _
  have bP : Blk W w.heap.size 33 #[.slice (some ⟨S, 0, none⟩) x.stable.length c, .slice none 0 0, .int .i64 x.taken, .int .i64 x.power, .bool x.off] := by rw [hW]; exact (b0.alloc _).alloc _
  have mW : DevMem W (w0.heap.size + 1) S c w0.heap.size (.slice none 0 0) x := by
    refine ⟨by rw [hW]; exact Blk.new' (by simp), own_below own BW, ?_, ?_⟩
    · rw [hc]; exact World.ownsRow_nil _ _ _ _
    · rw [hc, hW]
      exact (World.ownsMap_made _ _ _ _).alloc _
  have zW : W.heap.size = w0.heap.size + 2 := by rw [hW]; simp
  have HZW := Lib.hid zW
  rw [← hW]
  clear hW hmm zW c0 l0 c1 l1 b0 b1
  refine (save_any _ S c _ _ x ok W mW).mono ?_
  rintro e w3 ⟨sv, cv', rfl, ownS, ownC, hb3⟩
  obtain ⟨S', c', rfl, hS1, hS2⟩ := own_form ownS (by omega)
  obtain ⟨A', cc', hcv2, hA'⟩ : ∃ A' cc', cv' = .slice A' x.cache.length cc' ∧ (∀ g, cv'.ownBlock = some g → W.heap.size ≤ g ∧ g < w3.heap.size) := by
    refine (fun h => ?_) (fun g e => ownC.lt g e : ∀ g, cv'.ownBlock = some g → W.heap.size ≤ g ∧ g < w3.heap.size)
    rcases ownC.2 with ⟨rfl, h0⟩ | ⟨g, cap, cur, rfl, -⟩
    · exact ⟨none, 0, by rw [h0], h⟩
    · exact ⟨_, cap, rfl, h⟩
  rw [hcv2] at ownC hA'
  subst hcv2
  have bD3 := mW.dev.belowAll hb3
  have bP3 := bP.belowAll hb3
  have B3 : Below w.heap.size w w3 := BW.trans (hb3.mono BW.size)
  have mp3 := map_block mW.map (hb3.block _ mW.map.lt)
  have z3 : w0.heap.size + 2 ≤ w3.heap.size := by have := hb3.size; have := HZW.out; omega
  have hS1' : w0.heap.size + 2 ≤ S' := by have := HZW.out; omega
  have hA2 : ∀ g, (Value.slice A' x.cache.length cc').ownBlock = some g → w0.heap.size + 2 ≤ g ∧ g < w3.heap.size := fun g e => by have := hA' g e; have := HZW.out; omega
  clear hA' hb3 bP BW mW
  unfold devC at bD3
  have cD3 := bD3.cells
  have fD3 := bD3.free
  have lD3 := bD3.lt
  have cP3 := bP3.cells
  have lP3 := bP3.lt
  unfold stateC
  have nPD : w.heap.size ≠ w0.heap.size + 1 := by have := HZ.out; omega
  go_wp2_with fail
  refine wp_loop_rounds 1 ?_
  rw [rounds_succ]
  go_wp2_with fail
  go_ret2
  obtain ⟨W5, hW5⟩ : ∃ W5, W5 = ((((w3.setCell ⟨w0.heap.size + 1, 0, none⟩ (.slice (some ⟨S', 0, none⟩) x.stable.length c')).setCell ⟨w0.heap.size + 1, 1, none⟩ (.slice A' x.cache.length cc')).setCell ⟨w0.heap.size + 1, 2, none⟩ (.int .i64 x.taken)).setCell ⟨w0.heap.size + 1, 3, none⟩ (.int .i64 x.power)).setCell ⟨w0.heap.size + 1, 4, none⟩ (.bool x.off) := ⟨_, rfl⟩
  have bD5 : Blk W5 (w0.heap.size + 1) 115 (devC S' x.stable.length c' (.slice A' x.cache.length cc') x.taken x.power x.off w0.heap.size) := by
    rw [hW5]; exact ((((bD3.set_ 0 _).set_ 1 _).set_ 2 _).set_ 3 _).set_ 4 _
  have k5 : KeepEx w3.heap.size [w0.heap.size + 1] w3 W5 := by
    rw [hW5]
    exact ((((KeepEx.setCell _ (.inl (by simp)) _).trans (KeepEx.setCell _ (.inl (by simp)) _)).trans (KeepEx.setCell _ (.inl (by simp)) _)).trans (KeepEx.setCell _ (.inl (by simp)) _)).trans (KeepEx.setCell _ (.inl (by simp)) _)
  have z5 := k5.size
  have hz0 := HZ.out
  have zz0 := B0.size
  have B5 : Below w.heap.size w W5 := B3.trans (k5.toBelow B3.size (by intro k hk; simp at hk; omega))
  have lS : S' < w3.heap.size := hS2
  rw [hc0] at hW5
  rw [← hW5]
  refine ⟨w0.heap.size + 1, [w0.heap.size + 1, S', w0.heap.size] ++ (Value.slice A' x.cache.length cc').ownBlock.toList, rfl, ⟨ok, hH.below B5 hH.1, ⟨S', c', w0.heap.size, .slice A' x.cache.length cc', ⟨bD5, ?_, ?_, ?_⟩, by simp, by simp, by simp, fun g e => by simp [e]⟩, fun b hb => ?_⟩, B5, fun b hb => ?_⟩
  · exact own_block (own_base ownS (Nat.zero_le _)) (fun g e => by cases e; exact k5.block S' lS (by simp; omega))
  · exact own_block (own_base ownC (Nat.zero_le _)) (fun g e => k5.block g (hA2 g e).2 (by have := hA2 g e; simp; omega))
  · exact map_block mp3 (k5.block _ (by omega) (by simp))
  · rcases List.mem_append.1 hb with hb | hb
    · simp at hb
      have := hH.1
      rcases hb with rfl | rfl | rfl <;> omega
    · have := hA2 b (by simpa using hb)
      have := hH.1
      omega
  · rcases List.mem_append.1 hb with hb | hb
    · simp at hb
      rcases hb with rfl | rfl | rfl <;> omega
    · have := hA2 b (by simpa using hb)
      omega

/-- A new device. -/
def newDev (n : Nat) : DevS := ⟨List.replicate n zsec, [], 0, -1, false⟩
theorem newDev_ok {n : Nat} (h : 64 ≤ n ∧ n ≤ 256) : (newDev n).Ok :=
  ⟨by show 64 ≤ (List.replicate n zsec).length; simp; omega, by show (List.replicate n zsec).length ≤ 256; simp; omega, fun s hs => by
    obtain rfl := List.eq_of_mem_replicate hs
    exact ⟨zsec_length, zsec_bytes⟩, fun p hp => (by cases hp), by show 0 ≤ 400; omega, by show (0 : Int) ≤ 0 ∧ (0 : Int) ≤ 1000000000000; omega, by show (-1 : Int) ≤ -1 ∧ (-1 : Int) ≤ 1000000000000; omega⟩
theorem flat_len (n : Nat) : ((List.replicate n zsec).flatMap secV).length = n * 128 := by
  induction n with
  | zero => rfl
  | succ n ih => rw [List.replicate_succ, List.flatMap_cons, List.length_append, ih, secV_length, zsec_length, Nat.add_mul]; omega
theorem flat_zero (n : Nat) : ∀ u ∈ (List.replicate n zsec).flatMap secV, u = .int .u8 0 := by
  intro u hu
  obtain ⟨s, hs, hu⟩ := List.mem_flatMap.1 hu
  obtain rfl := List.eq_of_mem_replicate hs
  unfold secV at hu
  obtain ⟨y, hy, rfl⟩ := List.mem_map.1 hu
  rw [List.eq_of_mem_replicate (show y ∈ List.replicate 128 (0 : Int) from hy)]
theorem made_zero (k : Nat) : ∀ u ∈ (madeCells (fill (.int .u8 0) 128) k).toList, u = Value.int .u8 0 := by
  intro u hu
  unfold madeCells at hu
  simp only [Array.toList_map, List.mem_map] at hu
  obtain ⟨i, -, rfl⟩ := hu
  rw [fill_eq]
  have hlt : i % (Array.replicate 128 (Value.int .u8 0)).size < (Array.replicate 128 (Value.int .u8 0)).size := by rw [Array.size_replicate]; exact Nat.mod_lt _ (by omega)
  rw [getElem!_pos (Array.replicate 128 (Value.int .u8 0)) _ hlt]
  simp
theorem made_flat (n : Nat) : madeCells (fill (.int .u8 0) 128) (n * 128) = ((List.replicate n zsec).flatMap secV).toArray := by
  apply Array.toList_inj.1
  rw [List.eq_replicate_of_mem (made_zero (n * 128)), List.eq_replicate_of_mem (flat_zero n)]
  simp only [Array.length_toList, flat_len, size_madeCells]

set_option maxRecDepth 100000 in
set_option maxHeartbeats 1000000 in
theorem new_dev (n : Nat) (hn : 64 ≤ n ∧ n ≤ 256) (w : World) (hH : HalfAt w) :
    Calls Tryz.prog 17 #[.int .i64 n] w fun e w' => ∃ D F, e = .returned (.tuple #[.pointer (some ⟨D, 0, none⟩), .int .i64 0]) ∧ DevAt w' D F (newDev n) ∧ Below w.heap.size w w' ∧ ∀ b ∈ F, w.heap.size ≤ b := by
  have hmin : min (n : Int) 257 = n := by omega
  obtain ⟨i, hi, hz, hsz, hby⟩ := info_parts Tryz.infoSec3
  have hmk := run_make (P := Tryz.prog) w 30 42 i _ Tryz.underlying30 hi hz .i64 .i64 n n (by omega) (Int.le_refl _) (by rw [hby]; omega) (by omega)
  rw [Int.toNat_natCast, hsz] at hmk
  obtain ⟨w0, hw0⟩ : ∃ w0, w0 = w.alloc (.cells ((List.replicate n zsec).flatMap secV).toArray 42) := ⟨_, rfl⟩
  have hmk2 : (Instr.makeSlice 30 (.int .i64 n) (.int .i64 n)).run Tryz.prog w = .ok (.slice (some ⟨w.heap.size, 0, none⟩) n n) w0 := by
    rw [hmk, hw0]
    show Result.ok _ (w.alloc (.cells (madeCells (fill (.int .u8 0) 128) (n * 128)) 42)) = _
    rw [made_flat]
  have B0 : Below w.heap.size w w0 := by rw [hw0]; exact (Below.refl _ _).alloc (Nat.le_refl _) _
  have own : w0.ownsRow 0 42 128 (.slice (some ⟨w.heap.size, 0, none⟩) n n) n ((List.replicate n zsec).flatMap secV) := by
    refine ⟨flat_len n, .inr ⟨w.heap.size, n, _, rfl, Nat.zero_le _, by rw [hw0]; exact heap_alloc_new w _, Nat.le_refl _, by simp only [maxLen]; omega, by simp only [List.size_toArray]; exact flat_len n, ?_⟩⟩
    rw [List.take_of_length_le (by rw [flat_len n]; exact Nat.le_refl _)]
  have hld := load_fresh w.heap.size n (newDev n) (newDev_ok hn) rfl w0 (hH.below B0 hH.1) (by
    show w0.ownsRow 0 _ 128 (.slice (some ⟨w.heap.size, 0, none⟩) (List.replicate n zsec).length n) (List.replicate n zsec).length _
    rw [List.length_replicate]
    exact own)
  have hld2 : Calls Tryz.prog 9 #[.agg #[.slice (some ⟨w.heap.size, 0, none⟩) n n, .slice none 0 0, .int .i64 0, .int .i64 (-1), .bool false]] w0 fun e w' => ∃ D F, e = .returned (.tuple #[.pointer (some ⟨D, 0, none⟩), .int .i64 0]) ∧ DevAt w' D F (newDev n) ∧ Below w0.heap.size w0 w' ∧ ∀ b ∈ F, w0.heap.size ≤ b := by
    have e : (newDev n).stable.length = n := List.length_replicate
    rw [e] at hld
    exact hld
  clear hmk hld hi hz hsz hby own hw0
  go_enter Tryz.func17, Tryz.ntmps17
  go_wp2_with fail
  refine hld2.mono ?_
  rintro e w1 ⟨D, F, rfl, hd, hb, hF⟩
  go_wp2_with fail
  go_ret2
  exact ⟨D, F, rfl, hd, B0.trans (hb.mono B0.size), fun b hm => Nat.le_trans B0.size (hF b hm)⟩

end Go.Proofs.YtloddiipepiocaaGreatDoor
/- Layer 7: Put. -/
namespace Go.Proofs.YtloddiipepiocaaGreatDoor
open Go.RowKit Go.Maps

set_option maxRecDepth 100000 in
set_option maxHeartbeats 1000000 in
theorem put_dev (D : Nat) (F : List Nat) (x : DevS) (a kind seq : Int) (s : ByteArray) (hs : s.size ≤ maxLen) (hq : 0 ≤ seq ∧ seq < 4294967296) (w : World) (h : DevAt w D F x) :
    Calls Tryz.prog 100 #[.pointer (some ⟨D, 0, none⟩), .int .i64 a, .int .i64 kind, .int .u32 seq, .string s] w fun e w' => e = .returned (.int .i64 (x.put a kind seq s).1) ∧ ∃ F', DevAt w' D F' (x.put a kind seq s).2 ∧ Grow w F w' F' := by
  have hz := zeroSector
  have hse := seal_any a kind seq s hs hq w h.half
  unfold SealPost at hse
  unfold DevS.put
  by_cases hE : sealE a kind s.size = 0
  · have hl := sealL_length a kind seq s (sealE_zero hE).2.2.2.2
    have hbx := sealL_bytes seq hE
    rw [if_pos hE]
    rw [if_pos hE, hE] at hse
    generalize sealL a kind seq s = xs at *
    clear hE
    go_enter Tryz.func100, Tryz.ntmps100
    go_wp2_with fail
    refine hse.mono ?_
    rintro e w1 ⟨hb1, rfl⟩
    have h1 := h.below hb1
    have z1 := hb1.size
    have bZ : Blk (w1.alloc (.cells (bytesV zsec) 42)) w1.heap.size 42 (bytesV zsec) := Blk.new _ _ _
    have bX : Blk ((w1.alloc (.cells (bytesV zsec) 42)).setRow w1.heap.size (bytesV xs)) w1.heap.size 42 (bytesV xs) := bZ.setRow
    have h2 : DevAt ((w1.alloc (.cells (bytesV zsec) 42)).setRow w1.heap.size (bytesV xs)) D F x := (h1.alloc _).row (h1.far (Nat.le_refl _)) (by have := h1.half.1; omega) _
    have B2 : Below w.heap.size w ((w1.alloc (.cells (bytesV zsec) 42)).setRow w1.heap.size (bytesV xs)) := Below.setRow (hb1.alloc z1 _) z1 _
    have hwr := write_dev D F x a xs ⟨hl, hbx⟩ _ h2
    clear hse hb1 h1
    go_wp2_with (first
      | (refine wpList_storeSec rfl _ _ rfl w1.heap.size xs rfl rfl bZ zsec_length hl ?_)
      | (refine wpList_loadSec rfl _ rfl w1.heap.size rfl bX hl ?_))
    refine hwr.mono ?_
    rintro e w3 ⟨rfl, F', h3, g3⟩
    go_wp2_with fail
    go_ret
    exact ⟨rfl, F', h3, (Grow.of_below B2 F).trans g3⟩
  · rw [if_neg hE]
    rw [if_neg hE] at hse
    obtain ⟨E, hEq⟩ : ∃ E, sealE a kind s.size = E := ⟨_, rfl⟩
    rw [hEq] at hse hE ⊢
    have hE' : (E != 0) = true := by simpa using hE
    clear hEq
    go_enter Tryz.func100, Tryz.ntmps100
    go_wp2_with fail
    refine hse.mono ?_
    rintro e w1 ⟨hb1, rfl⟩
    have h1 := h.below hb1
    have z1 := hb1.size
    have bZ : Blk (w1.alloc (.cells (bytesV zsec) 42)) w1.heap.size 42 (bytesV zsec) := Blk.new _ _ _
    have h2 : DevAt ((w1.alloc (.cells (bytesV zsec) 42)).setRow w1.heap.size (bytesV zsec)) D F x := (h1.alloc _).row (h1.far (Nat.le_refl _)) (by have := h1.half.1; omega) _
    have B2 : Below w.heap.size w ((w1.alloc (.cells (bytesV zsec) 42)).setRow w1.heap.size (bytesV zsec)) := Below.setRow (hb1.alloc z1 _) z1 _
    clear hse hb1 h1 hE
    go_wp2_with (refine wpList_storeSec rfl _ _ rfl w1.heap.size zsec rfl rfl bZ zsec_length zsec_length ?_)
    go_ret
    exact ⟨rfl, F, h2, Grow.of_below B2 F⟩

end Go.Proofs.YtloddiipepiocaaGreatDoor
/- Layer 9: then. -/
namespace Go.Proofs.YtloddiipepiocaaGreatDoor
open Go.RowKit Go.Maps

set_option maxRecDepth 100000 in
set_option maxHeartbeats 1000000 in
/-- then over n steps: I k holds ahead of step k, Z of what is returned. -/
theorem then_any (n : Nat) (hn : n ≤ 10) (fs : Nat → FuncId) (first cap : Nat → Array Value) (B : Nat) (cs : Array Value) (I : Nat → World → Prop) (Z : Int → World → Prop)
    (hen : ∀ k, k < n → ∀ args W, (callFunc (fs k) args).run Tryz.prog W = .ok (.enter (fs k) args) W)
    (hcs : ∀ k, k < n → cs[k]? = some (.func (.func (fs k)) (first k) (cap k)))
    (hB : ∀ k W, k < n → I k W → Blk W B 75 cs)
    (hstep : ∀ k, k < n → ∀ W, I k W → Calls Tryz.prog (fs k) (first k ++ cap k) W fun e W' => ∃ E, e = .returned (.int .i64 E) ∧ (E = 0 → I (k + 1) W') ∧ (E ≠ 0 → Z E W'))
    (hend : ∀ W, I n W → Z 0 W) (w : World) (h0 : I 0 w) :
    Calls Tryz.prog 96 #[.slice (some ⟨B, 0, none⟩) n n] w fun e w' => ∃ E, e = .returned (.int .i64 E) ∧ Z E w' := by
  go_enter Tryz.func96, Tryz.ntmps96
  go_wp2_with fail
  go_loopw [2, 4, 5, 8] (fun _ _ _ q wr => ∃ k : Nat, k ≤ n ∧ q = .int .i64 k ∧ I k wr) (fun _ _ _ q _ => n - (intOf q).toNat)
  case atStart => exact ⟨0, Nat.zero_le _, rfl, h0⟩
  case round =>
    obtain ⟨k, hk, rfl, hI⟩ := hrel
    by_cases hlt : k < n
    · have bB := hB k wr hlt hI
      have cB := bB.cells k
      rw [hcs k hlt] at cB
      have lB := bB.lt
      have hs := hstep k hlt wr hI
      have he := hen k hlt
      generalize fs k = f at *
      clear hB hen hcs hstep
      go_wp2_with fail
      refine hs.mono ?_
      rintro e W' ⟨E, rfl, h1, h2⟩
      by_cases hE : E = 0
      · subst hE
        replace h1 := h1 rfl
        clear h2 hs hI
        go_wp2_with fail
        go_roundw
        case rel => exact ⟨k + 1, by omega, by go_num, h1⟩
        case measure => simp [intOf]; omega
      · have hE' : (E != 0) = true := by simpa using hE
        replace h2 := h2 hE
        clear h1 hs hI
        go_wp2_with fail
        go_ret
        exact ⟨E, rfl, h2⟩
    · obtain rfl : k = n := by omega
      have hz := hend wr hI
      go_wp2_with fail
      go_ret
      exact ⟨0, rfl, hz⟩

theorem then2 (f1 f2 : FuncId) (a1 c1 a2 c2 : Array Value) (B : Nat) (w : World) (J : World → Prop) (Z : Int → World → Prop)
    (e1 : ∀ args W, (callFunc f1 args).run Tryz.prog W = .ok (.enter f1 args) W) (e2 : ∀ args W, (callFunc f2 args).run Tryz.prog W = .ok (.enter f2 args) W)
    (b0 : Blk w B 75 #[.func (.func f1) a1 c1, .func (.func f2) a2 c2]) (b1 : ∀ W, J W → Blk W B 75 #[.func (.func f1) a1 c1, .func (.func f2) a2 c2])
    (s1 : Calls Tryz.prog f1 (a1 ++ c1) w fun e W' => ∃ E, e = .returned (.int .i64 E) ∧ (E = 0 → J W') ∧ (E ≠ 0 → Z E W'))
    (s2 : ∀ W, J W → Calls Tryz.prog f2 (a2 ++ c2) W fun e W' => ∃ E, e = .returned (.int .i64 E) ∧ Z E W') :
    Calls Tryz.prog 96 #[.slice (some ⟨B, 0, none⟩) 2 2] w fun e w' => ∃ E, e = .returned (.int .i64 E) ∧ Z E w' := by
  refine then_any 2 (by omega) (fun k => if k = 0 then f1 else f2) (fun k => if k = 0 then a1 else a2) (fun k => if k = 0 then c1 else c2) B #[.func (.func f1) a1 c1, .func (.func f2) a2 c2] (fun k W => if k = 0 then W = w else if k = 1 then J W else Z 0 W) Z ?_ ?_ ?_ ?_ ?_ w rfl
  · intro k hk
    rcases (by omega : k = 0 ∨ k = 1) with rfl | rfl
    · exact e1
    · exact e2
  · intro k hk
    rcases (by omega : k = 0 ∨ k = 1) with rfl | rfl <;> rfl
  · intro k W hk hI
    rcases (by omega : k = 0 ∨ k = 1) with rfl | rfl
    · have hI : W = w := hI
      subst hI; exact b0
    · exact b1 W hI
  · intro k hk W hI
    rcases (by omega : k = 0 ∨ k = 1) with rfl | rfl
    · have hI : W = w := hI
      subst hI
      exact s1
    · refine (s2 W hI).mono ?_
      rintro e W' ⟨E, rfl, hz⟩
      exact ⟨E, rfl, fun h => by subst h; exact hz, fun _ => hz⟩
  · exact fun W h => h
theorem then3 (f1 f2 f3 : FuncId) (a1 c1 a2 c2 a3 c3 : Array Value) (B : Nat) (w : World) (J K : World → Prop) (Z : Int → World → Prop)
    (e1 : ∀ args W, (callFunc f1 args).run Tryz.prog W = .ok (.enter f1 args) W) (e2 : ∀ args W, (callFunc f2 args).run Tryz.prog W = .ok (.enter f2 args) W) (e3 : ∀ args W, (callFunc f3 args).run Tryz.prog W = .ok (.enter f3 args) W)
    (b0 : Blk w B 75 #[.func (.func f1) a1 c1, .func (.func f2) a2 c2, .func (.func f3) a3 c3]) (b1 : ∀ W, J W ∨ K W → Blk W B 75 #[.func (.func f1) a1 c1, .func (.func f2) a2 c2, .func (.func f3) a3 c3])
    (s1 : Calls Tryz.prog f1 (a1 ++ c1) w fun e W' => ∃ E, e = .returned (.int .i64 E) ∧ (E = 0 → J W') ∧ (E ≠ 0 → Z E W'))
    (s2 : ∀ W, J W → Calls Tryz.prog f2 (a2 ++ c2) W fun e W' => ∃ E, e = .returned (.int .i64 E) ∧ (E = 0 → K W') ∧ (E ≠ 0 → Z E W'))
    (s3 : ∀ W, K W → Calls Tryz.prog f3 (a3 ++ c3) W fun e W' => ∃ E, e = .returned (.int .i64 E) ∧ Z E W') :
    Calls Tryz.prog 96 #[.slice (some ⟨B, 0, none⟩) 3 3] w fun e w' => ∃ E, e = .returned (.int .i64 E) ∧ Z E w' := by
  refine then_any 3 (by omega) (fun k => if k = 0 then f1 else if k = 1 then f2 else f3) (fun k => if k = 0 then a1 else if k = 1 then a2 else a3) (fun k => if k = 0 then c1 else if k = 1 then c2 else c3) B #[.func (.func f1) a1 c1, .func (.func f2) a2 c2, .func (.func f3) a3 c3] (fun k W => if k = 0 then W = w else if k = 1 then J W else if k = 2 then K W else Z 0 W) Z ?_ ?_ ?_ ?_ ?_ w rfl
  · intro k hk
    rcases (by omega : k = 0 ∨ k = 1 ∨ k = 2) with rfl | rfl | rfl
    · exact e1
    · exact e2
    · exact e3
  · intro k hk
    rcases (by omega : k = 0 ∨ k = 1 ∨ k = 2) with rfl | rfl | rfl <;> rfl
  · intro k W hk hI
    rcases (by omega : k = 0 ∨ k = 1 ∨ k = 2) with rfl | rfl | rfl
    · have hI : W = w := hI
      subst hI; exact b0
    · exact b1 W (.inl hI)
    · exact b1 W (.inr hI)
  · intro k hk W hI
    rcases (by omega : k = 0 ∨ k = 1 ∨ k = 2) with rfl | rfl | rfl
    · have hI : W = w := hI
      subst hI
      exact s1
    · exact s2 W hI
    · refine (s3 W hI).mono ?_
      rintro e W' ⟨E, rfl, hz⟩
      exact ⟨E, rfl, fun h => by subst h; exact hz, fun _ => hz⟩
  · exact fun W h => h

end Go.Proofs.YtloddiipepiocaaGreatDoor
/- Layer 9: Check, Format. -/
namespace Go.Proofs.YtloddiipepiocaaGreatDoor
open Go.RowKit Go.Maps

theorem builtSec0 : Tryz.prog.built 42 [] = some (bytesV zsec) := by kernel_rfl
theorem blanks_stop {x : DevS} {a : Int} {k m : Nat} (h : (x.blanks a k).1 ≠ 0) (hm : k ≤ m) : x.blanks a m = x.blanks a k := by
  induction m with
  | zero => have e : k = 0 := by omega
            rw [e]
  | succ m ih =>
    by_cases e : k = m + 1
    · rw [e]
    · have ih := ih (by omega)
      show (if (x.blanks a m).1 ≠ 0 then x.blanks a m else _) = _
      rw [ih, if_pos h]

set_option maxRecDepth 100000 in
set_option maxHeartbeats 400000 in
theorem jcheck_any (F Z : Int) (w : World) :
    Calls Tryz.prog 98 #[.agg #[.int .i64 F, .int .i64 Z]] w fun e w' => e = .returned (.int .i64 (checkE F Z)) ∧ Below w.heap.size w w' := by
  by_cases a1 : Z < 8
  rotate_left
  by_cases a2 : 96 < Z
  rotate_left
  by_cases a3 : F < 0
  rotate_left
  by_cases a4 : 256 - Z < F
  rotate_left
  all_goals
    first
      | (have HE : Hid (checkE F Z = 0) := Lib.hid (by unfold checkE; rw [if_neg (by omega)]))
      | (have HE : Hid (checkE F Z = 7) := Lib.hid (by unfold checkE; rw [if_pos (by omega)]))
    go_enter Tryz.func98, Tryz.ntmps98
    (try (have hw : IntKind.i64.wrap (256 - Z) = 256 - Z := by rw [IntKind.wrap_i64]; omega))
    go_wp2_with fail
    go_ret
    exact ⟨by rw [HE.out]; rfl, by (repeat' (first | (with_reducible exact Below.refl _ _) | (with_reducible assumption) | (with_reducible refine Below.alloc ?_ ?_ _) | (with_reducible refine Below.drew ?_) | (with_reducible refine below_drewN' ?_ _) | (with_reducible refine Below.setCell ?_ ?_ _) | (with_reducible exact Nat.le_refl _) | omega | (simp; done) | (simp; omega)))⟩

/-- A step that leaves a device: what it returns, and the device behind it. -/
def DevDid (w : World) (D : Nat) (F : List Nat) (p : Int × DevS) (e : Ending) (w' : World) : Prop := e = .returned (.int .i64 p.1) ∧ ∃ F', DevAt w' D F' p.2 ∧ Grow w F w' F'

set_option maxRecDepth 100000 in
set_option maxHeartbeats 400000 in
theorem jfmt1 (J : Nat) (F Z : Int) (w : World) (bJ : Blk w J 101 #[.int .i64 F, .int .i64 Z]) :
    Calls Tryz.prog 97 #[.pointer (some ⟨J, 0, none⟩)] w fun e w' => e = .returned (.int .i64 (checkE F Z)) ∧ Below w.heap.size w w' := by
  have cJ := bJ.cells
  have lJ := bJ.lt
  go_enter Tryz.func97, Tryz.ntmps97
  go_wp2_with fail
  refine (jcheck_any F Z w).mono ?_
  rintro e w1 ⟨rfl, hb⟩
  go_wp2_with fail
  go_ret
  exact ⟨rfl, hb⟩

set_option maxRecDepth 100000 in
set_option maxHeartbeats 400000 in
theorem jfmt2 (D PD J : Nat) (F Z : Int) (B : List Nat) (x : DevS) (w : World) (h : DevAt w D B x) (bP : Blk w PD 45 #[.pointer (some ⟨D, 0, none⟩)]) (bJ : Blk w J 101 #[.int .i64 F, .int .i64 Z]) :
    Calls Tryz.prog 99 #[.pointer (some ⟨PD, 0, none⟩), .pointer (some ⟨J, 0, none⟩)] w (DevDid w D B (x.put F 1 0 ⟨#[]⟩)) := by
  have cJ := bJ.cells
  have lJ := bJ.lt
  have cP := bP.cells
  have lP := bP.lt
  have hp := put_dev D B x F 1 0 ⟨#[]⟩ (by decide) (by omega) w h
  unfold DevDid
  go_enter Tryz.func99, Tryz.ntmps99
  go_wp2_with fail
  refine hp.mono ?_
  rintro e w1 ⟨rfl, hd⟩
  go_wp2_with fail
  go_ret
  exact ⟨rfl, hd⟩

set_option maxRecDepth 100000 in
set_option maxHeartbeats 1000000 in
theorem jfmt3 (D PD J : Nat) (F Z : Int) (hc : checkE F Z = 0) (B : List Nat) (x : DevS) (w : World) (h : DevAt w D B x) (bP : Blk w PD 45 #[.pointer (some ⟨D, 0, none⟩)]) (nP : PD ∉ B) (bJ : Blk w J 101 #[.int .i64 F, .int .i64 Z]) (nJ : J ∉ B) :
    Calls Tryz.prog 101 #[.pointer (some ⟨J, 0, none⟩), .pointer (some ⟨PD, 0, none⟩)] w (DevDid w D B (x.blanks (F + 1) (Z - 1).toNat)) := by
  have hFZ : 8 ≤ Z ∧ Z ≤ 96 ∧ 0 ≤ F ∧ F ≤ 256 - Z := by unfold checkE at hc; split at hc <;> omega
  clear hc
  obtain ⟨z, rfl⟩ := Int.eq_ofNat_of_zero_le (show 0 ≤ Z by omega)
  unfold DevDid
  have hbz : ∀ w : World, (Instr.build 42 #[]).run Tryz.prog w = .ok (.agg (bytesV zsec)) w := fun w => run_build w _ _ _ builtSec0
  rw [show (((z : Int) - 1).toNat) = z - 1 by omega]
  have lP := bP.lt
  have lJ := bJ.lt
  go_enter Tryz.func101, Tryz.ntmps101
  go_wp2_with fail
  go_loopw [3, 4] (fun q _ wr => ∃ k : Nat, k + 1 ≤ z ∧ q = .int .i64 ((k : Int) + 1) ∧ (x.blanks (F + 1) k).1 = 0 ∧ ∃ B', DevAt wr D B' (x.blanks (F + 1) k).2 ∧ Grow w B wr B') (fun q _ _ => z - (intOf q).toNat)
  case atStart => exact ⟨0, by omega, rfl, rfl, B, h, Grow.refl _ _⟩
  case round =>
    obtain ⟨k, hk, rfl, h0, B', hd, hg⟩ := hrel
    have bP' := hg.blk bP nP
    have bJ' := hg.blk bJ nJ
    have cP := bP'.cells
    have lP' := bP'.lt
    have cJ := bJ'.cells
    have lJ' := bJ'.lt
    by_cases hlt : k + 1 < z
    · have hst : x.blanks (F + 1) (k + 1) = (x.blanks (F + 1) k).2.write (F + ((k : Int) + 1)) zsec := by
        show (if (x.blanks (F + 1) k).1 ≠ 0 then _ else _) = _
        rw [if_neg (by rw [h0]; simp), show F + 1 + (k : Int) = F + ((k : Int) + 1) by omega]
      have hwr := write_dev D B' (x.blanks (F + 1) k).2 (F + ((k : Int) + 1)) zsec ⟨zsec_length, zsec_bytes⟩ wr hd
      rw [← hst] at hwr
      have hfin : (x.blanks (F + 1) (k + 1)).1 ≠ 0 → x.blanks (F + 1) (z - 1) = x.blanks (F + 1) (k + 1) := fun hne => blanks_stop hne (by omega)
      generalize hp : x.blanks (F + 1) (k + 1) = p at *
      have HP := Lib.hid hp
      clear hp
      clear hst h0 hd
      have hlt' : (k : Int) + 1 < z := by omega
      have HF := Lib.hid hfin
      clear hfin
      go_wp2_with fail
      refine hwr.mono ?_
      rintro e w1 ⟨rfl, B1, hd1, hg1⟩
      by_cases hE : p.1 = 0
      · have hE' : (p.1 != 0) = false := by simpa using hE
        have HE := Lib.hid hE
        clear hE
        go_wp2_with fail
        go_roundw
        case rel => exact ⟨k + 1, by omega, by go_num, by rw [HP.out]; exact HE.out, B1, by rw [HP.out]; exact hd1, hg.trans hg1⟩
        case measure => simp [intOf]; omega
      · have hE' : (p.1 != 0) = true := by simpa using hE
        go_wp2_with fail
        go_ret
        rw [HF.out hE]
        exact ⟨rfl, B1, hd1, hg.trans hg1⟩
    · obtain rfl : z = k + 1 := by omega
      go_wp2_with fail
      go_ret
      exact ⟨by rw [Nat.add_sub_cancel, h0]; rfl, B', hd, hg⟩

end Go.Proofs.YtloddiipepiocaaGreatDoor
