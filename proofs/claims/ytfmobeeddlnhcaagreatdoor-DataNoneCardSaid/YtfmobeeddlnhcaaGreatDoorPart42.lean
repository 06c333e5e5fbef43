/- Parts of the proof, put together by program: G4, ZE. -/
import Derived.Test.YtfmobeeddlnhcaaGreatDoorPart41
import Derived.Test.YtfmobeeddlnhcaaGreatDoorPart40
import Derived.Test.YtfmobeeddlnhcaaGreatDoorPart22
/- Layer 6: Load of a device without a cache; New. -/
namespace Go.Proofs.YtfmobeeddlnhcaaGreatDoor
open Go.RowKit Go.Maps

set_option maxRecDepth 100000 in
set_option maxHeartbeats 400000 in
theorem indexDv_nil (fv : Value) (w : World) :
    Calls Tryz.prog 192 #[.slice none 0 0, fv] w fun e w' => e = .returned (.int .i64 (-1)) ∧ w' = w := by
  go_enter Tryz.func192, Tryz.ntmps192
  go_wp2_with fail
  refine wp_loop_rounds 1 ?_
  rw [rounds_succ]
  go_wp2_with fail
  go_ret
  exact ⟨rfl, rfl⟩
set_option maxRecDepth 100000 in
set_option maxHeartbeats 400000 in
theorem containsDv_nil (fv : Value) (w : World) :
    Calls Tryz.prog 129 #[.slice none 0 0, fv] w fun e w' => e = .returned (.bool false) ∧ w' = w := by
  go_enter Tryz.func129, Tryz.ntmps129
  go_wp2_with fail
  refine (indexDv_nil fv w).mono ?_
  rintro e w1 ⟨rfl, rfl⟩
  go_wp2_with fail
  go_ret
  exact ⟨rfl, rfl⟩

set_option maxRecDepth 100000 in
set_option maxHeartbeats 2000000 in
theorem load_fresh (S c : Nat) (x : DevS) (ok : x.Ok) (hc : x.cache = []) (w : World) (hH : HalfAt w) (own : w.ownsRow 0 165 128 (.slice (some ⟨S, 0, none⟩) x.stable.length c) x.stable.length (x.stable.flatMap secV)) :
    Calls Tryz.prog 83 #[.agg #[.slice (some ⟨S, 0, none⟩) x.stable.length c, .slice none 0 0, .int .i64 x.taken, .int .i64 x.power, .bool x.off]] w fun e w' =>
      ∃ D F, e = .returned (.tuple #[.pointer (some ⟨D, 0, none⟩), .int .i64 0]) ∧ DevAt w' D F x ∧ Below w.heap.size w w' ∧ ∀ b ∈ F, w.heap.size ≤ b := by
  have hmf : ∀ (fn : Fn) (first cap : Array Value) (w : World), (Instr.makeFunc fn first cap).run Tryz.prog w = .ok (.func fn first cap) w := fun _ _ _ _ => rfl
  have hlo := ok.lo
  have hhi := ok.hi
  have htk := ok.tk
  have hpw := ok.pw
  have d1 : decide ((x.stable.length : Int) < 64) = false := decide_eq_false (by omega)
  have d2 : decide (256 < (x.stable.length : Int)) = false := decide_eq_false (by omega)
  have d3 : decide (x.taken < 0) = false := decide_eq_false (by omega)
  have d4 : decide (1000000000000 < x.taken) = false := decide_eq_false (by omega)
  have d5 : decide (x.power < -1) = false := decide_eq_false (by omega)
  have d6 : decide (1000000000000 < x.power) = false := decide_eq_false (by omega)
  have hmm := @run_makeMap Tryz.prog
  obtain ⟨w0, hw0⟩ : ∃ w0, w0 = (w.alloc (.cells #[.slice (some ⟨S, 0, none⟩) x.stable.length c, .slice none 0 0, .int .i64 x.taken, .int .i64 x.power, .bool x.off] 75)).alloc (.cells #[.int .i64 x.stable.length] 3) := ⟨_, rfl⟩
  have b0 : Blk w0 w.heap.size 75 #[.slice (some ⟨S, 0, none⟩) x.stable.length c, .slice none 0 0, .int .i64 x.taken, .int .i64 x.power, .bool x.off] := by rw [hw0]; exact (by (repeat' (first | (with_reducible assumption) | exact Blk.new' (by simp) | refine Blk.alloc ?_ _)))
  have b1 : Blk w0 (w.heap.size + 1) 3 #[.int .i64 x.stable.length] := by rw [hw0]; exact (by (repeat' (first | (with_reducible assumption) | exact Blk.new' (by simp) | refine Blk.alloc ?_ _)))
  have B0 : Below w.heap.size w w0 := by rw [hw0]; (repeat' (first | (with_reducible exact Below.refl _ _) | (with_reducible assumption) | (with_reducible refine Below.alloc ?_ ?_ _) | (with_reducible refine Below.drew ?_) | (with_reducible refine below_drewN' ?_ _) | (with_reducible refine Below.setCell ?_ ?_ _) | (with_reducible exact Nat.le_refl _) | omega | (simp; done) | (simp; omega)))
  have z0 : w0.heap.size = w.heap.size + 2 := by rw [hw0]; simp
  have c0 := b0.cells
  have l0 := b0.lt
  have c1 := b1.cells
  have l1 := b1.lt
  have HZ := Lib.hid z0
  clear z0
  go_enter Tryz.func83, Tryz.ntmps83
  go_wp2_with fail
  rw [← hw0]
  go_wp2_with fail
  refine (containsDv_nil _ w0).mono ?_
  rintro e w' ⟨rfl, hw'⟩
  replace hw' := hw'.symm
  subst hw'
  clear hw0
  go_wp2_with fail
  obtain ⟨W, hW⟩ : ∃ W, W = (w0.alloc (.map #[] 0)).alloc (.cells #[.slice (some ⟨S, 0, none⟩) x.stable.length c, .slice none 0 0, .int .i64 x.taken, .int .i64 x.power, .bool x.off, .map (some w0.heap.size)] 162) := ⟨_, rfl⟩
  have hc0 : x.cache.length = 0 := by rw [hc]; rfl
  have BW : Below w.heap.size w W := by rw [hW]; exact (B0.alloc B0.size _).alloc (by have := B0.size; simp; omega) _
  have bP : Blk W w.heap.size 75 #[.slice (some ⟨S, 0, none⟩) x.stable.length c, .slice none 0 0, .int .i64 x.taken, .int .i64 x.power, .bool x.off] := by rw [hW]; exact (b0.alloc _).alloc _
  have mW : DevMem W (w0.heap.size + 1) S c w0.heap.size (.slice none 0 0) x := by
    refine ⟨by rw [hW]; exact Blk.new' (by simp), own_below own BW, ?_, ?_⟩
    · rw [hc]; exact World.ownsRow_nil _ _ _ _
    · rw [hc, hW]
      exact (World.ownsMap_made _ _ _ _).alloc _
  have zW : W.heap.size = w0.heap.size + 2 := by rw [hW]; simp
  have HZW := Lib.hid zW
  rw [← hW]
  clear hW hmm zW c0 l0 c1 l1 b0 b1
  refine (save_any _ S c _ _ x ok W mW).mono ?_
  rintro e w3 ⟨sv, cv', rfl, ownS, ownC, hb3⟩
  obtain ⟨S', c', rfl, hS1, hS2⟩ := own_form ownS (by omega)
  obtain ⟨A', cc', hcv2, hA'⟩ : ∃ A' cc', cv' = .slice A' x.cache.length cc' ∧ (∀ g, cv'.ownBlock = some g → W.heap.size ≤ g ∧ g < w3.heap.size) := by
    refine (fun h => ?_) (fun g e => ownC.lt g e : ∀ g, cv'.ownBlock = some g → W.heap.size ≤ g ∧ g < w3.heap.size)
    rcases ownC.2 with ⟨rfl, h0⟩ | ⟨g, cap, cur, rfl, -⟩
    · exact ⟨none, 0, by rw [h0], h⟩
    · exact ⟨_, cap, rfl, h⟩
  rw [hcv2] at ownC hA'
  subst hcv2
  have bD3 := mW.dev.belowAll hb3
  have bP3 := bP.belowAll hb3
  have B3 : Below w.heap.size w w3 := BW.trans (hb3.mono BW.size)
  have mp3 := map_block mW.map (hb3.block _ mW.map.lt)
  have z3 : w0.heap.size + 2 ≤ w3.heap.size := by have := hb3.size; have := HZW.out; omega
  have hS1' : w0.heap.size + 2 ≤ S' := by have := HZW.out; omega
  have hA2 : ∀ g, (Value.slice A' x.cache.length cc').ownBlock = some g → w0.heap.size + 2 ≤ g ∧ g < w3.heap.size := fun g e => by have := hA' g e; have := HZW.out; omega
  clear hA' hb3 bP BW mW
  unfold devC at bD3
  have cD3 := bD3.cells
  have fD3 := bD3.free
  have lD3 := bD3.lt
  have cP3 := bP3.cells
  have lP3 := bP3.lt
  unfold stateC
  have nPD : w.heap.size ≠ w0.heap.size + 1 := by have := HZ.out; omega
  go_wp2_with fail
  refine wp_loop_rounds 1 ?_
  rw [rounds_succ]
  go_wp2_with fail
  go_ret2
  obtain ⟨W5, hW5⟩ : ∃ W5, W5 = ((((w3.setCell ⟨w0.heap.size + 1, 0, none⟩ (.slice (some ⟨S', 0, none⟩) x.stable.length c')).setCell ⟨w0.heap.size + 1, 1, none⟩ (.slice A' x.cache.length cc')).setCell ⟨w0.heap.size + 1, 2, none⟩ (.int .i64 x.taken)).setCell ⟨w0.heap.size + 1, 3, none⟩ (.int .i64 x.power)).setCell ⟨w0.heap.size + 1, 4, none⟩ (.bool x.off) := ⟨_, rfl⟩
  have bD5 : Blk W5 (w0.heap.size + 1) 162 (devC S' x.stable.length c' (.slice A' x.cache.length cc') x.taken x.power x.off w0.heap.size) := by
    rw [hW5]; exact ((((bD3.set_ 0 _).set_ 1 _).set_ 2 _).set_ 3 _).set_ 4 _
  have k5 : KeepEx w3.heap.size [w0.heap.size + 1] w3 W5 := by
    rw [hW5]
    exact ((((KeepEx.setCell _ (.inl (by simp)) _).trans (KeepEx.setCell _ (.inl (by simp)) _)).trans (KeepEx.setCell _ (.inl (by simp)) _)).trans (KeepEx.setCell _ (.inl (by simp)) _)).trans (KeepEx.setCell _ (.inl (by simp)) _)
  have z5 := k5.size
  have hz0 := HZ.out
  have zz0 := B0.size
  have B5 : Below w.heap.size w W5 := B3.trans (k5.toBelow B3.size (by intro k hk; simp at hk; omega))
  have lS : S' < w3.heap.size := hS2
  rw [hc0] at hW5
  rw [← hW5]
  refine ⟨w0.heap.size + 1, [w0.heap.size + 1, S', w0.heap.size] ++ (Value.slice A' x.cache.length cc').ownBlock.toList, rfl, ⟨ok, hH.below B5 hH.1, ⟨S', c', w0.heap.size, .slice A' x.cache.length cc', ⟨bD5, ?_, ?_, ?_⟩, by simp, by simp, by simp, fun g e => by simp [e]⟩, fun b hb => ?_⟩, B5, fun b hb => ?_⟩
  · exact own_block (own_base ownS (Nat.zero_le _)) (fun g e => by cases e; exact k5.block S' lS (by simp; omega))
  · exact own_block (own_base ownC (Nat.zero_le _)) (fun g e => k5.block g (hA2 g e).2 (by have := hA2 g e; simp; omega))
  · exact map_block mp3 (k5.block _ (by omega) (by simp))
  · rcases List.mem_append.1 hb with hb | hb
    · simp at hb
      have := hH.1
      rcases hb with rfl | rfl | rfl <;> omega
    · have := hA2 b (by simpa using hb)
      have := hH.1
      omega
  · rcases List.mem_append.1 hb with hb | hb
    · simp at hb
      rcases hb with rfl | rfl | rfl <;> omega
    · have := hA2 b (by simpa using hb)
      omega

/-- A new device. -/
def newDev (n : Nat) : DevS := ⟨List.replicate n zsec, [], 0, -1, false⟩
theorem newDev_ok {n : Nat} (h : 64 ≤ n ∧ n ≤ 256) : (newDev n).Ok :=
  ⟨by show 64 ≤ (List.replicate n zsec).length; simp; omega, by show (List.replicate n zsec).length ≤ 256; simp; omega, fun s hs => by
    obtain rfl := List.eq_of_mem_replicate hs
    exact ⟨zsec_length, zsec_bytes⟩, fun p hp => (by cases hp), by show 0 ≤ 400; omega, by show (0 : Int) ≤ 0 ∧ (0 : Int) ≤ 1000000000000; omega, by show (-1 : Int) ≤ -1 ∧ (-1 : Int) ≤ 1000000000000; omega⟩
theorem flat_len (n : Nat) : ((List.replicate n zsec).flatMap secV).length = n * 128 := by
  induction n with
  | zero => rfl
  | succ n ih => rw [List.replicate_succ, List.flatMap_cons, List.length_append, ih, secV_length, zsec_length, Nat.add_mul]; omega
theorem flat_zero (n : Nat) : ∀ u ∈ (List.replicate n zsec).flatMap secV, u = .int .u8 0 := by
  intro u hu
  obtain ⟨s, hs, hu⟩ := List.mem_flatMap.1 hu
  obtain rfl := List.eq_of_mem_replicate hs
  unfold secV at hu
  obtain ⟨y, hy, rfl⟩ := List.mem_map.1 hu
  rw [List.eq_of_mem_replicate (show y ∈ List.replicate 128 (0 : Int) from hy)]
theorem made_zero (k : Nat) : ∀ u ∈ (madeCells (fill (.int .u8 0) 128) k).toList, u = Value.int .u8 0 := by
  intro u hu
  unfold madeCells at hu
  simp only [Array.toList_map, List.mem_map] at hu
  obtain ⟨i, -, rfl⟩ := hu
  rw [fill_eq]
  have hlt : i % (Array.replicate 128 (Value.int .u8 0)).size < (Array.replicate 128 (Value.int .u8 0)).size := by rw [Array.size_replicate]; exact Nat.mod_lt _ (by omega)
  rw [getElem!_pos (Array.replicate 128 (Value.int .u8 0)) _ hlt]
  simp
theorem made_flat (n : Nat) : madeCells (fill (.int .u8 0) 128) (n * 128) = ((List.replicate n zsec).flatMap secV).toArray := by
  apply Array.toList_inj.1
  rw [List.eq_replicate_of_mem (made_zero (n * 128)), List.eq_replicate_of_mem (flat_zero n)]
  simp only [Array.length_toList, flat_len, size_madeCells]

set_option maxRecDepth 100000 in
set_option maxHeartbeats 1000000 in
theorem new_dev (n : Nat) (hn : 64 ≤ n ∧ n ≤ 256) (w : World) (hH : HalfAt w) :
    Calls Tryz.prog 45 #[.int .i64 n] w fun e w' => ∃ D F, e = .returned (.tuple #[.pointer (some ⟨D, 0, none⟩), .int .i64 0]) ∧ DevAt w' D F (newDev n) ∧ Below w.heap.size w w' ∧ ∀ b ∈ F, w.heap.size ≤ b := by
  have hmin : min (n : Int) 257 = n := by omega
  obtain ⟨i, hi, hz, hsz, hby⟩ := info_parts Tryz.infoSec3
  have hmk := run_make (P := Tryz.prog) w 72 165 i _ Tryz.underlying72 hi hz .i64 .i64 n n (by omega) (Int.le_refl _) (by rw [hby]; omega) (by omega)
  rw [Int.toNat_natCast, hsz] at hmk
  obtain ⟨w0, hw0⟩ : ∃ w0, w0 = w.alloc (.cells ((List.replicate n zsec).flatMap secV).toArray 165) := ⟨_, rfl⟩
  have hmk2 : (Instr.makeSlice 72 (.int .i64 n) (.int .i64 n)).run Tryz.prog w = .ok (.slice (some ⟨w.heap.size, 0, none⟩) n n) w0 := by
    rw [hmk, hw0]
    show Result.ok _ (w.alloc (.cells (madeCells (fill (.int .u8 0) 128) (n * 128)) 165)) = _
    rw [made_flat]
  have B0 : Below w.heap.size w w0 := by rw [hw0]; exact (Below.refl _ _).alloc (Nat.le_refl _) _
  have own : w0.ownsRow 0 165 128 (.slice (some ⟨w.heap.size, 0, none⟩) n n) n ((List.replicate n zsec).flatMap secV) := by
    refine ⟨flat_len n, .inr ⟨w.heap.size, n, _, rfl, Nat.zero_le _, by rw [hw0]; exact heap_alloc_new w _, Nat.le_refl _, by simp only [maxLen]; omega, by simp only [List.size_toArray]; exact flat_len n, ?_⟩⟩
    rw [List.take_of_length_le (by rw [flat_len n]; exact Nat.le_refl _)]
  have hld := load_fresh w.heap.size n (newDev n) (newDev_ok hn) rfl w0 (hH.below B0 hH.1) (by
    show w0.ownsRow 0 _ 128 (.slice (some ⟨w.heap.size, 0, none⟩) (List.replicate n zsec).length n) (List.replicate n zsec).length _
    rw [List.length_replicate]
    exact own)
  have hld2 : Calls Tryz.prog 83 #[.agg #[.slice (some ⟨w.heap.size, 0, none⟩) n n, .slice none 0 0, .int .i64 0, .int .i64 (-1), .bool false]] w0 fun e w' => ∃ D F, e = .returned (.tuple #[.pointer (some ⟨D, 0, none⟩), .int .i64 0]) ∧ DevAt w' D F (newDev n) ∧ Below w0.heap.size w0 w' ∧ ∀ b ∈ F, w0.heap.size ≤ b := by
    have e : (newDev n).stable.length = n := List.length_replicate
    rw [e] at hld
    exact hld
  clear hmk hld hi hz hsz hby own hw0
  go_enter Tryz.func45, Tryz.ntmps45
  go_wp2_with fail
  refine hld2.mono ?_
  rintro e w1 ⟨D, F, rfl, hd, hb, hF⟩
  go_wp2_with fail
  go_ret2
  exact ⟨D, F, rfl, hd, B0.trans (hb.mono B0.size), fun b hm => Nat.le_trans B0.size (hF b hm)⟩

end Go.Proofs.YtfmobeeddlnhcaaGreatDoor
/- Layer 12: on which sectors of the device the functions of data lean; the example of awake in plain words. No program in sight. -/
namespace Go.Proofs.YtfmobeeddlnhcaaGreatDoor
open Go.RowKit Go.Maps

/-- Two devices that read alike outside of the journal and the bitmap. -/
def Agree (x x' : DevS) (s j : Int) : Prop := ∀ a, (a = 0 ∨ 2 + j ≤ a) → a < s → x.ge a = x'.ge a ∧ x.fr a = x'.fr a
theorem SecV_free (s j i b : Int) : SecV s j i b = 0 ∨ 2 + j ≤ SecV s j i b := by
  unfold SecV
  split
  · rename_i h
    unfold SecE at h
    split at h
    · rename_i h2
      split at h
      · cases h
      · have h3 := (rg_ok h2).2.2.2.1
        have h4 := rg_bds h2
        have h5 := (rg_ok h2).2.2.2.2
        right; omega
    · rename_i h2; exact absurd h h2
  · exact .inl rfl
theorem part_congr {x x' : DevS} {y : TxS} (h : Agree x x' y.s y.j) (kd b : Int) : y.part x kd b = y.part x' kd b := by
  have e : y.read x (SecV y.s y.j y.i b) = y.read x' (SecV y.s y.j y.i b) := by
    unfold TxS.read
    split
    · rfl
    · split
      · rfl
      · rename_i h1 h2
        have h3 := h (SecV y.s y.j y.i b) (SecV_free _ _ _ _) (by omega)
        unfold TxS.readR
        rw [h3.1, h3.2]
  unfold TxS.part; rw [e]
theorem text_congr {x x' : DevS} {y : TxS} (h : Agree x x' y.s y.j) (kd : Int) (l : List Int) (size a b : Int) : y.text x kd l size a b = y.text x' kd l size a b := by
  have e : ∀ k, textK y x kd size a b l k = textK y x' kd size a b l k := by
    intro k
    induction k with
    | zero => rfl
    | succ k ih => unfold textK; rw [ih, part_congr h]
  exact e _
theorem Agree.same {x x' : DevS} {y z : TxS} (h : Agree x x' y.s y.j) (hs : z.Same y) : Agree x x' z.s z.j := by rw [hs.1, hs.2.1]; exact h
theorem puts_congr {x x' : DevS} {y : TxS} (h : Agree x x' y.s y.j) (kd : Int) (l : List Int) (ps : List ByteArray) (k : Nat) : y.puts x kd l ps k = y.puts x' kd l ps k := by
  induction k with
  | zero => rfl
  | succ k ih => unfold TxS.puts; rw [ih, part_congr (h.same (TxS.puts_same _ _ _ _ _ _))]
theorem TxS.fit_same (y : TxS) (l : List Int) (n : Nat) : (y.fit l n).2.1.Same y := by
  unfold TxS.fit
  split
  · exact TxS.free_same _ _
  · split
    · exact TxS.take_same _ _ _
    · exact ⟨rfl, rfl, rfl⟩
theorem store_congr {x x' : DevS} {y : TxS} (h : Agree x x' y.s y.j) (kd : Int) (l : List Int) (ps : List ByteArray) : y.store x kd l ps = y.store x' kd l ps := by
  unfold TxS.store; rw [puts_congr (h.same (TxS.fit_same _ _ _))]
theorem dread_congr {x x' : DevS} {y : TxS} (h : Agree x x' y.s y.j) (kd : Int) (l : List Int) (size a b : Int) : y.dread x kd l size a b = y.dread x' kd l size a b := by
  unfold TxS.dread; rw [text_congr h]
theorem dwrite_congr {x x' : DevS} {y : TxS} (h : Agree x x' y.s y.j) (kd : Int) (l : List Int) (size a : Int) (s : ByteArray) : y.dwrite x kd l size a s = y.dwrite x' kd l size a s := by
  unfold TxS.dwrite; rw [text_congr h, store_congr h]
theorem dcut_congr {x x' : DevS} {y : TxS} (h : Agree x x' y.s y.j) (kd : Int) (l : List Int) (size a : Int) : y.dcut x kd l size a = y.dcut x' kd l size a := by
  unfold TxS.dcut; rw [text_congr h, store_congr h]
theorem TxS.store_same (y : TxS) (x : DevS) (kd : Int) (l : List Int) (ps : List ByteArray) : (y.store x kd l ps).2.1.Same y := by
  unfold TxS.store
  split
  · exact TxS.fit_same _ _ _
  · split <;> exact (TxS.puts_same _ _ _ _ _ _).trans (TxS.fit_same _ _ _)
theorem TxS.dwrite_same (y : TxS) (x : DevS) (kd : Int) (l : List Int) (size a : Int) (s : ByteArray) : (y.dwrite x kd l size a s).2.1.Same y := by
  unfold TxS.dwrite
  split
  · exact ⟨rfl, rfl, rfl⟩
  · split
    · exact ⟨rfl, rfl, rfl⟩
    · split <;> exact TxS.store_same _ _ _ _ _
theorem TxS.dcut_same (y : TxS) (x : DevS) (kd : Int) (l : List Int) (size a : Int) : (y.dcut x kd l size a).2.1.Same y := by
  unfold TxS.dcut
  split
  · exact ⟨rfl, rfl, rfl⟩
  · split
    · exact ⟨rfl, rfl, rfl⟩
    · exact TxS.store_same _ _ _ _ _

/-! The example. -/
def yA : TxS := ⟨64, 8, 40, List.replicate 14 false, List.replicate 14 false, [], false, false, false⟩
def lettersB (c : Int) (n : Nat) : ByteArray := strOfNums (List.replicate n c)
def aw1 (x : DevS) : Int × TxS × List Int × Int := yA.dwrite x 8 [] 0 0 (lettersB 97 100)
def aw2 (x : DevS) : ByteArray × Int := (aw1 x).2.1.dread x 8 [0, 1] 100 94 9
def aw3 (x : DevS) : Int × TxS × List Int × Int := (aw1 x).2.1.dwrite x 8 [0, 1] 100 96 ⟨#[98, 98]⟩
def aw4 (x : DevS) : Int × TxS × List Int := (aw3 x).2.1.dcut x 8 [0, 1] 100 3
def aw5 (x : DevS) : Int × TxS × List Int := (aw4 x).2.1.dcut x 8 [0] 3 5
def aw6 (x : DevS) : ByteArray × Int := (aw5 x).2.1.dread x 8 [0] 5 0 768
theorem aw_newDev : (aw1 (newDev 64)).1 = 0 ∧ (aw1 (newDev 64)).2.2.1 = [0, 1] ∧ (aw1 (newDev 64)).2.2.2 = 100 ∧ aw2 (newDev 64) = (⟨#[97, 97, 97, 97, 97, 97]⟩, 0) ∧ (aw3 (newDev 64)).1 = 0 ∧ (aw3 (newDev 64)).2.2.1 = [0, 1] ∧ (aw3 (newDev 64)).2.2.2 = 100 ∧
    (aw4 (newDev 64)).1 = 0 ∧ (aw4 (newDev 64)).2.2 = [0] ∧ (aw5 (newDev 64)).1 = 0 ∧ (aw5 (newDev 64)).2.2 = [0] ∧ aw6 (newDev 64) = (⟨#[97, 97, 97, 0, 0]⟩, 0) := by decide +kernel
theorem newDev_ge {n : Nat} (hn : 64 ≤ n ∧ n ≤ 256) {a : Int} (ha : 0 ≤ a ∧ a < n) : (newDev n).ge a = 70 := by
  have hr : (newDev n).reads a = zsec := by
    show (List.replicate n zsec).getD a.toNat [] = zsec
    rw [List.getD_eq_getElem?_getD, List.getElem?_replicate, if_pos (by omega)]; rfl
  show getE false (List.replicate n zsec).length a ((newDev n).reads a) = 70
  unfold getE
  rw [if_pos (show Go.Proofs.YtfmobeeddlnhcaaGreatDoor.atE _ _ a = 0 from by unfold Go.Proofs.YtfmobeeddlnhcaaGreatDoor.atE; rw [if_neg (by simp), if_neg (by rw [List.length_replicate]; omega)]), hr]
  unfold openE
  rw [if_neg (by omega), if_pos rfl]
theorem fr_blank {x : DevS} {a : Int} (h : x.ge a = 70) : x.fr a = noFr := by unfold DevS.fr; rw [h, if_neg (by decide)]
theorem awake_plain {x : DevS} (hx : ∀ a, (a = 0 ∨ 10 ≤ a) → a < 64 → x.ge a = 70) : (aw1 x).1 = 0 ∧ (aw1 x).2.2.1 = [0, 1] ∧ (aw1 x).2.2.2 = 100 ∧ aw2 x = (⟨#[97, 97, 97, 97, 97, 97]⟩, 0) ∧ (aw3 x).1 = 0 ∧ (aw3 x).2.2.1 = [0, 1] ∧ (aw3 x).2.2.2 = 100 ∧
    (aw4 x).1 = 0 ∧ (aw4 x).2.2 = [0] ∧ (aw5 x).1 = 0 ∧ (aw5 x).2.2 = [0] ∧ aw6 x = (⟨#[97, 97, 97, 0, 0]⟩, 0) := by
  have hA : Agree x (newDev 64) yA.s yA.j := fun a h1 h2 => by
    have h3 : x.ge a = 70 := hx a h1 h2
    have h4 : (newDev 64).ge a = 70 := newDev_ge (by omega) (by
      have h1' : a = 0 ∨ 10 ≤ a := h1
      have h2' : a < 64 := h2
      omega)
    exact ⟨h3.trans h4.symm, (fr_blank h3).trans (fr_blank h4).symm⟩
  have e1 : aw1 x = aw1 (newDev 64) := dwrite_congr hA _ _ _ _ _
  have h1 := hA.same (TxS.dwrite_same yA (newDev 64) 8 [] 0 0 (lettersB 97 100))
  have e2 : aw2 x = aw2 (newDev 64) := by unfold aw2; rw [e1]; exact dread_congr h1 _ _ _ _ _
  have e3 : aw3 x = aw3 (newDev 64) := by unfold aw3; rw [e1]; exact dwrite_congr h1 _ _ _ _ _
  have h3 := h1.same (TxS.dwrite_same (aw1 (newDev 64)).2.1 (newDev 64) 8 [0, 1] 100 96 ⟨#[98, 98]⟩)
  have e4 : aw4 x = aw4 (newDev 64) := by unfold aw4; rw [e3]; exact dcut_congr h3 _ _ _ _
  have h4 := h3.same (TxS.dcut_same (aw3 (newDev 64)).2.1 (newDev 64) 8 [0, 1] 100 3)
  have e5 : aw5 x = aw5 (newDev 64) := by unfold aw5; rw [e4]; exact dcut_congr h4 _ _ _ _
  have h5 := h4.same (TxS.dcut_same (aw4 (newDev 64)).2.1 (newDev 64) 8 [0] 3 5)
  have e6 : aw6 x = aw6 (newDev 64) := by unfold aw6; rw [e5]; exact dread_congr h5 _ _ _ _ _
  rw [e1, e2, e3, e4, e5, e6]
  exact aw_newDev

end Go.Proofs.YtfmobeeddlnhcaaGreatDoor
