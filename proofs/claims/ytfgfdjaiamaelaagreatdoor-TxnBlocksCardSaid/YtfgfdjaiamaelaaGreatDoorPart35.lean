/- Parts of the proof, put together by program: G4, H9. -/
import Derived.Test.YtfgfdjaiamaelaaGreatDoorPart34
import Derived.Test.YtfgfdjaiamaelaaGreatDoorPart22
import Derived.Test.YtfgfdjaiamaelaaGreatDoorPart25
import Derived.Test.YtfgfdjaiamaelaaGreatDoorPart26
/- Layer 6: Load of a device without a cache; New. -/
namespace Go.Proofs.YtfgfdjaiamaelaaGreatDoor
open Go.RowKit Go.Maps

set_option maxRecDepth 100000 in
set_option maxHeartbeats 400000 in
theorem indexDv_nil (fv : Value) (w : World) :
    Calls Tryz.prog 130 #[.slice none 0 0, fv] w fun e w' => e = .returned (.int .i64 (-1)) ∧ w' = w := by
  go_enter Tryz.func130, Tryz.ntmps130
  go_wp2_with fail
  refine wp_loop_rounds 1 ?_
  rw [rounds_succ]
  go_wp2_with fail
  go_ret
  exact ⟨rfl, rfl⟩
set_option maxRecDepth 100000 in
set_option maxHeartbeats 400000 in
theorem containsDv_nil (fv : Value) (w : World) :
    Calls Tryz.prog 94 #[.slice none 0 0, fv] w fun e w' => e = .returned (.bool false) ∧ w' = w := by
  go_enter Tryz.func94, Tryz.ntmps94
  go_wp2_with fail
  refine (indexDv_nil fv w).mono ?_
  rintro e w1 ⟨rfl, rfl⟩
  go_wp2_with fail
  go_ret
  exact ⟨rfl, rfl⟩

set_option maxRecDepth 100000 in
set_option maxHeartbeats 2000000 in
theorem load_fresh (S c : Nat) (x : DevS) (ok : x.Ok) (hc : x.cache = []) (w : World) (hH : HalfAt w) (own : w.ownsRow 0 137 128 (.slice (some ⟨S, 0, none⟩) x.stable.length c) x.stable.length (x.stable.flatMap secV)) :
    Calls Tryz.prog 62 #[.agg #[.slice (some ⟨S, 0, none⟩) x.stable.length c, .slice none 0 0, .int .i64 x.taken, .int .i64 x.power, .bool x.off]] w fun e w' =>
      ∃ D F, e = .returned (.tuple #[.pointer (some ⟨D, 0, none⟩), .int .i64 0]) ∧ DevAt w' D F x ∧ Below w.heap.size w w' ∧ ∀ b ∈ F, w.heap.size ≤ b := by
  have hmf : ∀ (fn : Fn) (first cap : Array Value) (w : World), (Instr.makeFunc fn first cap).run Tryz.prog w = .ok (.func fn first cap) w := fun _ _ _ _ => rfl
  have hlo := ok.lo
  have hhi := ok.hi
  have htk := ok.tk
  have hpw := ok.pw
  have d1 : decide ((x.stable.length : Int) < 64) = false := decide_eq_false (by omega)
  have d2 : decide (256 < (x.stable.length : Int)) = false := decide_eq_false (by omega)
  have d3 : decide (x.taken < 0) = false := decide_eq_false (by omega)
  have d4 : decide (1000000000000 < x.taken) = false := decide_eq_false (by omega)
  have d5 : decide (x.power < -1) = false := decide_eq_false (by omega)
  have d6 : decide (1000000000000 < x.power) = false := decide_eq_false (by omega)
  have hmm := @run_makeMap Tryz.prog
  obtain ⟨w0, hw0⟩ : ∃ w0, w0 = (w.alloc (.cells #[.slice (some ⟨S, 0, none⟩) x.stable.length c, .slice none 0 0, .int .i64 x.taken, .int .i64 x.power, .bool x.off] 61)).alloc (.cells #[.int .i64 x.stable.length] 3) := ⟨_, rfl⟩
  have b0 : Blk w0 w.heap.size 61 #[.slice (some ⟨S, 0, none⟩) x.stable.length c, .slice none 0 0, .int .i64 x.taken, .int .i64 x.power, .bool x.off] := by rw [hw0]; exact (by (repeat' (first | (with_reducible assumption) | exact Blk.new' (by simp) | refine Blk.alloc ?_ _)))
  have b1 : Blk w0 (w.heap.size + 1) 3 #[.int .i64 x.stable.length] := by rw [hw0]; exact (by (repeat' (first | (with_reducible assumption) | exact Blk.new' (by simp) | refine Blk.alloc ?_ _)))
  have B0 : Below w.heap.size w w0 := by rw [hw0]; (repeat' (first | (with_reducible exact Below.refl _ _) | (with_reducible assumption) | (with_reducible refine Below.alloc ?_ ?_ _) | (with_reducible refine Below.drew ?_) | (with_reducible refine below_drewN' ?_ _) | (with_reducible refine Below.setCell ?_ ?_ _) | (with_reducible exact Nat.le_refl _) | omega | (simp; done) | (simp; omega)))
  have z0 : w0.heap.size = w.heap.size + 2 := by rw [hw0]; simp
  have c0 := b0.cells
  have l0 := b0.lt
  have c1 := b1.cells
  have l1 := b1.lt
  have HZ := Lib.hid z0
  clear z0
  go_enter Tryz.func62, Tryz.ntmps62
  go_wp2_with fail
  rw [← hw0]
  go_wp2_with fail
  refine (containsDv_nil _ w0).mono ?_
  rintro e w' ⟨rfl, hw'⟩
  replace hw' := hw'.symm
  subst hw'
  clear hw0
  go_wp2_with fail
  obtain ⟨W, hW⟩ : ∃ W, W = (w0.alloc (.map #[] 0)).alloc (.cells #[.slice (some ⟨S, 0, none⟩) x.stable.length c, .slice none 0 0, .int .i64 x.taken, .int .i64 x.power, .bool x.off, .map (some w0.heap.size)] 134) := ⟨_, rfl⟩
  have hc0 : x.cache.length = 0 := by rw [hc]; rfl
  have BW : Below w.heap.size w W := by rw [hW]; exact (B0.alloc B0.size _).alloc (by have := B0.size; simp; omega) _
  have bP : Blk W w.heap.size 61 #[.slice (some ⟨S, 0, none⟩) x.stable.length c, .slice none 0 0, .int .i64 x.taken, .int .i64 x.power, .bool x.off] := by rw [hW]; exact (b0.alloc _).alloc _
  have mW : DevMem W (w0.heap.size + 1) S c w0.heap.size (.slice none 0 0) x := by
    refine ⟨by rw [hW]; exact Blk.new' (by simp), own_below own BW, ?_, ?_⟩
    · rw [hc]; exact World.ownsRow_nil _ _ _ _
    · rw [hc, hW]
      exact (World.ownsMap_made _ _ _ _).alloc _
  have zW : W.heap.size = w0.heap.size + 2 := by rw [hW]; simp
  have HZW := Lib.hid zW
  rw [← hW]
  clear hW hmm zW c0 l0 c1 l1 b0 b1
  refine (save_any _ S c _ _ x ok W mW).mono ?_
  rintro e w3 ⟨sv, cv', rfl, ownS, ownC, hb3⟩
  obtain ⟨S', c', rfl, hS1, hS2⟩ := own_form ownS (by omega)
  obtain ⟨A', cc', hcv2, hA'⟩ : ∃ A' cc', cv' = .slice A' x.cache.length cc' ∧ (∀ g, cv'.ownBlock = some g → W.heap.size ≤ g ∧ g < w3.heap.size) := by
    refine (fun h => ?_) (fun g e => ownC.lt g e : ∀ g, cv'.ownBlock = some g → W.heap.size ≤ g ∧ g < w3.heap.size)
    rcases ownC.2 with ⟨rfl, h0⟩ | ⟨g, cap, cur, rfl, -⟩
    · exact ⟨none, 0, by rw [h0], h⟩
    · exact ⟨_, cap, rfl, h⟩
  rw [hcv2] at ownC hA'
  subst hcv2
  have bD3 := mW.dev.belowAll hb3
  have bP3 := bP.belowAll hb3
  have B3 : Below w.heap.size w w3 := BW.trans (hb3.mono BW.size)
  have mp3 := map_block mW.map (hb3.block _ mW.map.lt)
  have z3 : w0.heap.size + 2 ≤ w3.heap.size := by have := hb3.size; have := HZW.out; omega
  have hS1' : w0.heap.size + 2 ≤ S' := by have := HZW.out; omega
  have hA2 : ∀ g, (Value.slice A' x.cache.length cc').ownBlock = some g → w0.heap.size + 2 ≤ g ∧ g < w3.heap.size := fun g e => by have := hA' g e; have := HZW.out; omega
  clear hA' hb3 bP BW mW
  unfold devC at bD3
  have cD3 := bD3.cells
  have fD3 := bD3.free
  have lD3 := bD3.lt
  have cP3 := bP3.cells
  have lP3 := bP3.lt
  unfold stateC
  have nPD : w.heap.size ≠ w0.heap.size + 1 := by have := HZ.out; omega
  go_wp2_with fail
  refine wp_loop_rounds 1 ?_
  rw [rounds_succ]
  go_wp2_with fail
  go_ret2
  obtain ⟨W5, hW5⟩ : ∃ W5, W5 = ((((w3.setCell ⟨w0.heap.size + 1, 0, none⟩ (.slice (some ⟨S', 0, none⟩) x.stable.length c')).setCell ⟨w0.heap.size + 1, 1, none⟩ (.slice A' x.cache.length cc')).setCell ⟨w0.heap.size + 1, 2, none⟩ (.int .i64 x.taken)).setCell ⟨w0.heap.size + 1, 3, none⟩ (.int .i64 x.power)).setCell ⟨w0.heap.size + 1, 4, none⟩ (.bool x.off) := ⟨_, rfl⟩
  have bD5 : Blk W5 (w0.heap.size + 1) 134 (devC S' x.stable.length c' (.slice A' x.cache.length cc') x.taken x.power x.off w0.heap.size) := by
    rw [hW5]; exact ((((bD3.set_ 0 _).set_ 1 _).set_ 2 _).set_ 3 _).set_ 4 _
  have k5 : KeepEx w3.heap.size [w0.heap.size + 1] w3 W5 := by
    rw [hW5]
    exact ((((KeepEx.setCell _ (.inl (by simp)) _).trans (KeepEx.setCell _ (.inl (by simp)) _)).trans (KeepEx.setCell _ (.inl (by simp)) _)).trans (KeepEx.setCell _ (.inl (by simp)) _)).trans (KeepEx.setCell _ (.inl (by simp)) _)
  have z5 := k5.size
  have hz0 := HZ.out
  have zz0 := B0.size
  have B5 : Below w.heap.size w W5 := B3.trans (k5.toBelow B3.size (by intro k hk; simp at hk; omega))
  have lS : S' < w3.heap.size := hS2
  rw [hc0] at hW5
  rw [← hW5]
  refine ⟨w0.heap.size + 1, [w0.heap.size + 1, S', w0.heap.size] ++ (Value.slice A' x.cache.length cc').ownBlock.toList, rfl, ⟨ok, hH.below B5 hH.1, ⟨S', c', w0.heap.size, .slice A' x.cache.length cc', ⟨bD5, ?_, ?_, ?_⟩, by simp, by simp, by simp, fun g e => by simp [e]⟩, fun b hb => ?_⟩, B5, fun b hb => ?_⟩
  · exact own_block (own_base ownS (Nat.zero_le _)) (fun g e => by cases e; exact k5.block S' lS (by simp; omega))
  · exact own_block (own_base ownC (Nat.zero_le _)) (fun g e => k5.block g (hA2 g e).2 (by have := hA2 g e; simp; omega))
  · exact map_block mp3 (k5.block _ (by omega) (by simp))
  · rcases List.mem_append.1 hb with hb | hb
    · simp at hb
      have := hH.1
      rcases hb with rfl | rfl | rfl <;> omega
    · have := hA2 b (by simpa using hb)
      have := hH.1
      omega
  · rcases List.mem_append.1 hb with hb | hb
    · simp at hb
      rcases hb with rfl | rfl | rfl <;> omega
    · have := hA2 b (by simpa using hb)
      omega

/-- A new device. -/
def newDev (n : Nat) : DevS := ⟨List.replicate n zsec, [], 0, -1, false⟩
theorem newDev_ok {n : Nat} (h : 64 ≤ n ∧ n ≤ 256) : (newDev n).Ok :=
  ⟨by show 64 ≤ (List.replicate n zsec).length; simp; omega, by show (List.replicate n zsec).length ≤ 256; simp; omega, fun s hs => by
    obtain rfl := List.eq_of_mem_replicate hs
    exact ⟨zsec_length, zsec_bytes⟩, fun p hp => (by cases hp), by show 0 ≤ 400; omega, by show (0 : Int) ≤ 0 ∧ (0 : Int) ≤ 1000000000000; omega, by show (-1 : Int) ≤ -1 ∧ (-1 : Int) ≤ 1000000000000; omega⟩
theorem flat_len (n : Nat) : ((List.replicate n zsec).flatMap secV).length = n * 128 := by
  induction n with
  | zero => rfl
  | succ n ih => rw [List.replicate_succ, List.flatMap_cons, List.length_append, ih, secV_length, zsec_length, Nat.add_mul]; omega
theorem flat_zero (n : Nat) : ∀ u ∈ (List.replicate n zsec).flatMap secV, u = .int .u8 0 := by
  intro u hu
  obtain ⟨s, hs, hu⟩ := List.mem_flatMap.1 hu
  obtain rfl := List.eq_of_mem_replicate hs
  unfold secV at hu
  obtain ⟨y, hy, rfl⟩ := List.mem_map.1 hu
  rw [List.eq_of_mem_replicate (show y ∈ List.replicate 128 (0 : Int) from hy)]
theorem made_zero (k : Nat) : ∀ u ∈ (madeCells (fill (.int .u8 0) 128) k).toList, u = Value.int .u8 0 := by
  intro u hu
  unfold madeCells at hu
  simp only [Array.toList_map, List.mem_map] at hu
  obtain ⟨i, -, rfl⟩ := hu
  rw [fill_eq]
  have hlt : i % (Array.replicate 128 (Value.int .u8 0)).size < (Array.replicate 128 (Value.int .u8 0)).size := by rw [Array.size_replicate]; exact Nat.mod_lt _ (by omega)
  rw [getElem!_pos (Array.replicate 128 (Value.int .u8 0)) _ hlt]
  simp
theorem made_flat (n : Nat) : madeCells (fill (.int .u8 0) 128) (n * 128) = ((List.replicate n zsec).flatMap secV).toArray := by
  apply Array.toList_inj.1
  rw [List.eq_replicate_of_mem (made_zero (n * 128)), List.eq_replicate_of_mem (flat_zero n)]
  simp only [Array.length_toList, flat_len, size_madeCells]

set_option maxRecDepth 100000 in
set_option maxHeartbeats 1000000 in
theorem new_dev (n : Nat) (hn : 64 ≤ n ∧ n ≤ 256) (w : World) (hH : HalfAt w) :
    Calls Tryz.prog 27 #[.int .i64 n] w fun e w' => ∃ D F, e = .returned (.tuple #[.pointer (some ⟨D, 0, none⟩), .int .i64 0]) ∧ DevAt w' D F (newDev n) ∧ Below w.heap.size w w' ∧ ∀ b ∈ F, w.heap.size ≤ b := by
  have hmin : min (n : Int) 257 = n := by omega
  obtain ⟨i, hi, hz, hsz, hby⟩ := info_parts Tryz.infoSec3
  have hmk := run_make (P := Tryz.prog) w 58 137 i _ Tryz.underlying58 hi hz .i64 .i64 n n (by omega) (Int.le_refl _) (by rw [hby]; omega) (by omega)
  rw [Int.toNat_natCast, hsz] at hmk
  obtain ⟨w0, hw0⟩ : ∃ w0, w0 = w.alloc (.cells ((List.replicate n zsec).flatMap secV).toArray 137) := ⟨_, rfl⟩
  have hmk2 : (Instr.makeSlice 58 (.int .i64 n) (.int .i64 n)).run Tryz.prog w = .ok (.slice (some ⟨w.heap.size, 0, none⟩) n n) w0 := by
    rw [hmk, hw0]
    show Result.ok _ (w.alloc (.cells (madeCells (fill (.int .u8 0) 128) (n * 128)) 137)) = _
    rw [made_flat]
  have B0 : Below w.heap.size w w0 := by rw [hw0]; exact (Below.refl _ _).alloc (Nat.le_refl _) _
  have own : w0.ownsRow 0 137 128 (.slice (some ⟨w.heap.size, 0, none⟩) n n) n ((List.replicate n zsec).flatMap secV) := by
    refine ⟨flat_len n, .inr ⟨w.heap.size, n, _, rfl, Nat.zero_le _, by rw [hw0]; exact heap_alloc_new w _, Nat.le_refl _, by simp only [maxLen]; omega, by simp only [List.size_toArray]; exact flat_len n, ?_⟩⟩
    rw [List.take_of_length_le (by rw [flat_len n]; exact Nat.le_refl _)]
  have hld := load_fresh w.heap.size n (newDev n) (newDev_ok hn) rfl w0 (hH.below B0 hH.1) (by
    show w0.ownsRow 0 _ 128 (.slice (some ⟨w.heap.size, 0, none⟩) (List.replicate n zsec).length n) (List.replicate n zsec).length _
    rw [List.length_replicate]
    exact own)
  have hld2 : Calls Tryz.prog 62 #[.agg #[.slice (some ⟨w.heap.size, 0, none⟩) n n, .slice none 0 0, .int .i64 0, .int .i64 (-1), .bool false]] w0 fun e w' => ∃ D F, e = .returned (.tuple #[.pointer (some ⟨D, 0, none⟩), .int .i64 0]) ∧ DevAt w' D F (newDev n) ∧ Below w0.heap.size w0 w' ∧ ∀ b ∈ F, w0.heap.size ≤ b := by
    have e : (newDev n).stable.length = n := List.length_replicate
    rw [e] at hld
    exact hld
  clear hmk hld hi hz hsz hby own hw0
  go_enter Tryz.func27, Tryz.ntmps27
  go_wp2_with fail
  refine hld2.mono ?_
  rintro e w1 ⟨D, F, rfl, hd, hb, hF⟩
  go_wp2_with fail
  go_ret2
  exact ⟨D, F, rfl, hd, B0.trans (hb.mono B0.size), fun b hm => Nat.le_trans B0.size (hF b hm)⟩

end Go.Proofs.YtfgfdjaiamaelaaGreatDoor
/- General words for transactions: a transaction and its device; slices of ints; what is kept. -/
namespace Go.Proofs.YtfgfdjaiamaelaaGreatDoor
open Go.RowKit Go.Maps

theorem KeepEx.widen {B : Nat} {bs bs' : List Nat} {w w' : World} (h : KeepEx B bs w w') (hs : ∀ k, k ∈ bs → k ∈ bs') : KeepEx B bs' w w' := ⟨h.os, h.tape, h.output, h.size, fun k hk hn => h.block k hk (fun e => hn (hs k e))⟩

theorem Reads.growF {w w' : World} {F F' : List Nat} {A : Option Addr} {xs : List Value} (h : Reads w A xs) (g : Grow w F w' F') (hn : ∀ a, A = some a → a.block ∉ F) : Reads w' A xs := by
  rcases h with h | ⟨b, off, rfl, hl, hc⟩
  · exact .inl h
  · exact .inr ⟨b, off, rfl, Nat.lt_of_lt_of_le hl g.keep.size, fun k u hu => (World.cell?_of_block (w := w) (a := ⟨b, off + k, none⟩) (g.keep.block b hl (hn _ rfl))).trans (hc k u hu)⟩
theorem Reads.blk_lt {w : World} {A : Option Addr} {xs : List Value} (h : Reads w A xs) (h0 : 0 < xs.length) : ∀ a, A = some a → a.block < w.heap.size := by
  rcases h with rfl | ⟨b, off, rfl, hl, -⟩
  · simp at h0
  · intro a ha; cases ha; exact hl
theorem own_lt {w : World} {base : Nat} {e : TypeId} {size : Nat} {v : Value} {n : Nat} {xs : List Value} (h : w.ownsRow base e size v n xs) : ∀ q, v.ownBlock = some q → base ≤ q ∧ q < w.heap.size := by
  intro q hq
  rcases h.2 with ⟨rfl, -⟩ | ⟨g, cap, cur, rfl, hb, hk, -⟩
  · cases hq
  · cases hq; exact ⟨hb, (Array.getElem?_eq_some_iff.1 hk).1⟩

/-- A slice of ints that came in, or none. -/
structure SlI (w : World) (A : Option Addr) (c : Nat) (l : List Int) : Prop where
  reads : Reads w A (l.map (.int .i64))
  nil : A = none → l = [] ∧ c = 0
  cap : l.length ≤ c
theorem SlI.below {w w' : World} {A : Option Addr} {c : Nat} {l : List Int} (h : SlI w A c l) (hb : Below w.heap.size w w') : SlI w' A c l := ⟨h.reads.below hb, h.nil, h.cap⟩
theorem SlI.of_own {w : World} {base : Nat} {v : Value} {l : List Int} (h : w.ownsRow base 3 1 v l.length (l.map (.int .i64))) : ∃ A c, v = .slice A l.length c ∧ SlI w A c l := by
  rcases h.2 with ⟨rfl, h0⟩ | ⟨g, cap, cur, rfl, -, -, hn, -⟩
  · obtain rfl := List.length_eq_zero_iff.1 h0
    exact ⟨none, 0, rfl, .inl rfl, fun _ => ⟨rfl, rfl⟩, Nat.le_refl _⟩
  · exact ⟨_, cap, rfl, Reads.of_own h, (fun e => by cases e), hn⟩

/-- A transaction and the device that it is on. -/
structure TD (w : World) (T : Nat) (F : List Nat) (D : Nat) (y : TxS) (B : List Nat) (x : DevS) : Prop where
  tx : TxAt w T F D y
  dev : DevAt w D B x
  dis : ∀ b ∈ F, b ∉ B
theorem TD.below {w w' : World} {T : Nat} {F : List Nat} {D : Nat} {y : TxS} {B : List Nat} {x : DevS} (h : TD w T F D y B x) (hb : Below w.heap.size w w') : TD w' T F D y B x := ⟨h.tx.below hb, h.dev.below hb, h.dis⟩
theorem TD.F0 {w : World} {T : Nat} {F : List Nat} {D : Nat} {y : TxS} {B : List Nat} {x : DevS} (h : TD w T F D y B x) : 0 ∉ F := fun hm => by have := (h.tx.lt 0 hm).1; omega
theorem TD.grow {w w' : World} {T : Nat} {F F' : List Nat} {D : Nat} {y y' : TxS} {B : List Nat} {x : DevS} (h : TD w T F D y B x) (ht : TxAt w' T F' D y') (g : Grow w F w' F') : TD w' T F' D y' B x :=
  ⟨ht, h.dev.grow g h.dis h.F0, fun b hb hm => by
    rcases g.new b hb with hf | hf
    · exact h.dis b hf hm
    · have := (h.dev.lt b hm).2; omega⟩
theorem TD.set_ {w : World} {T : Nat} {F : List Nat} {D : Nat} {y : TxS} {B : List Nat} {x : DevS} (h : TD w T F D y B x) {p : Addr} (hF : p.block ∉ F) (hB : p.block ∉ B) (h0 : p.block ≠ 0) (u : Value) : TD (w.setCell p u) T F D y B x :=
  ⟨h.tx.set_ hF u, h.dev.set_ hB h0 u, h.dis⟩
theorem TD.keep {w w' : World} {T : Nat} {F : List Nat} {D : Nat} {y : TxS} {B : List Nat} {x : DevS} (h : TD w T F D y B x) (hk : ∀ b, b ∈ F ∨ b ∈ B ∨ b = 0 → w'.heap[b]? = w.heap[b]?) (hs : w.heap.size ≤ w'.heap.size) : TD w' T F D y B x :=
  ⟨h.tx.frame (fun b hb => hk b (.inl hb)) hs, h.dev.frame (fun b hb => hk b (.inr hb)) hs, h.dis⟩

/-- A world that is kept below n0 but for the blocks of F; and what has become of F. -/
structure GrowN (n0 : Nat) (w : World) (F : List Nat) (w' : World) (F' : List Nat) : Prop where
  keep : KeepEx n0 F w w'
  new : ∀ b ∈ F', b ∈ F ∨ n0 ≤ b
theorem GrowN.refl (n0 : Nat) (w : World) (F : List Nat) : GrowN n0 w F w F := ⟨KeepEx.refl _ _ _, fun _ h => .inl h⟩
theorem GrowN.trans {n0 : Nat} {w w1 w2 : World} {F F1 F2 : List Nat} (h : GrowN n0 w F w1 F1) (k : GrowN n0 w1 F1 w2 F2) : GrowN n0 w F w2 F2 :=
  ⟨⟨k.keep.os.trans h.keep.os, k.keep.tape.trans h.keep.tape, k.keep.output.trans h.keep.output, Nat.le_trans h.keep.size k.keep.size, fun b hb hn => (k.keep.block b hb (fun hm => (h.new b hm).elim hn (fun h9 => by omega))).trans (h.keep.block b hb hn)⟩,
   fun b hb => (k.new b hb).elim (fun h1 => h.new b h1) .inr⟩
theorem Grow.toN {n0 : Nat} {w w' : World} {F F' : List Nat} (h : Grow w F w' F') (hn : n0 ≤ w.heap.size) : GrowN n0 w F w' F' :=
  ⟨⟨h.keep.os, h.keep.tape, h.keep.output, h.keep.size, fun b hb hm => h.keep.block b (by omega) hm⟩, fun b hb => (h.new b hb).imp id (fun h1 => by omega)⟩
theorem GrowN.of_below {n0 : Nat} {w w' : World} (h : Below w.heap.size w w') (hn : n0 ≤ w.heap.size) (F : List Nat) : GrowN n0 w F w' F := (Grow.of_below h F).toN hn
theorem GrowN.set_ {n0 : Nat} {w V : World} {F F' : List Nat} (h : GrowN n0 w F V F') {p : Addr} (hp : n0 ≤ p.block) (u : Value) : GrowN n0 w F (V.setCell p u) F' :=
  ⟨h.keep.trans (KeepEx.setCell V (.inr hp) u), h.new⟩
theorem GrowN.toGrow {w w' : World} {F F' : List Nat} (h : GrowN w.heap.size w F w' F') : Grow w F w' F' := ⟨h.keep, h.new⟩

theorem newDev_ge {n : Nat} (hn : 64 ≤ n ∧ n ≤ 256) {a : Int} (ha : 0 ≤ a ∧ a < n) : (newDev n).ge a = 70 := by
  have hr : (newDev n).reads a = zsec := by
    show (List.replicate n zsec).getD a.toNat [] = zsec
    rw [List.getD_eq_getElem?_getD, List.getElem?_replicate, if_pos (by omega)]; rfl
  show getE false (List.replicate n zsec).length a ((newDev n).reads a) = 70
  unfold getE
  rw [if_pos (show Go.Proofs.YtfgfdjaiamaelaaGreatDoor.atE _ _ a = 0 from by unfold Go.Proofs.YtfgfdjaiamaelaaGreatDoor.atE; rw [if_neg (by simp), if_neg (by rw [List.length_replicate]; omega)]), hr]
  unfold openE
  rw [if_neg (by omega), if_pos rfl]
theorem fr_blank {x : DevS} {a : Int} (h : x.ge a = 70) : x.fr a = noFr := by unfold DevS.fr; rw [h, if_neg (by decide)]
def yA : TxS := ⟨64, 8, 40, List.replicate 14 false, List.replicate 14 false, [], false, false, false⟩

end Go.Proofs.YtfgfdjaiamaelaaGreatDoor
