/- Parts of the proof, put together by program: G4, H9, Z2, Z3. -/
import Derived.Test.YtljmdcegcckblaaGreatDoorQuart31
import Derived.Test.YtljmdcegcckblaaGreatDoorQuart19
import Derived.Test.YtljmdcegcckblaaGreatDoorQuart22
import Derived.Test.YtljmdcegcckblaaGreatDoorQuart23
import Derived.Test.YtljmdcegcckblaaGreatDoorQuart01
/- Layer 6: Load of a device without a cache; New. -/
namespace Go.Proofs.YtljmdcegcckblaaGreatDoor
open Go.RowKit Go.Maps

set_option maxRecDepth 100000 in
set_option maxHeartbeats 400000 in
theorem indexDv_nil (fv : Value) (w : World) :
    Calls Tryz.prog 133 #[.slice none 0 0, fv] w fun e w' => e = .returned (.int .i64 (-1)) ∧ w' = w := by
  go_enter Tryz.func133, Tryz.ntmps133
  go_wp2_with fail
  refine wp_loop_rounds 1 ?_
  rw [rounds_succ]
  go_wp2_with fail
  go_ret
  exact ⟨rfl, rfl⟩
set_option maxRecDepth 100000 in
set_option maxHeartbeats 400000 in
theorem containsDv_nil (fv : Value) (w : World) :
    Calls Tryz.prog 91 #[.slice none 0 0, fv] w fun e w' => e = .returned (.bool false) ∧ w' = w := by
  go_enter Tryz.func91, Tryz.ntmps91
  go_wp2_with fail
  refine (indexDv_nil fv w).mono ?_
  rintro e w1 ⟨rfl, rfl⟩
  go_wp2_with fail
  go_ret
  exact ⟨rfl, rfl⟩

set_option maxRecDepth 100000 in
set_option maxHeartbeats 2000000 in
theorem load_fresh (S c : Nat) (x : DevS) (ok : x.Ok) (hc : x.cache = []) (w : World) (hH : HalfAt w) (own : w.ownsRow 0 141 128 (.slice (some ⟨S, 0, none⟩) x.stable.length c) x.stable.length (x.stable.flatMap secV)) :
    Calls Tryz.prog 62 #[.agg #[.slice (some ⟨S, 0, none⟩) x.stable.length c, .slice none 0 0, .int .i64 x.taken, .int .i64 x.power, .bool x.off]] w fun e w' =>
      ∃ D F, e = .returned (.tuple #[.pointer (some ⟨D, 0, none⟩), .int .i64 0]) ∧ DevAt w' D F x ∧ Below w.heap.size w w' ∧ ∀ b ∈ F, w.heap.size ≤ b := by
  have hmf : ∀ (fn : Fn) (first cap : Array Value) (w : World), (Instr.makeFunc fn first cap).run Tryz.prog w = .ok (.func fn first cap) w := fun _ _ _ _ => rfl
  have hlo := ok.lo
  have hhi := ok.hi
  have htk := ok.tk
  have hpw := ok.pw
  have d1 : decide ((x.stable.length : Int) < 64) = false := decide_eq_false (by omega)
  have d2 : decide (256 < (x.stable.length : Int)) = false := decide_eq_false (by omega)
  have d3 : decide (x.taken < 0) = false := decide_eq_false (by omega)
  have d4 : decide (1000000000000 < x.taken) = false := decide_eq_false (by omega)
  have d5 : decide (x.power < -1) = false := decide_eq_false (by omega)
  have d6 : decide (1000000000000 < x.power) = false := decide_eq_false (by omega)
  have hmm := @run_makeMap Tryz.prog
  obtain ⟨w0, hw0⟩ : ∃ w0, w0 = (w.alloc (.cells #[.slice (some ⟨S, 0, none⟩) x.stable.length c, .slice none 0 0, .int .i64 x.taken, .int .i64 x.power, .bool x.off] 83)).alloc (.cells #[.int .i64 x.stable.length] 3) := ⟨_, rfl⟩
  have b0 : Blk w0 w.heap.size 83 #[.slice (some ⟨S, 0, none⟩) x.stable.length c, .slice none 0 0, .int .i64 x.taken, .int .i64 x.power, .bool x.off] := by rw [hw0]; exact (by (repeat' (first | (with_reducible assumption) | exact Blk.new' (by simp) | refine Blk.alloc ?_ _)))
  have b1 : Blk w0 (w.heap.size + 1) 3 #[.int .i64 x.stable.length] := by rw [hw0]; exact (by (repeat' (first | (with_reducible assumption) | exact Blk.new' (by simp) | refine Blk.alloc ?_ _)))
  have B0 : Below w.heap.size w w0 := by rw [hw0]; (repeat' (first | (with_reducible exact Below.refl _ _) | (with_reducible assumption) | (with_reducible refine Below.alloc ?_ ?_ _) | (with_reducible refine Below.drew ?_) | (with_reducible refine below_drewN' ?_ _) | (with_reducible refine Below.setCell ?_ ?_ _) | (with_reducible exact Nat.le_refl _) | omega | (simp; done) | (simp; omega)))
  have z0 : w0.heap.size = w.heap.size + 2 := by rw [hw0]; simp
  have c0 := b0.cells
  have l0 := b0.lt
  have c1 := b1.cells
  have l1 := b1.lt
  have HZ := Lib.hid z0
  clear z0
  go_enter Tryz.func62, Tryz.ntmps62
  go_wp2_with fail
  rw [← hw0]
  go_wp2_with fail
  refine (containsDv_nil _ w0).mono ?_
  rintro e w' ⟨rfl, hw'⟩
  replace hw' := hw'.symm
  subst hw'
  clear hw0
  go_wp2_with fail
  obtain ⟨W, hW⟩ : ∃ W, W = (w0.alloc (.map #[] 0)).alloc (.cells #[.slice (some ⟨S, 0, none⟩) x.stable.length c, .slice none 0 0, .int .i64 x.taken, .int .i64 x.power, .bool x.off, .map (some w0.heap.size)] 138) := ⟨_, rfl⟩
  have hc0 : x.cache.length = 0 := by rw [hc]; rfl
  have BW : Below w.heap.size w W := by rw [hW]; exact (B0.alloc B0.size _).alloc (by have := B0.size; simp; omega) _
  have bP : Blk W w.heap.size 83 #[.slice (some ⟨S, 0, none⟩) x.stable.length c, .slice none 0 0, .int .i64 x.taken, .int .i64 x.power, .bool x.off] := by rw [hW]; exact (b0.alloc _).alloc _
  have mW : DevMem W (w0.heap.size + 1) S c w0.heap.size (.slice none 0 0) x := by
    refine ⟨by rw [hW]; exact Blk.new' (by simp), own_below own BW, ?_, ?_⟩
    · rw [hc]; exact World.ownsRow_nil _ _ _ _
    · rw [hc, hW]
      exact (World.ownsMap_made _ _ _ _).alloc _
  have zW : W.heap.size = w0.heap.size + 2 := by rw [hW]; simp
  have HZW := Lib.hid zW
  rw [← hW]
  clear hW hmm zW c0 l0 c1 l1 b0 b1
  refine (save_any _ S c _ _ x ok W mW).mono ?_
  rintro e w3 ⟨sv, cv', rfl, ownS, ownC, hb3⟩
  obtain ⟨S', c', rfl, hS1, hS2⟩ := own_form ownS (by omega)
  obtain ⟨A', cc', hcv2, hA'⟩ : ∃ A' cc', cv' = .slice A' x.cache.length cc' ∧ (∀ g, cv'.ownBlock = some g → W.heap.size ≤ g ∧ g < w3.heap.size) := by
    refine (fun h => ?_) (fun g e => ownC.lt g e : ∀ g, cv'.ownBlock = some g → W.heap.size ≤ g ∧ g < w3.heap.size)
    rcases ownC.2 with ⟨rfl, h0⟩ | ⟨g, cap, cur, rfl, -⟩
    · exact ⟨none, 0, by rw [h0], h⟩
    · exact ⟨_, cap, rfl, h⟩
  rw [hcv2] at ownC hA'
  subst hcv2
  have bD3 := mW.dev.belowAll hb3
  have bP3 := bP.belowAll hb3
  have B3 : Below w.heap.size w w3 := BW.trans (hb3.mono BW.size)
  have mp3 := map_block mW.map (hb3.block _ mW.map.lt)
  have z3 : w0.heap.size + 2 ≤ w3.heap.size := by have := hb3.size; have := HZW.out; omega
  have hS1' : w0.heap.size + 2 ≤ S' := by have := HZW.out; omega
  have hA2 : ∀ g, (Value.slice A' x.cache.length cc').ownBlock = some g → w0.heap.size + 2 ≤ g ∧ g < w3.heap.size := fun g e => by have := hA' g e; have := HZW.out; omega
  clear hA' hb3 bP BW mW
  unfold devC at bD3
  have cD3 := bD3.cells
  have fD3 := bD3.free
  have lD3 := bD3.lt
  have cP3 := bP3.cells
  have lP3 := bP3.lt
  unfold stateC
  have nPD : w.heap.size ≠ w0.heap.size + 1 := by have := HZ.out; omega
  go_wp2_with fail
  refine wp_loop_rounds 1 ?_
  rw [rounds_succ]
  go_wp2_with fail
  go_ret2
  obtain ⟨W5, hW5⟩ : ∃ W5, W5 = ((((w3.setCell ⟨w0.heap.size + 1, 0, none⟩ (.slice (some ⟨S', 0, none⟩) x.stable.length c')).setCell ⟨w0.heap.size + 1, 1, none⟩ (.slice A' x.cache.length cc')).setCell ⟨w0.heap.size + 1, 2, none⟩ (.int .i64 x.taken)).setCell ⟨w0.heap.size + 1, 3, none⟩ (.int .i64 x.power)).setCell ⟨w0.heap.size + 1, 4, none⟩ (.bool x.off) := ⟨_, rfl⟩
  have bD5 : Blk W5 (w0.heap.size + 1) 138 (devC S' x.stable.length c' (.slice A' x.cache.length cc') x.taken x.power x.off w0.heap.size) := by
    rw [hW5]; exact ((((bD3.set_ 0 _).set_ 1 _).set_ 2 _).set_ 3 _).set_ 4 _
  have k5 : KeepEx w3.heap.size [w0.heap.size + 1] w3 W5 := by
    rw [hW5]
    exact ((((KeepEx.setCell _ (.inl (by simp)) _).trans (KeepEx.setCell _ (.inl (by simp)) _)).trans (KeepEx.setCell _ (.inl (by simp)) _)).trans (KeepEx.setCell _ (.inl (by simp)) _)).trans (KeepEx.setCell _ (.inl (by simp)) _)
  have z5 := k5.size
  have hz0 := HZ.out
  have zz0 := B0.size
  have B5 : Below w.heap.size w W5 := B3.trans (k5.toBelow B3.size (by intro k hk; simp at hk; omega))
  have lS : S' < w3.heap.size := hS2
  rw [hc0] at hW5
  rw [← hW5]
  refine ⟨w0.heap.size + 1, [w0.heap.size + 1, S', w0.heap.size] ++ (Value.slice A' x.cache.length cc').ownBlock.toList, rfl, ⟨ok, hH.below B5 hH.1, ⟨S', c', w0.heap.size, .slice A' x.cache.length cc', ⟨bD5, ?_, ?_, ?_⟩, by simp, by simp, by simp, fun g e => by simp [e]⟩, fun b hb => ?_⟩, B5, fun b hb => ?_⟩
  · exact own_block (own_base ownS (Nat.zero_le _)) (fun g e => by cases e; exact k5.block S' lS (by simp; omega))
  · exact own_block (own_base ownC (Nat.zero_le _)) (fun g e => k5.block g (hA2 g e).2 (by have := hA2 g e; simp; omega))
  · exact map_block mp3 (k5.block _ (by omega) (by simp))
  · rcases List.mem_append.1 hb with hb | hb
    · simp at hb
      have := hH.1
      rcases hb with rfl | rfl | rfl <;> omega
    · have := hA2 b (by simpa using hb)
      have := hH.1
      omega
  · rcases List.mem_append.1 hb with hb | hb
    · simp at hb
      rcases hb with rfl | rfl | rfl <;> omega
    · have := hA2 b (by simpa using hb)
      omega

/-- A new device. -/
def newDev (n : Nat) : DevS := ⟨List.replicate n zsec, [], 0, -1, false⟩
theorem newDev_ok {n : Nat} (h : 64 ≤ n ∧ n ≤ 256) : (newDev n).Ok :=
  ⟨by show 64 ≤ (List.replicate n zsec).length; simp; omega, by show (List.replicate n zsec).length ≤ 256; simp; omega, fun s hs => by
    obtain rfl := List.eq_of_mem_replicate hs
    exact ⟨zsec_length, zsec_bytes⟩, fun p hp => (by cases hp), by show 0 ≤ 400; omega, by show (0 : Int) ≤ 0 ∧ (0 : Int) ≤ 1000000000000; omega, by show (-1 : Int) ≤ -1 ∧ (-1 : Int) ≤ 1000000000000; omega⟩
theorem flat_len (n : Nat) : ((List.replicate n zsec).flatMap secV).length = n * 128 := by
  induction n with
  | zero => rfl
  | succ n ih => rw [List.replicate_succ, List.flatMap_cons, List.length_append, ih, secV_length, zsec_length, Nat.add_mul]; omega
theorem flat_zero (n : Nat) : ∀ u ∈ (List.replicate n zsec).flatMap secV, u = .int .u8 0 := by
  intro u hu
  obtain ⟨s, hs, hu⟩ := List.mem_flatMap.1 hu
  obtain rfl := List.eq_of_mem_replicate hs
  unfold secV at hu
  obtain ⟨y, hy, rfl⟩ := List.mem_map.1 hu
  rw [List.eq_of_mem_replicate (show y ∈ List.replicate 128 (0 : Int) from hy)]
theorem made_zero (k : Nat) : ∀ u ∈ (madeCells (fill (.int .u8 0) 128) k).toList, u = Value.int .u8 0 := by
  intro u hu
  unfold madeCells at hu
  simp only [Array.toList_map, List.mem_map] at hu
  obtain ⟨i, -, rfl⟩ := hu
  rw [fill_eq]
  have hlt : i % (Array.replicate 128 (Value.int .u8 0)).size < (Array.replicate 128 (Value.int .u8 0)).size := by rw [Array.size_replicate]; exact Nat.mod_lt _ (by omega)
  rw [getElem!_pos (Array.replicate 128 (Value.int .u8 0)) _ hlt]
  simp
theorem made_flat (n : Nat) : madeCells (fill (.int .u8 0) 128) (n * 128) = ((List.replicate n zsec).flatMap secV).toArray := by
  apply Array.toList_inj.1
  rw [List.eq_replicate_of_mem (made_zero (n * 128)), List.eq_replicate_of_mem (flat_zero n)]
  simp only [Array.length_toList, flat_len, size_madeCells]

set_option maxRecDepth 100000 in
set_option maxHeartbeats 1000000 in
theorem new_dev (n : Nat) (hn : 64 ≤ n ∧ n ≤ 256) (w : World) (hH : HalfAt w) :
    Calls Tryz.prog 34 #[.int .i64 n] w fun e w' => ∃ D F, e = .returned (.tuple #[.pointer (some ⟨D, 0, none⟩), .int .i64 0]) ∧ DevAt w' D F (newDev n) ∧ Below w.heap.size w w' ∧ ∀ b ∈ F, w.heap.size ≤ b := by
  have hmin : min (n : Int) 257 = n := by omega
  obtain ⟨i, hi, hz, hsz, hby⟩ := info_parts Tryz.infoSec3
  have hmk := run_make (P := Tryz.prog) w 80 141 i _ Tryz.underlying80 hi hz .i64 .i64 n n (by omega) (Int.le_refl _) (by rw [hby]; omega) (by omega)
  rw [Int.toNat_natCast, hsz] at hmk
  obtain ⟨w0, hw0⟩ : ∃ w0, w0 = w.alloc (.cells ((List.replicate n zsec).flatMap secV).toArray 141) := ⟨_, rfl⟩
  have hmk2 : (Instr.makeSlice 80 (.int .i64 n) (.int .i64 n)).run Tryz.prog w = .ok (.slice (some ⟨w.heap.size, 0, none⟩) n n) w0 := by
    rw [hmk, hw0]
    show Result.ok _ (w.alloc (.cells (madeCells (fill (.int .u8 0) 128) (n * 128)) 141)) = _
    rw [made_flat]
  have B0 : Below w.heap.size w w0 := by rw [hw0]; exact (Below.refl _ _).alloc (Nat.le_refl _) _
  have own : w0.ownsRow 0 141 128 (.slice (some ⟨w.heap.size, 0, none⟩) n n) n ((List.replicate n zsec).flatMap secV) := by
    refine ⟨flat_len n, .inr ⟨w.heap.size, n, _, rfl, Nat.zero_le _, by rw [hw0]; exact heap_alloc_new w _, Nat.le_refl _, by simp only [maxLen]; omega, by simp only [List.size_toArray]; exact flat_len n, ?_⟩⟩
    rw [List.take_of_length_le (by rw [flat_len n]; exact Nat.le_refl _)]
  have hld := load_fresh w.heap.size n (newDev n) (newDev_ok hn) rfl w0 (hH.below B0 hH.1) (by
    show w0.ownsRow 0 _ 128 (.slice (some ⟨w.heap.size, 0, none⟩) (List.replicate n zsec).length n) (List.replicate n zsec).length _
    rw [List.length_replicate]
    exact own)
  have hld2 : Calls Tryz.prog 62 #[.agg #[.slice (some ⟨w.heap.size, 0, none⟩) n n, .slice none 0 0, .int .i64 0, .int .i64 (-1), .bool false]] w0 fun e w' => ∃ D F, e = .returned (.tuple #[.pointer (some ⟨D, 0, none⟩), .int .i64 0]) ∧ DevAt w' D F (newDev n) ∧ Below w0.heap.size w0 w' ∧ ∀ b ∈ F, w0.heap.size ≤ b := by
    have e : (newDev n).stable.length = n := List.length_replicate
    rw [e] at hld
    exact hld
  clear hmk hld hi hz hsz hby own hw0
  go_enter Tryz.func34, Tryz.ntmps34
  go_wp2_with fail
  refine hld2.mono ?_
  rintro e w1 ⟨D, F, rfl, hd, hb, hF⟩
  go_wp2_with fail
  go_ret2
  exact ⟨D, F, rfl, hd, B0.trans (hb.mono B0.size), fun b hm => Nat.le_trans B0.size (hF b hm)⟩

end Go.Proofs.YtljmdcegcckblaaGreatDoor
/- General words for transactions: a transaction and its device; slices of ints; what is kept. -/
namespace Go.Proofs.YtljmdcegcckblaaGreatDoor
open Go.RowKit Go.Maps

theorem KeepEx.widen {B : Nat} {bs bs' : List Nat} {w w' : World} (h : KeepEx B bs w w') (hs : ∀ k, k ∈ bs → k ∈ bs') : KeepEx B bs' w w' := ⟨h.os, h.tape, h.output, h.size, fun k hk hn => h.block k hk (fun e => hn (hs k e))⟩

theorem Reads.growF {w w' : World} {F F' : List Nat} {A : Option Addr} {xs : List Value} (h : Reads w A xs) (g : Grow w F w' F') (hn : ∀ a, A = some a → a.block ∉ F) : Reads w' A xs := by
  rcases h with h | ⟨b, off, rfl, hl, hc⟩
  · exact .inl h
  · exact .inr ⟨b, off, rfl, Nat.lt_of_lt_of_le hl g.keep.size, fun k u hu => (World.cell?_of_block (w := w) (a := ⟨b, off + k, none⟩) (g.keep.block b hl (hn _ rfl))).trans (hc k u hu)⟩
theorem own_lt {w : World} {base : Nat} {e : TypeId} {size : Nat} {v : Value} {n : Nat} {xs : List Value} (h : w.ownsRow base e size v n xs) : ∀ q, v.ownBlock = some q → base ≤ q ∧ q < w.heap.size := by
  intro q hq
  rcases h.2 with ⟨rfl, -⟩ | ⟨g, cap, cur, rfl, hb, hk, -⟩
  · cases hq
  · cases hq; exact ⟨hb, (Array.getElem?_eq_some_iff.1 hk).1⟩

/-- A slice of ints that came in, or none. -/
structure SlI (w : World) (A : Option Addr) (c : Nat) (l : List Int) : Prop where
  reads : Reads w A (l.map (.int .i64))
  nil : A = none → l = [] ∧ c = 0
  cap : l.length ≤ c
theorem SlI.below {w w' : World} {A : Option Addr} {c : Nat} {l : List Int} (h : SlI w A c l) (hb : Below w.heap.size w w') : SlI w' A c l := ⟨h.reads.below hb, h.nil, h.cap⟩
theorem SlI.of_own {w : World} {base : Nat} {v : Value} {l : List Int} (h : w.ownsRow base 3 1 v l.length (l.map (.int .i64))) : ∃ A c, v = .slice A l.length c ∧ SlI w A c l := by
  rcases h.2 with ⟨rfl, h0⟩ | ⟨g, cap, cur, rfl, -, -, hn, -⟩
  · obtain rfl := List.length_eq_zero_iff.1 h0
    exact ⟨none, 0, rfl, .inl rfl, fun _ => ⟨rfl, rfl⟩, Nat.le_refl _⟩
  · exact ⟨_, cap, rfl, Reads.of_own h, (fun e => by cases e), hn⟩

/-- A transaction and the device that it is on. -/
structure TD (w : World) (T : Nat) (F : List Nat) (D : Nat) (y : TxS) (B : List Nat) (x : DevS) : Prop where
  tx : TxAt w T F D y
  dev : DevAt w D B x
  dis : ∀ b ∈ F, b ∉ B
theorem TD.below {w w' : World} {T : Nat} {F : List Nat} {D : Nat} {y : TxS} {B : List Nat} {x : DevS} (h : TD w T F D y B x) (hb : Below w.heap.size w w') : TD w' T F D y B x := ⟨h.tx.below hb, h.dev.below hb, h.dis⟩
theorem TD.F0 {w : World} {T : Nat} {F : List Nat} {D : Nat} {y : TxS} {B : List Nat} {x : DevS} (h : TD w T F D y B x) : 0 ∉ F := fun hm => by have := (h.tx.lt 0 hm).1; omega
theorem TD.grow {w w' : World} {T : Nat} {F F' : List Nat} {D : Nat} {y y' : TxS} {B : List Nat} {x : DevS} (h : TD w T F D y B x) (ht : TxAt w' T F' D y') (g : Grow w F w' F') : TD w' T F' D y' B x :=
  ⟨ht, h.dev.grow g h.dis h.F0, fun b hb hm => by
    rcases g.new b hb with hf | hf
    · exact h.dis b hf hm
    · have := (h.dev.lt b hm).2; omega⟩
theorem TD.set_ {w : World} {T : Nat} {F : List Nat} {D : Nat} {y : TxS} {B : List Nat} {x : DevS} (h : TD w T F D y B x) {p : Addr} (hF : p.block ∉ F) (hB : p.block ∉ B) (h0 : p.block ≠ 0) (u : Value) : TD (w.setCell p u) T F D y B x :=
  ⟨h.tx.set_ hF u, h.dev.set_ hB h0 u, h.dis⟩
theorem TD.keep {w w' : World} {T : Nat} {F : List Nat} {D : Nat} {y : TxS} {B : List Nat} {x : DevS} (h : TD w T F D y B x) (hk : ∀ b, b ∈ F ∨ b ∈ B ∨ b = 0 → w'.heap[b]? = w.heap[b]?) (hs : w.heap.size ≤ w'.heap.size) : TD w' T F D y B x :=
  ⟨h.tx.frame (fun b hb => hk b (.inl hb)) hs, h.dev.frame (fun b hb => hk b (.inr hb)) hs, h.dis⟩

/-- A world that is kept below n0 but for the blocks of F; and what has become of F. -/
structure GrowN (n0 : Nat) (w : World) (F : List Nat) (w' : World) (F' : List Nat) : Prop where
  keep : KeepEx n0 F w w'
  new : ∀ b ∈ F', b ∈ F ∨ n0 ≤ b
theorem GrowN.refl (n0 : Nat) (w : World) (F : List Nat) : GrowN n0 w F w F := ⟨KeepEx.refl _ _ _, fun _ h => .inl h⟩
theorem GrowN.trans {n0 : Nat} {w w1 w2 : World} {F F1 F2 : List Nat} (h : GrowN n0 w F w1 F1) (k : GrowN n0 w1 F1 w2 F2) : GrowN n0 w F w2 F2 :=
  ⟨⟨k.keep.os.trans h.keep.os, k.keep.tape.trans h.keep.tape, k.keep.output.trans h.keep.output, Nat.le_trans h.keep.size k.keep.size, fun b hb hn => (k.keep.block b hb (fun hm => (h.new b hm).elim hn (fun h9 => by omega))).trans (h.keep.block b hb hn)⟩,
   fun b hb => (k.new b hb).elim (fun h1 => h.new b h1) .inr⟩
theorem Grow.toN {n0 : Nat} {w w' : World} {F F' : List Nat} (h : Grow w F w' F') (hn : n0 ≤ w.heap.size) : GrowN n0 w F w' F' :=
  ⟨⟨h.keep.os, h.keep.tape, h.keep.output, h.keep.size, fun b hb hm => h.keep.block b (by omega) hm⟩, fun b hb => (h.new b hb).imp id (fun h1 => by omega)⟩
theorem GrowN.of_below {n0 : Nat} {w w' : World} (h : Below w.heap.size w w') (hn : n0 ≤ w.heap.size) (F : List Nat) : GrowN n0 w F w' F := (Grow.of_below h F).toN hn
theorem GrowN.set_ {n0 : Nat} {w V : World} {F F' : List Nat} (h : GrowN n0 w F V F') {p : Addr} (hp : n0 ≤ p.block) (u : Value) : GrowN n0 w F (V.setCell p u) F' :=
  ⟨h.keep.trans (KeepEx.setCell V (.inr hp) u), h.new⟩
theorem GrowN.toGrow {w w' : World} {F F' : List Nat} (h : GrowN w.heap.size w F w' F') : Grow w F w' F' := ⟨h.keep, h.new⟩

theorem newDev_ge {n : Nat} (hn : 64 ≤ n ∧ n ≤ 256) {a : Int} (ha : 0 ≤ a ∧ a < n) : (newDev n).ge a = 70 := by
  have hr : (newDev n).reads a = zsec := by
    show (List.replicate n zsec).getD a.toNat [] = zsec
    rw [List.getD_eq_getElem?_getD, List.getElem?_replicate, if_pos (by omega)]; rfl
  show getE false (List.replicate n zsec).length a ((newDev n).reads a) = 70
  unfold getE
  rw [if_pos (show Go.Proofs.YtljmdcegcckblaaGreatDoor.atE _ _ a = 0 from by unfold Go.Proofs.YtljmdcegcckblaaGreatDoor.atE; rw [if_neg (by simp), if_neg (by rw [List.length_replicate]; omega)]), hr]
  unfold openE
  rw [if_neg (by omega), if_pos rfl]
theorem fr_blank {x : DevS} {a : Int} (h : x.ge a = 70) : x.fr a = noFr := by unfold DevS.fr; rw [h, if_neg (by decide)]
def yA : TxS := ⟨64, 8, 40, List.replicate 14 false, List.replicate 14 false, [], false, false, false⟩

end Go.Proofs.YtljmdcegcckblaaGreatDoor
/- Layer 12: cuts, Collect of what it yields, Split. -/
namespace Go.Proofs.YtljmdcegcckblaaGreatDoor
open Go.RowKit Go.Shelf

attribute [local go_sem] Oper.semAt_some

theorem Tryz.infoStr : (Tryz.prog.info? 9).map (fun i => (i.zero, i.size, i.bytes)) = some (some (.string ⟨#[]⟩), 1, 16) := by kernel_rfl

set_option maxHeartbeats 400000 in
theorem cuts_any (s : ByteArray) (w : World) :
    Calls Tryz.prog 48 #[.string s] w fun e w' => e = .returned (.func (.func 75) #[] #[.pointer (some ⟨w.heap.size, 0, none⟩)]) ∧ w' = w.alloc (.cells #[.string s] 9) := by
  have hmf : ∀ (fn : Fn) (first cap : Array Value) (w : World), (Instr.makeFunc fn first cap).run Tryz.prog w = .ok (.func fn first cap) w := fun _ _ _ _ => rfl
  go_enter Tryz.func48, Tryz.ntmps48
  go_wp2
  go_ret
  exact ⟨rfl, rfl⟩

def StrsBox (B base : Nat) (l : List ByteArray) (W : World) : Prop :=
  ∃ v, Boxed W B 42 v ∧ W.ownsRow base 9 1 v l.length (l.map Value.string) ∧ (v = .slice none 0 0 ↔ l = [])
theorem strsBox_own (B base C : Nat) : OwnFrom C (fun (l : List ByteArray) W => StrsBox B base l W) :=
  Own.from (holdsRow_own base B 42 9 1 (fun l : List ByteArray => l.length) (fun l => l.map Value.string) (fun l v => v = .slice none 0 0 ↔ l = [])) C
theorem StrsBox.set_ {B base Bs : Nat} {l : List ByteArray} {W : World} (h : StrsBox B base l W) (h1 : Bs ≠ B) (h2 : Bs < base) (u : Value) : StrsBox B base l (W.setCell ⟨Bs, 0, none⟩ u) := by
  obtain ⟨v, hv, hrow, hn⟩ := h
  exact ⟨v, Blk.far hv (Ne.symm h1) u, ownsRow_setCell_below hrow h2 u, hn⟩

def CollPost (l : List ByteArray) (Bs : Nat) (w : World) (e : Ending) (w' : World) : Prop :=
  ∃ v, e = .returned v ∧ w'.ownsRow w.heap.size 9 1 v l.length (l.map .string) ∧ (v = .slice none 0 0 ↔ l = []) ∧ KeepEx w.heap.size [Bs] w w'

theorem cutsL_length (s : ByteArray) : (cutsL s).length = nCuts s.size := by unfold cutsL; simp

set_option maxRecDepth 100000 in
set_option maxHeartbeats 2000000 in
theorem appendSeq_cuts (Bs : Nat) (s : ByteArray) (hs : s.size ≤ 100000) (w : World) (b : Blk w Bs 9 #[.string s]) :
    Calls Tryz.prog 74 #[.slice none 0 0, .func (.func 75) #[] #[.pointer (some ⟨Bs, 0, none⟩)]] w (CollPost (cutsL s) Bs w) := by
  refine calls_of_marks Tryz.func74 rfl ?_
  simp only [Tryz.ntmps74, List.size_toArray, List.length_cons, List.length_nil, Nat.reduceAdd, Nat.reduceSub, Array.replicate_succ, Array.replicate_zero, List.push_toArray, List.append_toArray, List.nil_append, List.cons_append]
  have lB := b.lt
  obtain ⟨W1, hW1⟩ : ∃ W1, W1 = w.alloc (.cells #[.slice none 0 0] 42) := ⟨_, rfl⟩
  have b1 : Blk W1 Bs 9 #[.string s] := by rw [hW1]; exact b.alloc _
  have bL1 : Boxed W1 w.heap.size 42 (.slice none 0 0) := by rw [hW1]; exact Blk.new _ _ _
  have hz1 : W1.heap.size = w.heap.size + 1 := by rw [hW1]; simp
  have B1 : Below w.heap.size w W1 := by rw [hW1]; exact (Below.refl _ _).alloc (Nat.le_refl _) _
  obtain ⟨i0, hi, hz0, hzs, hzb⟩ := info_parts Tryz.infoStr
  have HHI := Lib.hid hi
  clear hi
  go_wp2_with fail
  rw [← hW1]
  clear hW1
  refine range_meet (n := 6) (fun D W => W.heap[D]? = some (.deferred (some [])) ∧ w.heap.size + 1 ≤ D ∧ StrsBox w.heap.size (w.heap.size + 1) (cutsL s) W ∧ KeepEx (w.heap.size + 1) [w.heap.size, Bs] W1 W) ?loop ?after
  case loop =>
    refine wpIn_rangeFunc_all rfl (by omega) (gf := 75) (lb := #[.pointer (some ⟨Bs, 0, none⟩)]) rfl trivial (enters_of Tryz.func75 (by kernel_rfl) rfl) (by omega)
      (cuts1_all Fence.wide (6 - 1) trivial rfl (by omega) Bs s (by omega) W1 b1) (fun _ => rfl)
      (fun pre W => StrsBox w.heap.size (w.heap.size + 1) pre W ∧ KeepEx (w.heap.size + 1) [w.heap.size, Bs] W1 W)
      (OwnFrom.and (strsBox_own _ _ _) (ownFrom_keepEx (by omega) (by omega)))
      (fun pre V v h => ⟨h.1.set_ (by omega) (by omega) v, h.2.trans (KeepEx.setCell V (.inl (by simp)) v)⟩)
      ⟨⟨_, bL1, World.ownsRow_nil _ _ _ _, by simp⟩, KeepEx.refl _ _ _⟩
      (fun x => { tmps := #[.slice none 0 0, .func (.func 75) #[] #[.pointer (some ⟨Bs, 0, none⟩)], .pointer (some ⟨w.heap.size, 0, none⟩), undef, .slice none 0 0, .string x, .func (.func 75) #[] #[.pointer (some ⟨Bs, 0, none⟩)], .string x, undef, undef, undef, undef, undef], defers := [] }) ?assign ?body ?done
    case assign =>
      intro l x W K hK
      gi_wp2
      exact hK
    case body =>
      rintro l pre x W ⟨⟨v, hv, hrow, hnil⟩, hK⟩ hlt
      have hlt2 : pre.length ≤ 2000 := by unfold nCuts at hlt; omega
      obtain ⟨av, cv, rfl⟩ := own_slice hrow
      have hc := hv.cell
      have hf := hv.frozen
      have hsz := hK.size
      clear hnil hlt
      have hi := HHI.out
      gi_wp2_with (gi_at_builtin; refine wpListIn_append_own _ rfl _ _ 42 rfl (w.heap.size + 1) 9 i0 (.string ⟨#[]⟩) 1 16 Tryz.underlying42 hi hz0 hzs hzb rfl (by decide) _ _ _ rfl (hrow.alloc _) ⟨W.heap.size, 0, none⟩ 1 1 [.string x] rfl rfl (cell_one_new _ _ _) (by simp [Value.oneCell']) (by simp only [maxLen]; omega) (by omega) (by simp; omega) ?_; intro v' w2 hown' hgrow _; obtain ⟨g', cap', rfl⟩ := ownsRow_succ hown'; obtain ⟨hv1, hv2, hr2, hk2, hb2⟩ := box_appended hv hrow (by omega) (by omega) hown' hgrow; have hc1 := hv1.cell; have hf1 := hv1.frozen)
      exact ⟨hk2.from _, hb2.block Bs (by omega) (by simp; omega), ⟨_, hv2, by simpa using hr2, by simp⟩, hK.trans (KeepEx.widen hb2 (fun k hk => by simp at hk; simp [hk]))⟩
    case done =>
      rintro D xs W hD rfl ⟨hbox, hK⟩ hKd
      exact ⟨.inl rfl, D, rfl, hKd, by omega, hbox, hK⟩
  case after =>
    rintro D W ⟨hKd, hD, ⟨v, hv, hrow, hnil⟩, hK⟩
    obtain ⟨av, cv, rfl⟩ := own_slice hrow
    have hc := hv.cell
    have hf := hv.frozen
    have HN := Lib.hid hnil
    clear hnil
    go_wp2
    refine marks_ret (.slice av (cutsL s).length cv) hKd (by simp [results, Tryz.results74, go_sem]) ?_
    refine ⟨_, rfl, own_base (ownsRow_putObj hrow _ hKd rfl) (by omega), HN.out, ?_⟩
    have h1 : KeepEx w.heap.size [Bs] w W := (KeepEx.of_below B1).trans ⟨hK.os, hK.tape, hK.output, hK.size, fun k hk hn => hK.block k (by omega) (by simp at hn ⊢; omega)⟩
    exact h1.trans ⟨rfl, rfl, rfl, by simp, fun k hk _ => World.putObj_heap_other (by omega)⟩

theorem collect_cuts (Bs : Nat) (s : ByteArray) (hs : s.size ≤ 100000) (w : World) (b : Blk w Bs 9 #[.string s]) :
    Calls Tryz.prog 47 #[.func (.func 75) #[] #[.pointer (some ⟨Bs, 0, none⟩)]] w (CollPost (cutsL s) Bs w) := by
  have h := appendSeq_cuts Bs s hs w b
  go_enter Tryz.func47, Tryz.ntmps47
  go_wp2_with fail
  refine h.mono ?_
  rintro e w1 ⟨v, rfl, h1⟩
  go_wp2_with fail
  go_ret
  exact ⟨v, rfl, h1⟩

def SplitPost (s : ByteArray) (w : World) (e : Ending) (w' : World) : Prop :=
  Below w.heap.size w w' ∧ ((768 < s.size ∧ e = .returned (.tuple #[.slice none 0 0, .int .i64 3])) ∨
    (s.size ≤ 768 ∧ ∃ v, e = .returned (.tuple #[v, .int .i64 0]) ∧ w'.ownsRow w.heap.size 9 1 v (cutsL s).length ((cutsL s).map .string)))


end Go.Proofs.YtljmdcegcckblaaGreatDoor
/- Layer 8: Sector. slices.Clone over a slice of ints. -/
namespace Go.Proofs.YtljmdcegcckblaaGreatDoor
open Go.RowKit

theorem rgD_bds (s j i : Int) : 0 ≤ rgD s j i ∧ rgD s j i ≤ 256 := by
  unfold rgD; split
  · rename_i h; have := rg_bds h; omega
  · omega

def SecE (s j i b : Int) : Int := if rgE s j i = 0 then (if b < 0 ∨ rgB s j i - 1 < b then 7 else 0) else rgE s j i
def SecV (s j i b : Int) : Int := if SecE s j i b = 0 then rgD s j i + b else 0
def SecPost (s j i b : Int) (w : World) (e : Ending) (w' : World) : Prop := e = .returned (.tuple #[.int .i64 (SecV s j i b), .int .i64 (SecE s j i b)]) ∧ Below w.heap.size w w'
theorem ret_two {a b a' b' : Int} (h : a = a') (h2 : b = b') : Ending.returned (.tuple #[.int .i64 a, .int .i64 b]) = .returned (.tuple #[.int .i64 a', .int .i64 b']) := by rw [h, h2]

set_option maxHeartbeats 1000000 in
theorem sector_any (s j i b : Int) (w : World) :
    Calls Tryz.prog 118 #[.agg #[.int .i64 s, .int .i64 j, .int .i64 i], .int .i64 b] w (SecPost s j i b w) := by
  have hBd := rgB_bds s j i
  have hDd := rgD_bds s j i
  by_cases hE : rgE s j i = 0
  · have hE1 : (rgE s j i == 0) = true := by simpa using hE
    have hE2 : (rgE s j i != 0) = false := by simpa using hE
    by_cases ho : b < 0 ∨ rgB s j i - 1 < b
    all_goals
      first | have hO := outB_yes ho | have hO := outB_no ho
      first | (have hse : SecE s j i b = 7 := by simp only [SecE, if_pos hE, if_pos ho]) | (have hse : SecE s j i b = 0 := by simp only [SecE, if_pos hE, if_neg ho])
      first | (have hsv : SecV s j i b = 0 := by simp only [SecV, hse]; rfl) | (have hsv : SecV s j i b = rgD s j i + b := by simp only [SecV, hse, if_true])
      have HSE := Lib.hid hse
      have HSV := Lib.hid hsv
      have HE := Lib.hid hE
      clear hse hsv hE
      first | (have hbd : 0 ≤ b ∧ b ≤ 256 := by omega) | skip
      go_enter Tryz.func118, Tryz.ntmps118
      go_wp2_with fail
      refine (regions_any _ _ _ _).mono ?_
      rintro e w1 ⟨rfl, hb1⟩
      have hb2 := below1 hb1
      have hzz := hb2.size
      unfold rgV
      go_wp2_with (go_at_call 127; refine (outside_out _ _ _ _).mono ?_; rintro e w' ⟨rfl, rfl⟩)
      go_ret2
      exact ⟨ret_two HSV.out.symm HSE.out.symm, by (repeat' (first | (with_reducible exact Below.refl _ _) | (with_reducible assumption) | (with_reducible refine Below.alloc ?_ ?_ _) | (with_reducible refine Below.drew ?_) | (with_reducible refine below_drewN' ?_ _) | (with_reducible refine Below.setCell ?_ ?_ _) | (with_reducible exact Nat.le_refl _) | omega | (simp; done) | (simp; omega)))⟩
  · have hE1 : (rgE s j i == 0) = false := by simpa using hE
    have hE2 : (rgE s j i != 0) = true := by simpa using hE
    have hse : SecE s j i b = rgE s j i := by simp only [SecE, if_neg hE]
    have hsv : SecV s j i b = 0 := by simp only [SecV, hse, if_neg hE]
    have HSE := Lib.hid hse
    have HSV := Lib.hid hsv
    have HE := Lib.hid hE
    clear hse hsv hE
    go_enter Tryz.func118, Tryz.ntmps118
    go_wp2_with fail
    refine (regions_any _ _ _ _).mono ?_
    rintro e w1 ⟨rfl, hb1⟩
    have hb2 := below1 hb1
    have hzz := hb2.size
    unfold rgV
    go_wp2_with fail
    go_ret2
    exact ⟨ret_two HSV.out.symm HSE.out.symm, by (repeat' (first | (with_reducible exact Below.refl _ _) | (with_reducible assumption) | (with_reducible refine Below.alloc ?_ ?_ _) | (with_reducible refine Below.drew ?_) | (with_reducible refine below_drewN' ?_ _) | (with_reducible refine Below.setCell ?_ ?_ _) | (with_reducible exact Nat.le_refl _) | omega | (simp; done) | (simp; omega)))⟩


theorem oneCell_ints (us : List Int) : ∀ u ∈ us.map (Value.int .i64), u.oneCell' = true := by
  intro u hu; obtain ⟨x, -, rfl⟩ := List.mem_map.1 hu; rfl
theorem Tryz.infoInt : (Tryz.prog.info? 3).map (fun i => (i.zero, i.size, i.bytes)) = some (some (.int .i64 0), 1, 8) := by kernel_rfl

set_option maxHeartbeats 400000 in
/-- A list of ints that may be nil: its clone reads alike, and is new. -/
theorem clone_ints (A : Option Addr) (c : Nat) (us : List Int) (w : World) (hR : Reads w A (us.map (.int .i64))) (hA : A = none → us = [] ∧ c = 0) (hn : us.length ≤ 100000) :
    Calls Tryz.prog 88 #[.slice A us.length c] w fun e w' => ∃ v, e = .returned v ∧ w'.ownsRow w.heap.size 3 1 v us.length (us.map (.int .i64)) ∧ Below w.heap.size w w' := by
  cases A with
  | none =>
    obtain ⟨rfl, rfl⟩ := hA rfl
    have hnil := Lib.run_eql_slice_nil (P := Tryz.prog) w 34 3 none 0 0 0 0 Tryz.underlying34
    clear hA hR
    go_enter Tryz.func88, Tryz.ntmps88
    go_wp2_with fail
    go_ret
    exact ⟨_, rfl, World.ownsRow_nil _ _ _ _, Below.refl _ _⟩
  | some ad =>
    obtain ⟨i0, hi, hz0, hz1, hz2⟩ := info_parts Tryz.infoInt
    have hm := oneCell_ints us
    have hnil := fun (w : World) => Lib.run_eql_slice_nil (P := Tryz.prog) w 34 3 (some ad) us.length c 0 0 Tryz.underlying34
    clear hA
    go_enter Tryz.func88, Tryz.ntmps88
    go_wp2_with (at_builtin; refine wpList_append_any _ rfl (.tmp 5) (.tmp 6) _ rfl w.heap.size 3 i0 (.int .i64 0) 8 Tryz.underlying34 hi hz0 hz1 hz2 rfl (.slice (some ⟨w.heap.size, 0, none⟩) 0 0) 0 [] rfl (World.ownsRow_made w #[] 0 (Nat.le_refl _) (by simp) rfl) (some ad) us.length c (us.map (.int .i64)) rfl (by simp) (by simp) (hR.alloc _) hm (by simp only [maxLen]; omega) (by omega) (by simp) ?_; intro v1 w1 hown1 hg1 hat1)
    go_ret
    refine ⟨v1, rfl, by simpa using hown1, ((Below.refl _ _).alloc (Nat.le_refl _) _).grown hg1 (by simp) (fun k hk => ?_)⟩
    simp [Value.ownBlock] at hk; omega

end Go.Proofs.YtljmdcegcckblaaGreatDoor
