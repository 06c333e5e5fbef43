/- Parts of the proof, put together by program: J13, J14, G1. -/
import Derived.Test.YtloddiipepiocaaGreatDoorPart19
import Derived.Test.YtloddiipepiocaaGreatDoorPart16
import Derived.Test.YtloddiipepiocaaGreatDoorPart02
set_option linter.unusedVariables false
set_option linter.unusedSimpArgs false
/- Layer 9: Apply, Clear, Commit. -/
namespace Go.Proofs.YtloddiipepiocaaGreatDoor
open Go.RowKit Go.Maps

/-- The run that is found can be held by Go. -/
theorem lookTo_ok (x : DevS) (F Z q : Int) (k : Nat) : (x.lookTo F Z q k).run.length ≤ k ∧ ∀ r ∈ (x.lookTo F Z q k).run, (-9223372036854775808 ≤ r.at_ ∧ r.at_ ≤ 9223372036854775807) ∧ r.data.size ≤ maxLen := by
  induction k with
  | zero => exact ⟨Nat.le_refl _, fun r h => by cases h⟩
  | succ k ih =>
    cases hs : (x.lookTo F Z q k).stop
    · rw [look_step hs]
      split
      · exact ⟨Nat.zero_le _, fun r h => by cases h⟩
      · split
        · exact ⟨Nat.le_trans ih.1 (Nat.le_succ _), ih.2⟩
        · rename_i hb he
          refine ⟨by show (_ ++ [_]).length ≤ _; simp; exact ih.1, fun r hr => ?_⟩
          rcases List.mem_append.1 hr with hr | hr
          · exact ih.2 r hr
          · have : r = recOf (x.fr (F + (k + 1))) := by simpa using hr
            subst this
            have hi : recIs x.stable.length F Z (x.fr (F + (k + 1))) = true := by
              unfold lookEnd at he
              simp at he
              exact he.1.1.2
            exact recOf_ok hi
    · rw [look_stop hs (Nat.le_succ k)]
      exact ⟨Nat.le_trans ih.1 (Nat.le_succ _), ih.2⟩
theorem look_ok (x : DevS) (F Z : Int) : RecsOk (x.look F Z).2.2.1 := by
  unfold DevS.look
  by_cases h : (x.head F Z).1 = 0
  · rw [if_neg (by rw [h]; simp)]
    split
    · exact ⟨Nat.zero_le _, fun r h => by cases h⟩
    · have := head_check h
      have hk := lookTo_ok x F Z (x.head F Z).2 (Z - 1).toNat
      exact ⟨by show (x.lookTo F Z (x.head F Z).2 (Z - 1).toNat).run.length ≤ 1000; have := hk.1; omega, hk.2⟩
  · rw [if_pos h]
    exact ⟨Nat.zero_le _, fun r h => by cases h⟩
theorem look_seq (x : DevS) (F Z : Int) : 0 ≤ (x.look F Z).2.1 ∧ (x.look F Z).2.1 < 4294967296 := by
  unfold DevS.look
  split
  · exact ⟨Int.le_refl 0, by show (0 : Int) < 4294967296; decide⟩
  · split
    · exact ⟨Int.le_refl 0, by show (0 : Int) < 4294967296; decide⟩
    · exact head_seq x F Z

set_option maxRecDepth 100000 in
set_option maxHeartbeats 2000000 in
theorem Apply_dev (D : Nat) (F Z : Int) (B : List Nat) (x : DevS) (w : World) (h : DevAt w D B x) :
    Calls Tryz.prog 107 #[.pointer (some ⟨D, 0, none⟩), .agg #[.int .i64 F, .int .i64 Z]] w fun e w' => e = .returned (.tuple #[.int .i64 (x.apply F Z).1, .int .i64 (x.apply F Z).2.1]) ∧ ∃ B', DevAt w' D B' (x.apply F Z).2.2 ∧ Grow w B w' B' := by
  have bJ : Blk (w.alloc (.cells #[.int .i64 F, .int .i64 Z] 101)) w.heap.size 101 #[.int .i64 F, .int .i64 Z] := Blk.new _ _ _
  have BA : Below w.heap.size w (w.alloc (.cells #[.int .i64 F, .int .i64 Z] 101)) := (Below.refl _ _).alloc (Nat.le_refl _) _
  have hlook := look_dev D F Z B x _ (h.below BA)
  have hrok := look_ok x F Z
  have hsq := look_seq x F Z
  have cJ := bJ.cells
  have lJ := bJ.lt
  have HA := show x.apply F Z = if (x.look F Z).1 ≠ 0 then (0, (x.look F Z).1, x) else if (x.look F Z).2.2.2 = false then (0, 9, x) else if (x.applies (x.look F Z).2.1 (x.look F Z).2.2.1).1 ≠ 0 then (0, x.applies (x.look F Z).2.1 (x.look F Z).2.2.1) else (((x.look F Z).2.2.1.length : Int), x.applies (x.look F Z).2.1 (x.look F Z).2.2.1) from rfl
  generalize x.look F Z = lk at *
  obtain ⟨E, q, R, wh⟩ := lk
  simp only at hrok hsq HA hlook
  have HAp := Lib.hid HA
  clear HA bJ
  have hl1 := hrok.1
  go_enter Tryz.func107, Tryz.ntmps107
  go_wp2_with fail
  refine hlook.mono ?_
  rintro e w1 ⟨hb1, A, c, rfl, hR1, hAb⟩
  have B1 := BA.trans (hb1.mono BA.size)
  have hAB : ∀ ad, A = some ad → ad.block ∉ B := fun ad e => h.far (by have := hAb ad e; have := BA.size; omega)
  clear hlook hb1 cJ lJ
  by_cases hE : E = 0
  rotate_left
  · have HL : Hid (x.apply F Z = (0, E, x)) := Lib.hid (by rw [HAp.out, if_pos hE])
    have hE' : (E != 0) = true := by simpa using hE
    clear hE HAp
    go_wp2_with fail
    go_ret2
    exact ⟨by rw [HL.out]; rfl, B, by rw [HL.out]; exact (h.below B1).alloc _, Grow.of_below (B1.alloc B1.size _) B⟩
  subst hE
  cases wh
  · have HL : Hid (x.apply F Z = (0, 9, x)) := Lib.hid (by rw [HAp.out, if_neg (by simp), if_pos rfl])
    clear HAp
    go_wp2_with fail
    go_ret2
    exact ⟨by rw [HL.out]; rfl, B, by rw [HL.out]; exact (h.below B1).alloc _, Grow.of_below (B1.alloc B1.size _) B⟩
  have HL1 : Hid (x.apply F Z = if (x.applies q R).1 ≠ 0 then (0, x.applies q R) else ((R.length : Int), x.applies q R)) := Lib.hid (by rw [HAp.out, if_neg (by simp), if_neg (by simp)])
  have bX : Blk (w1.alloc (.cells #[.int .u32 q, .slice A R.length c, .bool true] 172)) w1.heap.size 172 #[.int .u32 q, .slice A R.length c, .bool true] := Blk.new _ _ _
  have B2 := B1.alloc B1.size (.cells #[.int .u32 q, .slice A R.length c, .bool true] 172)
  have hap := apply_in D q hsq true B x A c R hrok _ (h.below B2) (Reads.alloc hR1 _) hAB
  have nX : w1.heap.size ∉ B := h.far B1.size
  obtain ⟨p, hp⟩ : ∃ p, x.applies q R = p := ⟨_, rfl⟩
  rw [hp] at hap HL1
  clear HAp hp
  go_wp2_with fail
  refine hap.mono ?_
  rintro e w3 ⟨rfl, B3, hd3, hg3⟩
  have bX3 := hg3.blk bX nX
  have cX3 := bX3.cells
  have lX3 := bX3.lt
  have gF := (Grow.of_below B2 B).trans hg3
  by_cases hE : p.1 = 0
  · have HL : Hid (x.apply F Z = ((R.length : Int), p)) := Lib.hid (by rw [HL1.out, if_neg (by rw [hE]; simp)])
    have hE' : (p.1 != 0) = false := by simpa using hE
    have HE := Lib.hid hE
    clear hE HL1
    go_wp2_with fail
    go_ret2
    exact ⟨by rw [HL.out, HE.out]; rfl, B3, by rw [HL.out]; exact hd3, gF⟩
  · have HL : Hid (x.apply F Z = (0, p)) := Lib.hid (by rw [HL1.out, if_pos hE])
    have hE' : (p.1 != 0) = true := by simpa using hE
    clear hE HL1
    go_wp2_with fail
    go_ret2
    exact ⟨by rw [HL.out]; rfl, B3, by rw [HL.out]; exact hd3, gF⟩

end Go.Proofs.YtloddiipepiocaaGreatDoor
/- Layer 9: Clear, Commit. -/
namespace Go.Proofs.YtloddiipepiocaaGreatDoor
open Go.RowKit Go.Maps

set_option maxRecDepth 100000 in
set_option maxHeartbeats 400000 in
theorem clear1 (D PD PJ PQ : Nat) (F Z q : Int) (hq : 0 ≤ q ∧ q < 4294967296) (B : List Nat) (x : DevS) (w : World) (h : DevAt w D B x) (bP : Blk w PD 45 #[.pointer (some ⟨D, 0, none⟩)]) (bJ : Blk w PJ 101 #[.int .i64 F, .int .i64 Z]) (bQ : Blk w PQ 24 #[.int .u32 q]) :
    Calls Tryz.prog 150 #[.pointer (some ⟨PD, 0, none⟩), .pointer (some ⟨PJ, 0, none⟩), .pointer (some ⟨PQ, 0, none⟩)] w (DevDid w D B (x.put F 1 (next q) ⟨#[]⟩)) := by
  have cP := bP.cells
  have lP := bP.lt
  have cJ := bJ.cells
  have lJ := bJ.lt
  have cQ := bQ.cells
  have lQ := bQ.lt
  have hp := put_dev D B x F 1 ((q + 1) % 4294967296) ⟨#[]⟩ (by decide) (by omega) w h
  unfold DevDid next
  go_enter Tryz.func150, Tryz.ntmps150
  go_wp2_with fail
  refine hp.mono ?_
  rintro e w1 ⟨rfl, hd⟩
  go_wp2_with fail
  go_ret
  exact ⟨rfl, hd⟩

set_option maxRecDepth 100000 in
set_option maxHeartbeats 1000000 in
theorem clear_dev (D : Nat) (F Z : Int) (B : List Nat) (x : DevS) (w : World) (h : DevAt w D B x) :
    Calls Tryz.prog 87 #[.pointer (some ⟨D, 0, none⟩), .agg #[.int .i64 F, .int .i64 Z]] w (DevDid w D B (x.clear F Z)) := by
  have hmf : ∀ (fn : Fn) (first cap : Array Value) (w : World), (Instr.makeFunc fn first cap).run Tryz.prog w = .ok (.func fn first cap) w := fun _ _ _ _ => rfl
  obtain ⟨wA, hA⟩ : ∃ wA, wA = (w.alloc (.cells #[.pointer (some ⟨D, 0, none⟩)] 45)).alloc (.cells #[.int .i64 F, .int .i64 Z] 101) := ⟨_, rfl⟩
  have bP : Blk wA w.heap.size 45 #[.pointer (some ⟨D, 0, none⟩)] := by rw [hA]; exact (by (repeat' (first | (with_reducible assumption) | exact Blk.new' (by simp) | refine Blk.alloc ?_ _)))
  have bJ : Blk wA (w.heap.size + 1) 101 #[.int .i64 F, .int .i64 Z] := by rw [hA]; exact (by (repeat' (first | (with_reducible assumption) | exact Blk.new' (by simp) | refine Blk.alloc ?_ _)))
  have BA : Below w.heap.size w wA := by rw [hA]; (repeat' (first | (with_reducible exact Below.refl _ _) | (with_reducible assumption) | (with_reducible refine Below.alloc ?_ ?_ _) | (with_reducible refine Below.drew ?_) | (with_reducible refine below_drewN' ?_ _) | (with_reducible refine Below.setCell ?_ ?_ _) | (with_reducible exact Nat.le_refl _) | omega | (simp; done) | (simp; omega)))
  have hhead := head_dev D F Z B x wA (h.below BA)
  have hq := head_seq x F Z
  have HC := show x.clear F Z = if (x.head F Z).1 ≠ 0 then ((x.head F Z).1, x) else DevS.done (x.put F 1 (next (x.head F Z).2) ⟨#[]⟩) from rfl
  generalize (x.head F Z).1 = E at *
  generalize (x.head F Z).2 = q at *
  have HC0 := Lib.hid HC
  have cP := bP.cells
  have cJ := bJ.cells
  have lP := bP.lt
  have lJ := bJ.lt
  clear HC
  unfold DevDid
  go_enter Tryz.func87, Tryz.ntmps87
  go_wp2_with fail
  rw [← hA]
  clear hA
  go_wp2_with fail
  refine hhead.mono ?_
  rintro e w1 ⟨rfl, hb1⟩
  have bP1 := bP.belowAll hb1
  have bJ1 := bJ.belowAll hb1
  have B1 := BA.trans (hb1.mono BA.size)
  clear hhead hb1 cP cJ lP lJ bP bJ BA
  by_cases hE : E = 0
  rotate_left
  · have HL : Hid (x.clear F Z = (E, x)) := Lib.hid (by rw [HC0.out, if_pos hE])
    have hE' : (E != 0) = true := by simpa using hE
    clear hE HC0
    go_wp2_with fail
    go_ret
    exact ⟨by rw [HL.out]; rfl, B, by rw [HL.out]; exact (h.below B1).alloc _, Grow.of_below (B1.alloc B1.size _) B⟩
  have HL : Hid (x.clear F Z = DevS.done (x.put F 1 (next q) ⟨#[]⟩)) := Lib.hid (by rw [HC0.out, if_neg (by simpa using hE)])
  subst hE
  clear HC0
  obtain ⟨PQ, hPQ⟩ : ∃ PQ, PQ = w1.heap.size := ⟨_, rfl⟩
  obtain ⟨wT, hT⟩ : ∃ wT, wT = (w1.alloc (.cells #[.int .u32 q] 24)).alloc (.cells #[.func (.func 150) #[] #[.pointer (some ⟨w.heap.size, 0, none⟩), .pointer (some ⟨w.heap.size + 1, 0, none⟩), .pointer (some ⟨PQ, 0, none⟩)], .func (.func 103) #[.pointer (some ⟨D, 0, none⟩)] #[]] 75) := ⟨_, rfl⟩
  have bPT : Blk wT w.heap.size 45 #[.pointer (some ⟨D, 0, none⟩)] := by rw [hT]; exact (bP1.alloc _).alloc _
  have bJT : Blk wT (w.heap.size + 1) 101 #[.int .i64 F, .int .i64 Z] := by rw [hT]; exact (bJ1.alloc _).alloc _
  have bQT : Blk wT PQ 24 #[.int .u32 q] := by rw [hT, hPQ]; exact (Blk.new _ _ _).alloc _
  have bST : Blk wT (PQ + 1) 75 #[.func (.func 150) #[] #[.pointer (some ⟨w.heap.size, 0, none⟩), .pointer (some ⟨w.heap.size + 1, 0, none⟩), .pointer (some ⟨PQ, 0, none⟩)], .func (.func 103) #[.pointer (some ⟨D, 0, none⟩)] #[]] := by rw [hT]; exact Blk.new' (by simp [hPQ])
  have BT : Below w.heap.size w wT := by rw [hT]; exact (B1.alloc B1.size _).alloc (by have := B1.size; simp; omega) _
  have hdT := h.below BT
  have nS : PQ + 1 ∉ B := h.far (by have := B1.size; omega)
  obtain ⟨p, hp⟩ : ∃ p, x.put F 1 (next q) ⟨#[]⟩ = p := ⟨_, rfl⟩
  rw [hp] at HL
  have hthen := then2 150 103 #[] #[.pointer (some ⟨w.heap.size, 0, none⟩), .pointer (some ⟨w.heap.size + 1, 0, none⟩), .pointer (some ⟨PQ, 0, none⟩)] #[.pointer (some ⟨D, 0, none⟩)] #[] (PQ + 1) wT
    (fun W => p.1 = 0 ∧ ∃ B2, DevAt W D B2 p.2 ∧ Grow wT B W B2) (fun E W => E = (DevS.done p).1 ∧ ∃ B2, DevAt W D B2 (DevS.done p).2 ∧ Grow wT B W B2)
    (fun _ _ => by kernel_rfl) (fun _ _ => by kernel_rfl) bST (fun W hJ => by
      obtain ⟨-, B2, -, g2⟩ := hJ
      exact g2.blk bST nS)
    (by
      refine calls_as (clear1 D w.heap.size (w.heap.size + 1) PQ F Z q hq B x wT hdT bPT bJT bQT) rfl ?_
      rintro e W' ⟨rfl, B2, hd2, hg2⟩
      rw [hp] at hd2 ⊢
      refine ⟨_, rfl, fun hE => ⟨hE, B2, hd2, hg2⟩, fun hE => ?_⟩
      rw [done_bad hE]
      exact ⟨rfl, B2, hd2, hg2⟩)
    (by
      rintro W ⟨hE, B2, hd2, hg2⟩
      refine calls_as (flush_dev D B2 p.2 W hd2) rfl ?_
      rintro e W' ⟨rfl, hd3, hg3⟩
      refine ⟨_, rfl, ?_⟩
      rw [done_zero hE]
      exact ⟨rfl, B2, hd3, hg2.trans hg3⟩)
  have cP1 := bP1.cells
  have lP1 := bP1.lt
  clear bPT bJT bQT bST hdT nS hp
  rw [hPQ] at hT hthen
  clear hPQ
  go_wp2_with fail
  rw [← hT]
  refine hthen.mono ?_
  rintro e w' ⟨E, rfl, rfl, B2, hd2, hg2⟩
  clear hT hthen
  go_wp2_with fail
  go_ret
  rw [HL.out]
  exact ⟨rfl, B2, hd2, (Grow.of_below BT B).trans hg2⟩

set_option maxRecDepth 100000 in
set_option maxHeartbeats 400000 in
theorem com1 (D PD PJ PR : Nat) (F Z : Int) (B : List Nat) (x : DevS) (A : Option Addr) (c : Nat) (l : List Rec) (hok : RecsOk l) (w : World) (h : DevAt w D B x) (hr : RunAt w A l) (hAB : ∀ ad, A = some ad → ad.block ∉ B) (bP : Blk w PD 45 #[.pointer (some ⟨D, 0, none⟩)]) (bJ : Blk w PJ 101 #[.int .i64 F, .int .i64 Z]) (bR : Blk w PR 54 #[.slice A l.length c]) :
    Calls Tryz.prog 104 #[.pointer (some ⟨PD, 0, none⟩), .pointer (some ⟨PJ, 0, none⟩), .pointer (some ⟨PR, 0, none⟩)] w (DevDid w D B (x.log F Z l)) := by
  have cP := bP.cells
  have lP := bP.lt
  have cJ := bJ.cells
  have lJ := bJ.lt
  have cR := bR.cells
  have lR := bR.lt
  have hl := log_dev D F Z B x A c l hok w h hr hAB
  unfold DevDid at hl ⊢
  go_enter Tryz.func104, Tryz.ntmps104
  go_wp2_with fail
  refine hl.mono ?_
  rintro e w1 ⟨rfl, hd⟩
  go_wp2_with fail
  go_ret
  exact ⟨rfl, hd⟩
set_option maxRecDepth 100000 in
set_option maxHeartbeats 400000 in
theorem com2 (D PD PJ : Nat) (F Z : Int) (B : List Nat) (x : DevS) (w : World) (h : DevAt w D B x) (bP : Blk w PD 45 #[.pointer (some ⟨D, 0, none⟩)]) (bJ : Blk w PJ 101 #[.int .i64 F, .int .i64 Z]) :
    Calls Tryz.prog 106 #[.pointer (some ⟨PD, 0, none⟩), .pointer (some ⟨PJ, 0, none⟩)] w (DevDid w D B (x.apply F Z).2) := by
  have cP := bP.cells
  have lP := bP.lt
  have cJ := bJ.cells
  have lJ := bJ.lt
  have hl := Apply_dev D F Z B x w h
  unfold DevDid
  generalize x.apply F Z = p at *
  go_enter Tryz.func106, Tryz.ntmps106
  go_wp2_with fail
  refine hl.mono ?_
  rintro e w1 ⟨rfl, hd⟩
  go_wp2_with fail
  go_ret
  exact ⟨rfl, hd⟩
set_option maxRecDepth 100000 in
set_option maxHeartbeats 400000 in
theorem com3 (D PD PJ : Nat) (F Z : Int) (B : List Nat) (x : DevS) (w : World) (h : DevAt w D B x) (bP : Blk w PD 45 #[.pointer (some ⟨D, 0, none⟩)]) (bJ : Blk w PJ 101 #[.int .i64 F, .int .i64 Z]) :
    Calls Tryz.prog 108 #[.pointer (some ⟨PD, 0, none⟩), .pointer (some ⟨PJ, 0, none⟩)] w (DevDid w D B (x.clear F Z)) := by
  have cP := bP.cells
  have lP := bP.lt
  have cJ := bJ.cells
  have lJ := bJ.lt
  have hl := clear_dev D F Z B x w h
  unfold DevDid at hl ⊢
  go_enter Tryz.func108, Tryz.ntmps108
  go_wp2_with fail
  refine hl.mono ?_
  rintro e w1 ⟨rfl, hd⟩
  go_wp2_with fail
  go_ret
  exact ⟨rfl, hd⟩

set_option maxRecDepth 100000 in
set_option maxHeartbeats 1000000 in
theorem commit_dev (D : Nat) (F Z : Int) (B : List Nat) (x : DevS) (A : Option Addr) (c : Nat) (l : List Rec) (hok : RecsOk l) (w : World) (h : DevAt w D B x) (hr : RunAt w A l) (hAB : ∀ ad, A = some ad → ad.block ∉ B) :
    Calls Tryz.prog 54 #[.pointer (some ⟨D, 0, none⟩), .agg #[.int .i64 F, .int .i64 Z], .slice A l.length c] w (DevDid w D B (x.commit F Z l)) := by
  have hmf : ∀ (fn : Fn) (first cap : Array Value) (w : World), (Instr.makeFunc fn first cap).run Tryz.prog w = .ok (.func fn first cap) w := fun _ _ _ _ => rfl
  have HC := show x.commit F Z l = if (x.log F Z l).1 ≠ 0 then x.log F Z l else if ((x.log F Z l).2.apply F Z).2.1 ≠ 0 then ((x.log F Z l).2.apply F Z).2 else ((x.log F Z l).2.apply F Z).2.2.clear F Z from rfl
  obtain ⟨wT, hT⟩ : ∃ wT, wT = (((w.alloc (.cells #[.pointer (some ⟨D, 0, none⟩)] 45)).alloc (.cells #[.int .i64 F, .int .i64 Z] 101)).alloc (.cells #[.slice A l.length c] 54)).alloc (.cells #[.func (.func 104) #[] #[.pointer (some ⟨w.heap.size, 0, none⟩), .pointer (some ⟨w.heap.size + 1, 0, none⟩), .pointer (some ⟨w.heap.size + 1 + 1, 0, none⟩)], .func (.func 106) #[] #[.pointer (some ⟨w.heap.size, 0, none⟩), .pointer (some ⟨w.heap.size + 1, 0, none⟩)], .func (.func 108) #[] #[.pointer (some ⟨w.heap.size, 0, none⟩), .pointer (some ⟨w.heap.size + 1, 0, none⟩)]] 75) := ⟨_, rfl⟩
  have bP : Blk wT w.heap.size 45 #[.pointer (some ⟨D, 0, none⟩)] := by rw [hT]; exact (by (repeat' (first | (with_reducible assumption) | exact Blk.new' (by simp) | refine Blk.alloc ?_ _)))
  have bJ : Blk wT (w.heap.size + 1) 101 #[.int .i64 F, .int .i64 Z] := by rw [hT]; exact (by (repeat' (first | (with_reducible assumption) | exact Blk.new' (by simp) | refine Blk.alloc ?_ _)))
  have bR : Blk wT (w.heap.size + 1 + 1) 54 #[.slice A l.length c] := by rw [hT]; exact (Blk.new' (by simp)).alloc _
  have bS : Blk wT (w.heap.size + 1 + 1 + 1) 75 #[.func (.func 104) #[] #[.pointer (some ⟨w.heap.size, 0, none⟩), .pointer (some ⟨w.heap.size + 1, 0, none⟩), .pointer (some ⟨w.heap.size + 1 + 1, 0, none⟩)], .func (.func 106) #[] #[.pointer (some ⟨w.heap.size, 0, none⟩), .pointer (some ⟨w.heap.size + 1, 0, none⟩)], .func (.func 108) #[] #[.pointer (some ⟨w.heap.size, 0, none⟩), .pointer (some ⟨w.heap.size + 1, 0, none⟩)]] := by rw [hT]; exact Blk.new' (by simp)
  have BT : Below w.heap.size w wT := by rw [hT]; (repeat' (first | (with_reducible exact Below.refl _ _) | (with_reducible assumption) | (with_reducible refine Below.alloc ?_ ?_ _) | (with_reducible refine Below.drew ?_) | (with_reducible refine below_drewN' ?_ _) | (with_reducible refine Below.setCell ?_ ?_ _) | (with_reducible exact Nat.le_refl _) | omega | (simp; done) | (simp; omega)))
  have nP : w.heap.size ∉ B := h.far (Nat.le_refl _)
  have nJ : w.heap.size + 1 ∉ B := h.far (by omega)
  have nS : w.heap.size + 1 + 1 + 1 ∉ B := h.far (by omega)
  obtain ⟨p, hp⟩ : ∃ p, x.log F Z l = p := ⟨_, rfl⟩
  obtain ⟨a, ha⟩ : ∃ a, (p.2.apply F Z).2 = a := ⟨_, rfl⟩
  rw [hp, ha] at HC
  have hthen := then3 104 106 108 #[] #[.pointer (some ⟨w.heap.size, 0, none⟩), .pointer (some ⟨w.heap.size + 1, 0, none⟩), .pointer (some ⟨w.heap.size + 1 + 1, 0, none⟩)] #[] #[.pointer (some ⟨w.heap.size, 0, none⟩), .pointer (some ⟨w.heap.size + 1, 0, none⟩)] #[] #[.pointer (some ⟨w.heap.size, 0, none⟩), .pointer (some ⟨w.heap.size + 1, 0, none⟩)] (w.heap.size + 1 + 1 + 1) wT
    (fun W => p.1 = 0 ∧ ∃ B2, DevAt W D B2 p.2 ∧ Grow wT B W B2) (fun W => p.1 = 0 ∧ a.1 = 0 ∧ ∃ B2, DevAt W D B2 a.2 ∧ Grow wT B W B2) (fun E W => E = (x.commit F Z l).1 ∧ ∃ B2, DevAt W D B2 (x.commit F Z l).2 ∧ Grow wT B W B2)
    (fun _ _ => by kernel_rfl) (fun _ _ => by kernel_rfl) (fun _ _ => by kernel_rfl) bS (fun W hJ => by
      rcases hJ with ⟨-, B2, -, g2⟩ | ⟨-, -, B2, -, g2⟩
      · exact g2.blk bS nS
      · exact g2.blk bS nS)
    (by
      refine calls_as (com1 D w.heap.size (w.heap.size + 1) (w.heap.size + 1 + 1) F Z B x A c l hok wT (h.below BT) (Reads.below hr BT) hAB bP bJ bR) rfl ?_
      rintro e W' ⟨rfl, B2, hd2, hg2⟩
      rw [hp] at hd2 ⊢
      refine ⟨_, rfl, fun hE => ⟨hE, B2, hd2, hg2⟩, fun hE => ?_⟩
      rw [HC, if_pos hE]
      exact ⟨rfl, B2, hd2, hg2⟩)
    (by
      rintro W ⟨hE, B2, hd2, hg2⟩
      refine calls_as (com2 D w.heap.size (w.heap.size + 1) F Z B2 p.2 W hd2 (hg2.blk bP nP) (hg2.blk bJ nJ)) rfl ?_
      rintro e W' ⟨rfl, B3, hd3, hg3⟩
      rw [ha] at hd3 ⊢
      refine ⟨_, rfl, fun hE2 => ⟨hE, hE2, B3, hd3, hg2.trans hg3⟩, fun hE2 => ?_⟩
      rw [HC, if_neg (by rw [hE]; simp), if_pos hE2]
      exact ⟨rfl, B3, hd3, hg2.trans hg3⟩)
    (by
      rintro W ⟨hE, hE2, B2, hd2, hg2⟩
      refine calls_as (com3 D w.heap.size (w.heap.size + 1) F Z B2 a.2 W hd2 (hg2.blk bP nP) (hg2.blk bJ nJ)) rfl ?_
      rintro e W' ⟨rfl, B3, hd3, hg3⟩
      refine ⟨_, rfl, ?_⟩
      rw [HC, if_neg (by rw [hE]; simp), if_neg (by rw [hE2]; simp)]
      exact ⟨rfl, B3, hd3, hg2.trans hg3⟩)
  unfold DevDid
  clear bP bJ bR bS nP nJ nS hp ha HC
  go_enter Tryz.func54, Tryz.ntmps54
  go_wp2_with fail
  rw [← hT]
  refine hthen.mono ?_
  rintro e w' ⟨E, rfl, rfl, B2, hd2, hg2⟩
  clear hT hthen
  go_wp2_with fail
  go_ret
  exact ⟨rfl, B2, hd2, (Grow.of_below BT B).trans hg2⟩

end Go.Proofs.YtloddiipepiocaaGreatDoor
/- Layer 10: where things are: find, journal, bitmap. -/
namespace Go.Proofs.YtloddiipepiocaaGreatDoor
open Go.RowKit Go.Maps

/-- A place: a device with a layout, and its regions. -/
def placeL (dv : Option Addr) (s j i J M T D B : Int) : List Value := [.pointer dv, .int .i64 s, .int .i64 j, .int .i64 i, .int .i64 J, .int .i64 M, .int .i64 T, .int .i64 D, .int .i64 B]
def noPlace : List Value := placeL none 0 0 0 0 0 0 0 0
def placeR (D : Nat) (s j i : Int) : List Value := placeL (some ⟨D, 0, none⟩) s j i (rgJ s j i) (rgM s j i) (rgT s j i) (rgD s j i) (rgB s j i)
def findE (n s j i : Int) : Int := if rgE s j i ≠ 0 then rgE s j i else if n = 0 then 1 else if n ≠ s then 6 else 0

def findV (D : Nat) (n s j i : Int) : Array Value := if findE n s j i = 0 then (placeR D s j i).toArray else noPlace.toArray

theorem storeRow {W : World} {g : Nat} {t ty : TypeId} {cur : Array Value} {vs : Array Value} (b : Blk W g t cur) (hl : cur.size = vs.size) (h1 : vs.all (·.oneCell') = true) (hsz : (sizeOf ty).run Tryz.prog W = .ok vs.size W) :
    (Instr.storeAt ty (.pointer (some ⟨g, 0, none⟩)) (.agg vs)).run Tryz.prog W = .ok () (W.setRow g vs) := by
  have h := run_storeAt_row (P := Tryz.prog) (w := W) (ty := ty) (t := t) (g := g) (o := 0) (cur := cur) (vs := vs.toList) b (by simp; omega) (fun v hv => by
    have := Array.all_eq_true'.1 h1 v (by simpa using hv)
    exact this) (by simpa using hsz)
  have e : (cur.toList.take 0 ++ vs.toList ++ cur.toList.drop (0 + vs.toList.length)).toArray = vs := by
    rw [List.take_zero, List.nil_append, List.drop_of_length_le (by simp; omega), List.append_nil]
  rw [e] at h
  simpa using h
abbrev PV (dv : Option Addr) (s j i J M T D B : Int) : Array Value := #[.pointer dv, .int .i64 s, .int .i64 j, .int .i64 i, .int .i64 J, .int .i64 M, .int .i64 T, .int .i64 D, .int .i64 B]

set_option maxRecDepth 100000 in
set_option maxHeartbeats 1000000 in
theorem find_dev (D : Nat) (s j i : Int) (B : List Nat) (x : DevS) (w : World) (h : DevAt w D B x) :
    Calls Tryz.prog 42 #[.pointer (some ⟨D, 0, none⟩), .agg #[.int .i64 s, .int .i64 j, .int .i64 i]] w fun e w' => e = .returned (.tuple #[.agg (findV D x.stable.length s j i), .int .i64 (findE x.stable.length s j i)]) ∧ Below w.heap.size w w' := by
  have hlo := h.ok.lo
  have hhi := h.ok.hi
  obtain ⟨wA, hA⟩ : ∃ wA, wA = (w.alloc (.cells #[.int .i64 s, .int .i64 j, .int .i64 i] 23)).alloc (.cells noPlace.toArray 117) := ⟨_, rfl⟩
  have bL : Blk wA w.heap.size 23 #[.int .i64 s, .int .i64 j, .int .i64 i] := by rw [hA]; exact (by (repeat' (first | (with_reducible assumption) | exact Blk.new' (by simp) | refine Blk.alloc ?_ _)))
  have bP : Blk wA (w.heap.size + 1) 117 noPlace.toArray := by rw [hA]; exact (by (repeat' (first | (with_reducible assumption) | exact Blk.new' (by simp) | refine Blk.alloc ?_ _)))
  have BA : Below w.heap.size w wA := by rw [hA]; (repeat' (first | (with_reducible exact Below.refl _ _) | (with_reducible assumption) | (with_reducible refine Below.alloc ?_ ?_ _) | (with_reducible refine Below.drew ?_) | (with_reducible refine below_drewN' ?_ _) | (with_reducible refine Below.setCell ?_ ?_ _) | (with_reducible exact Nat.le_refl _) | omega | (simp; done) | (simp; omega)))
  have hrg := regions_any s j i wA
  have hz : noPlace.toArray = #[.pointer none, .int .i64 0, .int .i64 0, .int .i64 0, .int .i64 0, .int .i64 0, .int .i64 0, .int .i64 0, .int .i64 0] := rfl
  unfold RgPost rgV at hrg
  rw [hz] at hA bP
  clear hz
  have cL := bL.cells
  have lL := bL.lt
  go_enter Tryz.func42, Tryz.ntmps42
  go_wp2_with fail
  rw [← hA]
  clear hA
  go_wp2_with fail
  refine hrg.mono ?_
  rintro e w1 ⟨rfl, hb1⟩
  have B1 := BA.trans (hb1.mono BA.size)
  have bL1 := bL.belowAll hb1
  have bP1 := bP.belowAll hb1
  have bR1 : Blk (w1.alloc (.cells #[.int .i64 (rgJ s j i), .int .i64 (rgM s j i), .int .i64 (rgT s j i), .int .i64 (rgD s j i), .int .i64 (rgB s j i)] 38)) w1.heap.size 38 #[.int .i64 (rgJ s j i), .int .i64 (rgM s j i), .int .i64 (rgT s j i), .int .i64 (rgD s j i), .int .i64 (rgB s j i)] := Blk.new _ _ _
  clear hb1 hrg cL lL bL bP BA
  by_cases hE : rgE s j i = 0
  rotate_left
  · have HE : Hid (findE x.stable.length s j i = rgE s j i) := Lib.hid (by unfold findE; rw [if_pos hE])
    have HN := Lib.hid hE
    obtain ⟨E, hEE⟩ : ∃ E, rgE s j i = E := ⟨_, rfl⟩
    rw [hEE] at hE HE HN ⊢
    have hE' : (E != 0) = true := by simpa using hE
    clear hE hEE
    have bP2 := bP1.alloc (.cells #[.int .i64 (rgJ s j i), .int .i64 (rgM s j i), .int .i64 (rgT s j i), .int .i64 (rgD s j i), .int .i64 (rgB s j i)] 38)
    have hst := storeRow (ty := 117) (vs := PV none 0 0 0 0 0 0 0 0) bP2 rfl (by simp [Value.oneCell']) (by kernel_rfl)
    have bP3 := bP2.setRow (cs' := PV none 0 0 0 0 0 0 0 0)
    have BF : Below w.heap.size w _ := Below.setRow (B1.alloc B1.size (.cells #[.int .i64 (rgJ s j i), .int .i64 (rgM s j i), .int .i64 (rgT s j i), .int .i64 (rgD s j i), .int .i64 (rgB s j i)] 38)) (g := w.heap.size + 1) (by omega) (PV none 0 0 0 0 0 0 0 0)
    have cP2 := bP2.cells
    have lP2 := bP2.lt
    go_wp2_with (refine wpList_storeBy rfl _ _ _ rfl _ _ rfl rfl hst ?_)
    have cP3 := bP3.cells
    refine bodyPost_ret (v := .tuple #[.agg (PV none 0 0 0 0 0 0 0 0), .int .i64 E]) (by simp [results, Tryz.results42, go_sem, cP3]) rfl ?_
    exact ⟨by unfold findV; rw [HE.out, if_neg HN.out]; rfl, BF⟩
  have hRb := rg_bds hE
  rw [hE]
  have hd1 := (h.below B1).alloc (.cells #[.int .i64 (rgJ s j i), .int .i64 (rgM s j i), .int .i64 (rgT s j i), .int .i64 (rgD s j i), .int .i64 (rgB s j i)] 38)
  have bP2 := bP1.alloc (.cells #[.int .i64 (rgJ s j i), .int .i64 (rgM s j i), .int .i64 (rgT s j i), .int .i64 (rgD s j i), .int .i64 (rgB s j i)] 38)
  have bL2 := bL1.alloc (.cells #[.int .i64 (rgJ s j i), .int .i64 (rgM s j i), .int .i64 (rgT s j i), .int .i64 (rgD s j i), .int .i64 (rgB s j i)] 38)
  have B2 := B1.alloc B1.size (.cells #[.int .i64 (rgJ s j i), .int .i64 (rgM s j i), .int .i64 (rgT s j i), .int .i64 (rgD s j i), .int .i64 (rgB s j i)] 38)
  have hs0 : ((x.stable.length : Int) == 0) = false := by rw [beq_eq_false_iff_ne]; omega
  have HB0 := Lib.hid hE
  clear hE bP1 bL1
  have cL2 := bL2.cells
  have lL2 := bL2.lt
  obtain ⟨w2, hw2⟩ : ∃ w2, w2 = w1.alloc (.cells #[.int .i64 (rgJ s j i), .int .i64 (rgM s j i), .int .i64 (rgT s j i), .int .i64 (rgD s j i), .int .i64 (rgB s j i)] 38) := ⟨_, rfl⟩
  go_wp2_with fail
  rw [← hw2] at hd1 bP2 bL2 B2 bR1 cL2 lL2 ⊢
  refine (sectors_dev D B x w2 hd1).mono ?_
  rintro e w' ⟨rfl, rfl⟩
  clear hw2
  go_wp2_with fail
  go_quiet ((go_at_call 91; exact Calls.quiet_of_same (sectors_dev D B x _ (hd1.drewN _))))
  have bP4 : Blk (w'.drewN nq) (w.heap.size + 1) 117 (PV none 0 0 0 0 0 0 0 0) := bP2
  have bL4 : Blk (w'.drewN nq) w.heap.size 23 #[.int .i64 s, .int .i64 j, .int .i64 i] := bL2
  have bR4 : Blk (w'.drewN nq) w1.heap.size 38 #[.int .i64 (rgJ s j i), .int .i64 (rgM s j i), .int .i64 (rgT s j i), .int .i64 (rgD s j i), .int .i64 (rgB s j i)] := bR1
  have B4 := below_drewN' B2 nq
  generalize w'.drewN nq = w4 at *
  clear hd1 bP2 bL2 B2 bR1 cL2 lL2
  have cL4 := bL4.cells
  have lL4 := bL4.lt
  have cP4 := bP4.cells
  have lP4 := bP4.lt
  have cR4 := bR4.cells
  have lR4 := bR4.lt
  by_cases hn : (x.stable.length : Int) = s
  rotate_left
  · have HE : Hid (findE x.stable.length s j i = 6) := Lib.hid (by unfold findE; rw [if_neg (by rw [HB0.out]; simp), if_neg (by omega), if_pos hn])
    have hn' : ((x.stable.length : Int) != s) = true := by simpa using hn
    clear hn
    have hst := storeRow (ty := 117) (vs := PV none 0 0 0 0 0 0 0 0) bP4 rfl (by simp [Value.oneCell']) (by kernel_rfl)
    have bP5 := bP4.setRow (cs' := PV none 0 0 0 0 0 0 0 0)
    have BF : Below w.heap.size w _ := Below.setRow B4 (g := w.heap.size + 1) (by omega) (PV none 0 0 0 0 0 0 0 0)
    go_wp2_with (refine wpList_storeBy rfl _ _ _ rfl _ _ rfl rfl hst ?_)
    have cP5 := bP5.cells
    refine bodyPost_ret (v := .tuple #[.agg (PV none 0 0 0 0 0 0 0 0), .int .i64 6]) (by simp [results, Tryz.results42, go_sem, cP5]) rfl ?_
    exact ⟨by unfold findV; rw [HE.out]; rfl, BF⟩
  · have HE : Hid (findE x.stable.length s j i = 0) := Lib.hid (by unfold findE; rw [if_neg (by rw [HB0.out]; simp), if_neg (by omega), if_neg (by simpa using hn)])
    have hn' : ((x.stable.length : Int) != s) = false := by simpa using hn
    clear hn
    have hst := storeRow (ty := 117) (vs := PV (some ⟨D, 0, none⟩) s j i (rgJ s j i) (rgM s j i) (rgT s j i) (rgD s j i) (rgB s j i)) bP4 rfl (by simp [Value.oneCell']) (by kernel_rfl)
    have bP5 := bP4.setRow (cs' := PV (some ⟨D, 0, none⟩) s j i (rgJ s j i) (rgM s j i) (rgT s j i) (rgD s j i) (rgB s j i))
    have BF : Below w.heap.size w _ := Below.setRow B4 (g := w.heap.size + 1) (by omega) (PV (some ⟨D, 0, none⟩) s j i (rgJ s j i) (rgM s j i) (rgT s j i) (rgD s j i) (rgB s j i))
    go_wp2_with (refine wpList_storeBy rfl _ _ _ rfl _ _ rfl rfl hst ?_)
    have cP5 := bP5.cells
    refine bodyPost_ret (v := .tuple #[.agg (PV (some ⟨D, 0, none⟩) s j i (rgJ s j i) (rgM s j i) (rgT s j i) (rgD s j i) (rgB s j i)), .int .i64 0]) (by simp [results, Tryz.results42, go_sem, cP5]) rfl ?_
    exact ⟨by unfold findV; rw [HE.out]; rfl, BF⟩

end Go.Proofs.YtloddiipepiocaaGreatDoor
