/- Parts of the proof, put together by program: J13, J14. -/
import Derived.Test.YtfgfdjaiamaelaaGreatDoorPart19
/- Layer 9: Apply, Clear, Commit. -/
namespace Go.Proofs.YtfgfdjaiamaelaaGreatDoor
open Go.RowKit Go.Maps

/-- The run that is found can be held by Go. -/
theorem lookTo_ok (x : DevS) (F Z q : Int) (k : Nat) : (x.lookTo F Z q k).run.length ≤ k ∧ ∀ r ∈ (x.lookTo F Z q k).run, (-9223372036854775808 ≤ r.at_ ∧ r.at_ ≤ 9223372036854775807) ∧ r.data.size ≤ maxLen := by
  induction k with
  | zero => exact ⟨Nat.le_refl _, fun r h => by cases h⟩
  | succ k ih =>
    cases hs : (x.lookTo F Z q k).stop
    · rw [look_step hs]
      split
      · exact ⟨Nat.zero_le _, fun r h => by cases h⟩
      · split
        · exact ⟨Nat.le_trans ih.1 (Nat.le_succ _), ih.2⟩
        · rename_i hb he
          refine ⟨by show (_ ++ [_]).length ≤ _; simp; exact ih.1, fun r hr => ?_⟩
          rcases List.mem_append.1 hr with hr | hr
          · exact ih.2 r hr
          · have : r = recOf (x.fr (F + (k + 1))) := by simpa using hr
            subst this
            have hi : recIs x.stable.length F Z (x.fr (F + (k + 1))) = true := by
              unfold lookEnd at he
              simp at he
              exact he.1.1.2
            exact recOf_ok hi
    · rw [look_stop hs (Nat.le_succ k)]
      exact ⟨Nat.le_trans ih.1 (Nat.le_succ _), ih.2⟩
theorem look_ok (x : DevS) (F Z : Int) : RecsOk (x.look F Z).2.2.1 := by
  unfold DevS.look
  by_cases h : (x.head F Z).1 = 0
  · rw [if_neg (by rw [h]; simp)]
    split
    · exact ⟨Nat.zero_le _, fun r h => by cases h⟩
    · have := head_check h
      have hk := lookTo_ok x F Z (x.head F Z).2 (Z - 1).toNat
      exact ⟨by show (x.lookTo F Z (x.head F Z).2 (Z - 1).toNat).run.length ≤ 1000; have := hk.1; omega, hk.2⟩
  · rw [if_pos h]
    exact ⟨Nat.zero_le _, fun r h => by cases h⟩
theorem look_seq (x : DevS) (F Z : Int) : 0 ≤ (x.look F Z).2.1 ∧ (x.look F Z).2.1 < 4294967296 := by
  unfold DevS.look
  split
  · exact ⟨Int.le_refl 0, by show (0 : Int) < 4294967296; decide⟩
  · split
    · exact ⟨Int.le_refl 0, by show (0 : Int) < 4294967296; decide⟩
    · exact head_seq x F Z

set_option maxRecDepth 100000 in
set_option maxHeartbeats 2000000 in
theorem Apply_dev (D : Nat) (F Z : Int) (B : List Nat) (x : DevS) (w : World) (h : DevAt w D B x) :
    Calls Tryz.prog 90 #[.pointer (some ⟨D, 0, none⟩), .agg #[.int .i64 F, .int .i64 Z]] w fun e w' => e = .returned (.tuple #[.int .i64 (x.apply F Z).1, .int .i64 (x.apply F Z).2.1]) ∧ ∃ B', DevAt w' D B' (x.apply F Z).2.2 ∧ Grow w B w' B' := by
  have bJ : Blk (w.alloc (.cells #[.int .i64 F, .int .i64 Z] 93)) w.heap.size 93 #[.int .i64 F, .int .i64 Z] := Blk.new _ _ _
  have BA : Below w.heap.size w (w.alloc (.cells #[.int .i64 F, .int .i64 Z] 93)) := (Below.refl _ _).alloc (Nat.le_refl _) _
  have hlook := look_dev D F Z B x _ (h.below BA)
  have hrok := look_ok x F Z
  have hsq := look_seq x F Z
  have cJ := bJ.cells
  have lJ := bJ.lt
  have HA := show x.apply F Z = if (x.look F Z).1 ≠ 0 then (0, (x.look F Z).1, x) else if (x.look F Z).2.2.2 = false then (0, 9, x) else if (x.applies (x.look F Z).2.1 (x.look F Z).2.2.1).1 ≠ 0 then (0, x.applies (x.look F Z).2.1 (x.look F Z).2.2.1) else (((x.look F Z).2.2.1.length : Int), x.applies (x.look F Z).2.1 (x.look F Z).2.2.1) from rfl
  generalize x.look F Z = lk at *
  obtain ⟨E, q, R, wh⟩ := lk
  simp only at hrok hsq HA hlook
  have HAp := Lib.hid HA
  clear HA bJ
  have hl1 := hrok.1
  go_enter Tryz.func90, Tryz.ntmps90
  go_wp2_with fail
  refine hlook.mono ?_
  rintro e w1 ⟨hb1, A, c, rfl, hR1, hAb⟩
  have B1 := BA.trans (hb1.mono BA.size)
  have hAB : ∀ ad, A = some ad → ad.block ∉ B := fun ad e => h.far (by have := hAb ad e; have := BA.size; omega)
  clear hlook hb1 cJ lJ
  by_cases hE : E = 0
  rotate_left
  · have HL : Hid (x.apply F Z = (0, E, x)) := Lib.hid (by rw [HAp.out, if_pos hE])
    have hE' : (E != 0) = true := by simpa using hE
    clear hE HAp
    go_wp2_with fail
    go_ret2
    exact ⟨by rw [HL.out]; rfl, B, by rw [HL.out]; exact (h.below B1).alloc _, Grow.of_below (B1.alloc B1.size _) B⟩
  subst hE
  cases wh
  · have HL : Hid (x.apply F Z = (0, 9, x)) := Lib.hid (by rw [HAp.out, if_neg (by simp), if_pos rfl])
    clear HAp
    go_wp2_with fail
    go_ret2
    exact ⟨by rw [HL.out]; rfl, B, by rw [HL.out]; exact (h.below B1).alloc _, Grow.of_below (B1.alloc B1.size _) B⟩
  have HL1 : Hid (x.apply F Z = if (x.applies q R).1 ≠ 0 then (0, x.applies q R) else ((R.length : Int), x.applies q R)) := Lib.hid (by rw [HAp.out, if_neg (by simp), if_neg (by simp)])
  have bX : Blk (w1.alloc (.cells #[.int .u32 q, .slice A R.length c, .bool true] 148)) w1.heap.size 148 #[.int .u32 q, .slice A R.length c, .bool true] := Blk.new _ _ _
  have B2 := B1.alloc B1.size (.cells #[.int .u32 q, .slice A R.length c, .bool true] 148)
  have hap := apply_in D q hsq true B x A c R hrok _ (h.below B2) (Reads.alloc hR1 _) hAB
  have nX : w1.heap.size ∉ B := h.far B1.size
  obtain ⟨p, hp⟩ : ∃ p, x.applies q R = p := ⟨_, rfl⟩
  rw [hp] at hap HL1
  clear HAp hp
  go_wp2_with fail
  refine hap.mono ?_
  rintro e w3 ⟨rfl, B3, hd3, hg3⟩
  have bX3 := hg3.blk bX nX
  have cX3 := bX3.cells
  have lX3 := bX3.lt
  have gF := (Grow.of_below B2 B).trans hg3
  by_cases hE : p.1 = 0
  · have HL : Hid (x.apply F Z = ((R.length : Int), p)) := Lib.hid (by rw [HL1.out, if_neg (by rw [hE]; simp)])
    have hE' : (p.1 != 0) = false := by simpa using hE
    have HE := Lib.hid hE
    clear hE HL1
    go_wp2_with fail
    go_ret2
    exact ⟨by rw [HL.out, HE.out]; rfl, B3, by rw [HL.out]; exact hd3, gF⟩
  · have HL : Hid (x.apply F Z = (0, p)) := Lib.hid (by rw [HL1.out, if_pos hE])
    have hE' : (p.1 != 0) = true := by simpa using hE
    clear hE HL1
    go_wp2_with fail
    go_ret2
    exact ⟨by rw [HL.out]; rfl, B3, by rw [HL.out]; exact hd3, gF⟩

end Go.Proofs.YtfgfdjaiamaelaaGreatDoor
/- Layer 9: Clear, Commit. -/
namespace Go.Proofs.YtfgfdjaiamaelaaGreatDoor
open Go.RowKit Go.Maps

set_option maxRecDepth 100000 in
set_option maxHeartbeats 400000 in
theorem clear1 (D PD PJ PQ : Nat) (F Z q : Int) (_hq : 0 ≤ q ∧ q < 4294967296) (B : List Nat) (x : DevS) (w : World) (h : DevAt w D B x) (bP : Blk w PD 22 #[.pointer (some ⟨D, 0, none⟩)]) (bJ : Blk w PJ 93 #[.int .i64 F, .int .i64 Z]) (bQ : Blk w PQ 106 #[.int .u32 q]) :
    Calls Tryz.prog 109 #[.pointer (some ⟨PD, 0, none⟩), .pointer (some ⟨PJ, 0, none⟩), .pointer (some ⟨PQ, 0, none⟩)] w (DevDid w D B (x.put F 1 (next q) ⟨#[]⟩)) := by
  have cP := bP.cells
  have lP := bP.lt
  have cJ := bJ.cells
  have lJ := bJ.lt
  have cQ := bQ.cells
  have lQ := bQ.lt
  have hp := put_dev D B x F 1 ((q + 1) % 4294967296) ⟨#[]⟩ (by decide) (by omega) w h
  unfold DevDid next
  go_enter Tryz.func109, Tryz.ntmps109
  go_wp2_with fail
  refine hp.mono ?_
  rintro e w1 ⟨rfl, hd⟩
  go_wp2_with fail
  go_ret
  exact ⟨rfl, hd⟩

set_option maxRecDepth 100000 in
set_option maxHeartbeats 1000000 in
theorem clear_dev (D : Nat) (F Z : Int) (B : List Nat) (x : DevS) (w : World) (h : DevAt w D B x) :
    Calls Tryz.prog 71 #[.pointer (some ⟨D, 0, none⟩), .agg #[.int .i64 F, .int .i64 Z]] w (DevDid w D B (x.clear F Z)) := by
  have hmf : ∀ (fn : Fn) (first cap : Array Value) (w : World), (Instr.makeFunc fn first cap).run Tryz.prog w = .ok (.func fn first cap) w := fun _ _ _ _ => rfl
  obtain ⟨wA, hA⟩ : ∃ wA, wA = (w.alloc (.cells #[.pointer (some ⟨D, 0, none⟩)] 22)).alloc (.cells #[.int .i64 F, .int .i64 Z] 93) := ⟨_, rfl⟩
  have bP : Blk wA w.heap.size 22 #[.pointer (some ⟨D, 0, none⟩)] := by rw [hA]; exact (by (repeat' (first | (with_reducible assumption) | exact Blk.new' (by simp) | refine Blk.alloc ?_ _)))
  have bJ : Blk wA (w.heap.size + 1) 93 #[.int .i64 F, .int .i64 Z] := by rw [hA]; exact (by (repeat' (first | (with_reducible assumption) | exact Blk.new' (by simp) | refine Blk.alloc ?_ _)))
  have BA : Below w.heap.size w wA := by rw [hA]; (repeat' (first | (with_reducible exact Below.refl _ _) | (with_reducible assumption) | (with_reducible refine Below.alloc ?_ ?_ _) | (with_reducible refine Below.drew ?_) | (with_reducible refine below_drewN' ?_ _) | (with_reducible refine Below.setCell ?_ ?_ _) | (with_reducible exact Nat.le_refl _) | omega | (simp; done) | (simp; omega)))
  have hhead := head_dev D F Z B x wA (h.below BA)
  have hq := head_seq x F Z
  have HC := show x.clear F Z = if (x.head F Z).1 ≠ 0 then ((x.head F Z).1, x) else DevS.done (x.put F 1 (next (x.head F Z).2) ⟨#[]⟩) from rfl
  generalize (x.head F Z).1 = E at *
  generalize (x.head F Z).2 = q at *
  have HC0 := Lib.hid HC
  have cP := bP.cells
  have cJ := bJ.cells
  have lP := bP.lt
  have lJ := bJ.lt
  clear HC
  unfold DevDid
  go_enter Tryz.func71, Tryz.ntmps71
  go_wp2_with fail
  rw [← hA]
  clear hA
  go_wp2_with fail
  refine hhead.mono ?_
  rintro e w1 ⟨rfl, hb1⟩
  have bP1 := bP.belowAll hb1
  have bJ1 := bJ.belowAll hb1
  have B1 := BA.trans (hb1.mono BA.size)
  clear hhead hb1 cP cJ lP lJ bP bJ BA
  by_cases hE : E = 0
  rotate_left
  · have HL : Hid (x.clear F Z = (E, x)) := Lib.hid (by rw [HC0.out, if_pos hE])
    have hE' : (E != 0) = true := by simpa using hE
    clear hE HC0
    go_wp2_with fail
    go_ret
    exact ⟨by rw [HL.out]; rfl, B, by rw [HL.out]; exact (h.below B1).alloc _, Grow.of_below (B1.alloc B1.size _) B⟩
  have HL : Hid (x.clear F Z = DevS.done (x.put F 1 (next q) ⟨#[]⟩)) := Lib.hid (by rw [HC0.out, if_neg (by simpa using hE)])
  subst hE
  clear HC0
  obtain ⟨PQ, hPQ⟩ : ∃ PQ, PQ = w1.heap.size := ⟨_, rfl⟩
  obtain ⟨wT, hT⟩ : ∃ wT, wT = (w1.alloc (.cells #[.int .u32 q] 106)).alloc (.cells #[.func (.func 109) #[] #[.pointer (some ⟨w.heap.size, 0, none⟩), .pointer (some ⟨w.heap.size + 1, 0, none⟩), .pointer (some ⟨PQ, 0, none⟩)], .func (.func 102) #[.pointer (some ⟨D, 0, none⟩)] #[]] 41) := ⟨_, rfl⟩
  have bPT : Blk wT w.heap.size 22 #[.pointer (some ⟨D, 0, none⟩)] := by rw [hT]; exact (bP1.alloc _).alloc _
  have bJT : Blk wT (w.heap.size + 1) 93 #[.int .i64 F, .int .i64 Z] := by rw [hT]; exact (bJ1.alloc _).alloc _
  have bQT : Blk wT PQ 106 #[.int .u32 q] := by rw [hT, hPQ]; exact (Blk.new _ _ _).alloc _
  have bST : Blk wT (PQ + 1) 41 #[.func (.func 109) #[] #[.pointer (some ⟨w.heap.size, 0, none⟩), .pointer (some ⟨w.heap.size + 1, 0, none⟩), .pointer (some ⟨PQ, 0, none⟩)], .func (.func 102) #[.pointer (some ⟨D, 0, none⟩)] #[]] := by rw [hT]; exact Blk.new' (by simp [hPQ])
  have BT : Below w.heap.size w wT := by rw [hT]; exact (B1.alloc B1.size _).alloc (by have := B1.size; simp; omega) _
  have hdT := h.below BT
  have nS : PQ + 1 ∉ B := h.far (by have := B1.size; omega)
  obtain ⟨p, hp⟩ : ∃ p, x.put F 1 (next q) ⟨#[]⟩ = p := ⟨_, rfl⟩
  rw [hp] at HL
  have hthen := then2 109 102 #[] #[.pointer (some ⟨w.heap.size, 0, none⟩), .pointer (some ⟨w.heap.size + 1, 0, none⟩), .pointer (some ⟨PQ, 0, none⟩)] #[.pointer (some ⟨D, 0, none⟩)] #[] (PQ + 1) wT
    (fun W => p.1 = 0 ∧ ∃ B2, DevAt W D B2 p.2 ∧ Grow wT B W B2) (fun E W => E = (DevS.done p).1 ∧ ∃ B2, DevAt W D B2 (DevS.done p).2 ∧ Grow wT B W B2)
    (fun _ _ => by kernel_rfl) (fun _ _ => by kernel_rfl) bST (fun W hJ => by
      obtain ⟨-, B2, -, g2⟩ := hJ
      exact g2.blk bST nS)
    (by
      refine calls_as (clear1 D w.heap.size (w.heap.size + 1) PQ F Z q hq B x wT hdT bPT bJT bQT) rfl ?_
      rintro e W' ⟨rfl, B2, hd2, hg2⟩
      rw [hp] at hd2 ⊢
      refine ⟨_, rfl, fun hE => ⟨hE, B2, hd2, hg2⟩, fun hE => ?_⟩
      rw [done_bad hE]
      exact ⟨rfl, B2, hd2, hg2⟩)
    (by
      rintro W ⟨hE, B2, hd2, hg2⟩
      refine calls_as (flush_dev D B2 p.2 W hd2) rfl ?_
      rintro e W' ⟨rfl, hd3, hg3⟩
      refine ⟨_, rfl, ?_⟩
      rw [done_zero hE]
      exact ⟨rfl, B2, hd3, hg2.trans hg3⟩)
  have cP1 := bP1.cells
  have lP1 := bP1.lt
  clear bPT bJT bQT bST hdT nS hp
  rw [hPQ] at hT hthen
  clear hPQ
  go_wp2_with fail
  rw [← hT]
  refine hthen.mono ?_
  rintro e w' ⟨E, rfl, rfl, B2, hd2, hg2⟩
  clear hT hthen
  go_wp2_with fail
  go_ret
  rw [HL.out]
  exact ⟨rfl, B2, hd2, (Grow.of_below BT B).trans hg2⟩

set_option maxRecDepth 100000 in
set_option maxHeartbeats 400000 in
theorem com1 (D PD PJ PR : Nat) (F Z : Int) (B : List Nat) (x : DevS) (A : Option Addr) (c : Nat) (l : List Rec) (hok : RecsOk l) (w : World) (h : DevAt w D B x) (hr : RunAt w A l) (hAB : ∀ ad, A = some ad → ad.block ∉ B) (bP : Blk w PD 22 #[.pointer (some ⟨D, 0, none⟩)]) (bJ : Blk w PJ 93 #[.int .i64 F, .int .i64 Z]) (bR : Blk w PR 36 #[.slice A l.length c]) :
    Calls Tryz.prog 87 #[.pointer (some ⟨PD, 0, none⟩), .pointer (some ⟨PJ, 0, none⟩), .pointer (some ⟨PR, 0, none⟩)] w (DevDid w D B (x.log F Z l)) := by
  have cP := bP.cells
  have lP := bP.lt
  have cJ := bJ.cells
  have lJ := bJ.lt
  have cR := bR.cells
  have lR := bR.lt
  have hl := log_dev D F Z B x A c l hok w h hr hAB
  unfold DevDid at hl ⊢
  go_enter Tryz.func87, Tryz.ntmps87
  go_wp2_with fail
  refine hl.mono ?_
  rintro e w1 ⟨rfl, hd⟩
  go_wp2_with fail
  go_ret
  exact ⟨rfl, hd⟩
set_option maxRecDepth 100000 in
set_option maxHeartbeats 400000 in
theorem com2 (D PD PJ : Nat) (F Z : Int) (B : List Nat) (x : DevS) (w : World) (h : DevAt w D B x) (bP : Blk w PD 22 #[.pointer (some ⟨D, 0, none⟩)]) (bJ : Blk w PJ 93 #[.int .i64 F, .int .i64 Z]) :
    Calls Tryz.prog 89 #[.pointer (some ⟨PD, 0, none⟩), .pointer (some ⟨PJ, 0, none⟩)] w (DevDid w D B (x.apply F Z).2) := by
  have cP := bP.cells
  have lP := bP.lt
  have cJ := bJ.cells
  have lJ := bJ.lt
  have hl := Apply_dev D F Z B x w h
  unfold DevDid
  generalize x.apply F Z = p at *
  go_enter Tryz.func89, Tryz.ntmps89
  go_wp2_with fail
  refine hl.mono ?_
  rintro e w1 ⟨rfl, hd⟩
  go_wp2_with fail
  go_ret
  exact ⟨rfl, hd⟩
set_option maxRecDepth 100000 in
set_option maxHeartbeats 400000 in
theorem com3 (D PD PJ : Nat) (F Z : Int) (B : List Nat) (x : DevS) (w : World) (h : DevAt w D B x) (bP : Blk w PD 22 #[.pointer (some ⟨D, 0, none⟩)]) (bJ : Blk w PJ 93 #[.int .i64 F, .int .i64 Z]) :
    Calls Tryz.prog 91 #[.pointer (some ⟨PD, 0, none⟩), .pointer (some ⟨PJ, 0, none⟩)] w (DevDid w D B (x.clear F Z)) := by
  have cP := bP.cells
  have lP := bP.lt
  have cJ := bJ.cells
  have lJ := bJ.lt
  have hl := clear_dev D F Z B x w h
  unfold DevDid at hl ⊢
  go_enter Tryz.func91, Tryz.ntmps91
  go_wp2_with fail
  refine hl.mono ?_
  rintro e w1 ⟨rfl, hd⟩
  go_wp2_with fail
  go_ret
  exact ⟨rfl, hd⟩

set_option maxRecDepth 100000 in
set_option maxHeartbeats 1000000 in
theorem commit_dev (D : Nat) (F Z : Int) (B : List Nat) (x : DevS) (A : Option Addr) (c : Nat) (l : List Rec) (hok : RecsOk l) (w : World) (h : DevAt w D B x) (hr : RunAt w A l) (hAB : ∀ ad, A = some ad → ad.block ∉ B) :
    Calls Tryz.prog 53 #[.pointer (some ⟨D, 0, none⟩), .agg #[.int .i64 F, .int .i64 Z], .slice A l.length c] w (DevDid w D B (x.commit F Z l)) := by
  have hmf : ∀ (fn : Fn) (first cap : Array Value) (w : World), (Instr.makeFunc fn first cap).run Tryz.prog w = .ok (.func fn first cap) w := fun _ _ _ _ => rfl
  have HC := show x.commit F Z l = if (x.log F Z l).1 ≠ 0 then x.log F Z l else if ((x.log F Z l).2.apply F Z).2.1 ≠ 0 then ((x.log F Z l).2.apply F Z).2 else ((x.log F Z l).2.apply F Z).2.2.clear F Z from rfl
  obtain ⟨wT, hT⟩ : ∃ wT, wT = (((w.alloc (.cells #[.pointer (some ⟨D, 0, none⟩)] 22)).alloc (.cells #[.int .i64 F, .int .i64 Z] 93)).alloc (.cells #[.slice A l.length c] 36)).alloc (.cells #[.func (.func 87) #[] #[.pointer (some ⟨w.heap.size, 0, none⟩), .pointer (some ⟨w.heap.size + 1, 0, none⟩), .pointer (some ⟨w.heap.size + 1 + 1, 0, none⟩)], .func (.func 89) #[] #[.pointer (some ⟨w.heap.size, 0, none⟩), .pointer (some ⟨w.heap.size + 1, 0, none⟩)], .func (.func 91) #[] #[.pointer (some ⟨w.heap.size, 0, none⟩), .pointer (some ⟨w.heap.size + 1, 0, none⟩)]] 41) := ⟨_, rfl⟩
  have bP : Blk wT w.heap.size 22 #[.pointer (some ⟨D, 0, none⟩)] := by rw [hT]; exact (by (repeat' (first | (with_reducible assumption) | exact Blk.new' (by simp) | refine Blk.alloc ?_ _)))
  have bJ : Blk wT (w.heap.size + 1) 93 #[.int .i64 F, .int .i64 Z] := by rw [hT]; exact (by (repeat' (first | (with_reducible assumption) | exact Blk.new' (by simp) | refine Blk.alloc ?_ _)))
  have bR : Blk wT (w.heap.size + 1 + 1) 36 #[.slice A l.length c] := by rw [hT]; exact (Blk.new' (by simp)).alloc _
  have bS : Blk wT (w.heap.size + 1 + 1 + 1) 41 #[.func (.func 87) #[] #[.pointer (some ⟨w.heap.size, 0, none⟩), .pointer (some ⟨w.heap.size + 1, 0, none⟩), .pointer (some ⟨w.heap.size + 1 + 1, 0, none⟩)], .func (.func 89) #[] #[.pointer (some ⟨w.heap.size, 0, none⟩), .pointer (some ⟨w.heap.size + 1, 0, none⟩)], .func (.func 91) #[] #[.pointer (some ⟨w.heap.size, 0, none⟩), .pointer (some ⟨w.heap.size + 1, 0, none⟩)]] := by rw [hT]; exact Blk.new' (by simp)
  have BT : Below w.heap.size w wT := by rw [hT]; (repeat' (first | (with_reducible exact Below.refl _ _) | (with_reducible assumption) | (with_reducible refine Below.alloc ?_ ?_ _) | (with_reducible refine Below.drew ?_) | (with_reducible refine below_drewN' ?_ _) | (with_reducible refine Below.setCell ?_ ?_ _) | (with_reducible exact Nat.le_refl _) | omega | (simp; done) | (simp; omega)))
  have nP : w.heap.size ∉ B := h.far (Nat.le_refl _)
  have nJ : w.heap.size + 1 ∉ B := h.far (by omega)
  have nS : w.heap.size + 1 + 1 + 1 ∉ B := h.far (by omega)
  obtain ⟨p, hp⟩ : ∃ p, x.log F Z l = p := ⟨_, rfl⟩
  obtain ⟨a, ha⟩ : ∃ a, (p.2.apply F Z).2 = a := ⟨_, rfl⟩
  rw [hp, ha] at HC
  have hthen := then3 87 89 91 #[] #[.pointer (some ⟨w.heap.size, 0, none⟩), .pointer (some ⟨w.heap.size + 1, 0, none⟩), .pointer (some ⟨w.heap.size + 1 + 1, 0, none⟩)] #[] #[.pointer (some ⟨w.heap.size, 0, none⟩), .pointer (some ⟨w.heap.size + 1, 0, none⟩)] #[] #[.pointer (some ⟨w.heap.size, 0, none⟩), .pointer (some ⟨w.heap.size + 1, 0, none⟩)] (w.heap.size + 1 + 1 + 1) wT
    (fun W => p.1 = 0 ∧ ∃ B2, DevAt W D B2 p.2 ∧ Grow wT B W B2) (fun W => p.1 = 0 ∧ a.1 = 0 ∧ ∃ B2, DevAt W D B2 a.2 ∧ Grow wT B W B2) (fun E W => E = (x.commit F Z l).1 ∧ ∃ B2, DevAt W D B2 (x.commit F Z l).2 ∧ Grow wT B W B2)
    (fun _ _ => by kernel_rfl) (fun _ _ => by kernel_rfl) (fun _ _ => by kernel_rfl) bS (fun W hJ => by
      rcases hJ with ⟨-, B2, -, g2⟩ | ⟨-, -, B2, -, g2⟩
      · exact g2.blk bS nS
      · exact g2.blk bS nS)
    (by
      refine calls_as (com1 D w.heap.size (w.heap.size + 1) (w.heap.size + 1 + 1) F Z B x A c l hok wT (h.below BT) (Reads.below hr BT) hAB bP bJ bR) rfl ?_
      rintro e W' ⟨rfl, B2, hd2, hg2⟩
      rw [hp] at hd2 ⊢
      refine ⟨_, rfl, fun hE => ⟨hE, B2, hd2, hg2⟩, fun hE => ?_⟩
      rw [HC, if_pos hE]
      exact ⟨rfl, B2, hd2, hg2⟩)
    (by
      rintro W ⟨hE, B2, hd2, hg2⟩
      refine calls_as (com2 D w.heap.size (w.heap.size + 1) F Z B2 p.2 W hd2 (hg2.blk bP nP) (hg2.blk bJ nJ)) rfl ?_
      rintro e W' ⟨rfl, B3, hd3, hg3⟩
      rw [ha] at hd3 ⊢
      refine ⟨_, rfl, fun hE2 => ⟨hE, hE2, B3, hd3, hg2.trans hg3⟩, fun hE2 => ?_⟩
      rw [HC, if_neg (by rw [hE]; simp), if_pos hE2]
      exact ⟨rfl, B3, hd3, hg2.trans hg3⟩)
    (by
      rintro W ⟨hE, hE2, B2, hd2, hg2⟩
      refine calls_as (com3 D w.heap.size (w.heap.size + 1) F Z B2 a.2 W hd2 (hg2.blk bP nP) (hg2.blk bJ nJ)) rfl ?_
      rintro e W' ⟨rfl, B3, hd3, hg3⟩
      refine ⟨_, rfl, ?_⟩
      rw [HC, if_neg (by rw [hE]; simp), if_neg (by rw [hE2]; simp)]
      exact ⟨rfl, B3, hd3, hg2.trans hg3⟩)
  unfold DevDid
  clear bP bJ bR bS nP nJ nS hp ha HC
  go_enter Tryz.func53, Tryz.ntmps53
  go_wp2_with fail
  rw [← hT]
  refine hthen.mono ?_
  rintro e w' ⟨E, rfl, rfl, B2, hd2, hg2⟩
  clear hT hthen
  go_wp2_with fail
  go_ret
  exact ⟨rfl, B2, hd2, (Grow.of_below BT B).trans hg2⟩

end Go.Proofs.YtfgfdjaiamaelaaGreatDoor
