/- Parts of the proof, put together by program: N3, N7, N4. -/
import Derived.Test.YtfmobeeddlnhcaaGreatDoorPart44
/- The laws of layer 12: the example, walked. -/
namespace Go.Proofs.YtfmobeeddlnhcaaGreatDoor
open Go.RowKit Go.Maps

/-- A list which the transaction does not touch. -/
structure Keeps (w : World) (F : List Nat) (A : Option Addr) (c : Nat) (l : List Int) : Prop where
  sl : SlI w A c l
  out : ∀ a, A = some a → a.block ∉ F ∧ a.block < w.heap.size
theorem Keeps.grow {w w' : World} {F F' : List Nat} {A : Option Addr} {c : Nat} {l : List Int} (h : Keeps w F A c l) (g : Grow w F w' F') : Keeps w' F' A c l :=
  ⟨⟨h.sl.reads.growF g fun a e => (h.out a e).1, h.sl.nil, h.sl.cap⟩, fun a e => ⟨g.notin (h.out a e).1 (h.out a e).2, Nat.lt_of_lt_of_le (h.out a e).2 g.keep.size⟩⟩
theorem Keeps.below {w w' : World} {F : List Nat} {A : Option Addr} {c : Nat} {l : List Int} (h : Keeps w F A c l) (hb : Below w.heap.size w w') : Keeps w' F A c l :=
  ⟨h.sl.below hb, fun a e => ⟨(h.out a e).1, Nat.lt_of_lt_of_le (h.out a e).2 hb.size⟩⟩
theorem Keeps.of_did {w' : World} {base : Nat} {F' : List Nat} {v : Value} {l : List Int} (ho : w'.ownsRow base 3 1 v l.length (l.map (.int .i64))) (hf : ∀ q, v.ownBlock = some q → q ∉ F') : ∃ A c, v = .slice A l.length c ∧ Keeps w' F' A c l := by
  obtain ⟨A, c, rfl, hs⟩ := SlI.of_own ho
  exact ⟨A, c, rfl, hs, fun a e => by subst e; exact ⟨hf a.block rfl, (own_lt ho a.block rfl).2⟩⟩
theorem Grow.lo {w w' : World} {F F' : List Nat} {n : Nat} (g : Grow w F w' F') (hn : n ≤ w.heap.size) (hF : ∀ b ∈ F, n ≤ b) : ∀ b ∈ F', n ≤ b := fun b hb => by
  rcases g.new b hb with h | h
  · exact hF b h
  · omega
theorem slI_nil (w : World) : SlI w none 0 [] := ⟨.inl rfl, by simp, by simp⟩
theorem lettersB_size (c : Int) (n : Nat) : (lettersB c n).size = n := by unfold lettersB; rw [strOfNums_size]; simp

def AwakePost (w : World) (e : Ending) (w' : World) : Prop := e = .returned (.bool true) ∧ Below w.heap.size w w'

set_option maxRecDepth 100000 in
set_option maxHeartbeats 8000000 in
theorem awake_any (w : World) (hH : HalfAt w) : Calls Tryz.prog 10 #[] w (AwakePost w) := by
  have hbg : Calls Tryz.prog 15 #[.agg #[.int .i64 64, .int .i64 8, .int .i64 40]] w (BegunPost w 64 8 40) := begun_fresh 64 8 40 (by decide) w hH
  unfold AwakePost
  go_enter Tryz.func10, Tryz.ntmps10
  go_wp2_with fail
  refine hbg.mono ?_
  rintro e w1 ⟨D, T, F1, B, y, rfl, hF, h1, B1, hF1, hB1⟩
  rw [show freeTx 64 8 40 = yA from by unfold freeTx yA; rw [show (rgB 64 8 40).toNat = 14 from by decide]] at h1
  obtain ⟨a1, a2, a3, a4, a5, a6, a7, a8, a9, a10, a11, a12⟩ := awake_plain (x := y) (fun a h1 h2 => hF.blank a (by rcases h1 with h | h; exact .inl h; exact .inr (by omega)) h2)
  have hl1 := letters_any 97 100 (by omega) w1
  clear hbg hF
  go_wp2_with fail
  refine hl1.mono ?_
  rintro e w2 ⟨rfl, hb2⟩
  have h2 := h1.below hb2
  have B2 := B1.trans (hb2.mono B1.size)
  have c1 : Calls Tryz.prog 30 #[.pointer (some ⟨T, 0, none⟩), .int .i64 8, .slice none 0 0, .int .i64 0, .int .i64 0, .string (lettersB 97 100)] w2 (DwPost w2 T F1 D B y (aw1 y)) :=
    dwrite_tx T F1 D yA B y 8 none 0 [] (by simp) 0 0 (lettersB 97 100) (by rw [lettersB_size]; omega) (by omega) (by omega) w2 h2 (slI_nil w2)
  clear hl1 hb2 h1 B1
  go_wp2_with fail
  refine c1.mono ?_
  rintro e w3 ⟨v3, he, ho3, F3, h3, g3, f3⟩
  rw [a1, a3] at he
  rw [a2] at ho3
  subst he
  obtain ⟨A3, c3, rfl, k3⟩ := Keeps.of_did ho3 f3
  have B3 := B2.trans (g3.below B2.size hF1)
  have hF3 := g3.lo B2.size hF1
  clear c1 h2 B2 ho3 f3 g3 a1 a2 a3
  have c2 : Calls Tryz.prog 20 #[.pointer (some ⟨T, 0, none⟩), .int .i64 8, .slice A3 2 c3, .int .i64 100, .int .i64 94, .int .i64 9] w3 fun e w' => e = .returned (.tuple #[.string (aw2 y).1, .int .i64 (aw2 y).2]) ∧ Below w3.heap.size w3 w' :=
    dread_tx T F3 D (aw1 y).2.1 B y 8 A3 c3 [0, 1] (by simp) 100 94 9 (by omega) w3 h3.tx h3.dev k3.sl
  rw [a4] at c2
  go_wp2_with fail
  refine c2.mono ?_
  rintro e w4 ⟨rfl, hb4⟩
  have h4 := h3.below hb4
  have k4 := k3.below hb4
  have B4 := B3.trans (hb4.mono B3.size)
  clear c2 h3 k3 B3 hb4
  have c3' : Calls Tryz.prog 30 #[.pointer (some ⟨T, 0, none⟩), .int .i64 8, .slice A3 2 c3, .int .i64 100, .int .i64 96, .string ⟨#[98, 98]⟩] w4 (DwPost w4 T F3 D B y (aw3 y)) :=
    dwrite_tx T F3 D (aw1 y).2.1 B y 8 A3 c3 [0, 1] (by simp) 100 96 ⟨#[98, 98]⟩ (by decide) (by omega) (by omega) w4 h4 k4.sl
  go_wp2_with fail
  refine c3'.mono ?_
  rintro e w5 ⟨v5, he, ho5, F5, h5, g5, f5⟩
  rw [a5, a7] at he
  rw [a6] at ho5
  subst he
  obtain ⟨A5, c5, rfl, m5⟩ := Keeps.of_did ho5 f5
  have k5 := k4.grow g5
  have B5 := B4.trans (g5.below B4.size hF3)
  have hF5 := g5.lo B4.size hF3
  clear c3' h4 k4 B4 ho5 f5 g5 a4 a5 a6 a7
  have c4 : Calls Tryz.prog 42 #[.pointer (some ⟨T, 0, none⟩), .int .i64 8, .slice A5 2 c5, .int .i64 100, .int .i64 3] w5 (DcPost w5 T F5 D B y (aw4 y)) :=
    dcut_tx T F5 D (aw3 y).2.1 B y 8 A5 c5 [0, 1] (by simp) 100 3 (by omega) w5 h5 m5.sl
  go_wp2_with fail
  refine c4.mono ?_
  rintro e w6 ⟨v6, he, ho6, F6, h6, g6, f6⟩
  rw [a8] at he
  rw [a9] at ho6
  subst he
  obtain ⟨A6, c6, rfl, n6⟩ := Keeps.of_did ho6 f6
  have k6 := k5.grow g6
  have m6 := m5.grow g6
  have B6 := B5.trans (g6.below B5.size hF5)
  have hF6 := g6.lo B5.size hF5
  clear c4 h5 k5 m5 B5 ho6 f6 g6 a8 a9
  have c5' : Calls Tryz.prog 42 #[.pointer (some ⟨T, 0, none⟩), .int .i64 8, .slice A6 1 c6, .int .i64 3, .int .i64 5] w6 (DcPost w6 T F6 D B y (aw5 y)) :=
    dcut_tx T F6 D (aw4 y).2.1 B y 8 A6 c6 [0] (by simp) 3 5 (by omega) w6 h6 n6.sl
  go_wp2_with fail
  refine c5'.mono ?_
  rintro e w7 ⟨v7, he, ho7, F7, h7, g7, f7⟩
  rw [a10] at he
  rw [a11] at ho7
  subst he
  obtain ⟨A7, c7, rfl, p7⟩ := Keeps.of_did ho7 f7
  have k7 := (k6.grow g7).sl
  have m7 := (m6.grow g7).sl
  have n7 := (n6.grow g7).sl
  have B7 := B6.trans (g7.below B6.size hF6)
  have d7 := p7.sl
  clear c5' h6 k6 m6 n6 B6 ho7 f7 g7 a10 a11
  have c6' : Calls Tryz.prog 20 #[.pointer (some ⟨T, 0, none⟩), .int .i64 8, .slice A7 1 c7, .int .i64 5, .int .i64 0, .int .i64 768] w7 fun e w' => e = .returned (.tuple #[.string (aw6 y).1, .int .i64 (aw6 y).2]) ∧ Below w7.heap.size w7 w' :=
    dread_tx T F7 D (aw5 y).2.1 B y 8 A7 c7 [0] (by simp) 5 0 768 (by omega) w7 h7.tx h7.dev d7
  rw [a12] at c6'
  go_wp2_with fail
  refine c6'.mono ?_
  rintro e w8 ⟨rfl, hb8⟩
  have k8 := k7.below hb8
  have m8 := m7.below hb8
  have n8 := n7.below hb8
  have d8 := d7.below hb8
  have B8 := B7.trans (hb8.mono B7.size)
  clear c6' k7 m7 n7 d7 h7 p7 B7 hb8 a12 hF1 hF3 hF5 hF6 hB1
  obtain ⟨w9, hw9⟩ : ∃ w9, w9 = w8.alloc (.cells #[.int .i64 0, .int .i64 1] 3) := ⟨_, rfl⟩
  have b9 : Below w8.heap.size w8 w9 := by rw [hw9]; (repeat' (first | (with_reducible exact Below.refl _ _) | (with_reducible assumption) | (with_reducible refine Below.alloc ?_ ?_ _) | (with_reducible refine Below.drew ?_) | (with_reducible refine below_drewN' ?_ _) | (with_reducible refine Below.setCell ?_ ?_ _) | (with_reducible exact Nat.le_refl _) | omega | (simp; done) | (simp; omega)))
  have r9 : Reads w9 (some ⟨w8.heap.size, 0, none⟩) ([0, 1].map (.int .i64)) := by
    have := Blk.new w8 3 #[.int .i64 0, .int .i64 1]
    rw [← hw9] at this
    exact .inr ⟨_, 0, rfl, this.lt, fun k u hu => by rw [Nat.zero_add]; exact (this.cells k).trans (by simpa using hu)⟩
  have HW := Lib.hid hw9
  clear hw9
  go_wp2_with fail
  rw [← HW.out]
  have s1 : Calls Tryz.prog 36 #[.slice A3 2 c3, .slice (some ⟨w8.heap.size, 0, none⟩) 2 2] w9 fun e w' => e = .returned (.bool true) ∧ Below w9.heap.size w9 w' := by
    simpa using sameInts_any A3 (some ⟨w8.heap.size, 0, none⟩) c3 2 [0, 1] [0, 1] (by simp) (by simp) w9 (k8.below b9).reads r9
  refine s1.mono ?_
  rintro e w10 ⟨rfl, hb10⟩
  have B10 := B8.trans ((b9.trans (hb10.mono b9.size)).mono B8.size)
  have s2 : Calls Tryz.prog 36 #[.slice A5 2 c5, .slice A3 2 c3] w10 fun e w' => e = .returned (.bool true) ∧ Below w10.heap.size w10 w' := by
    simpa using sameInts_any A5 A3 c5 c3 [0, 1] [0, 1] (by simp) (by simp) w10 (((m8.below b9).below hb10).reads) (((k8.below b9).below hb10).reads)
  have n10 := (n8.below b9).below hb10
  have d10 := (d8.below b9).below hb10
  clear s1 HW r9 hb10 k8 m8 n8 d8 b9 B8
  go_wp2_with fail
  refine s2.mono ?_
  rintro e w11 ⟨rfl, hb11⟩
  have B11 := B10.trans (hb11.mono B10.size)
  have n11 := n10.below hb11
  have d11 := d10.below hb11
  obtain ⟨w12, hw12⟩ : ∃ w12, w12 = w11.alloc (.cells #[.int .i64 0] 3) := ⟨_, rfl⟩
  have b12 : Below w11.heap.size w11 w12 := by rw [hw12]; (repeat' (first | (with_reducible exact Below.refl _ _) | (with_reducible assumption) | (with_reducible refine Below.alloc ?_ ?_ _) | (with_reducible refine Below.drew ?_) | (with_reducible refine below_drewN' ?_ _) | (with_reducible refine Below.setCell ?_ ?_ _) | (with_reducible exact Nat.le_refl _) | omega | (simp; done) | (simp; omega)))
  have r12 : Reads w12 (some ⟨w11.heap.size, 0, none⟩) ([0].map (.int .i64)) := by
    have := Blk.new w11 3 #[.int .i64 0]
    rw [← hw12] at this
    exact .inr ⟨_, 0, rfl, this.lt, fun k u hu => by rw [Nat.zero_add]; exact (this.cells k).trans (by simpa using hu)⟩
  have HW := Lib.hid hw12
  clear s2 hw12 n10 d10 B10 hb11
  go_wp2_with fail
  rw [← HW.out]
  have s3 : Calls Tryz.prog 36 #[.slice A6 1 c6, .slice (some ⟨w11.heap.size, 0, none⟩) 1 1] w12 fun e w' => e = .returned (.bool true) ∧ Below w12.heap.size w12 w' := by
    simpa using sameInts_any A6 (some ⟨w11.heap.size, 0, none⟩) c6 1 [0] [0] (by simp) (by simp) w12 (n11.below b12).reads r12
  refine s3.mono ?_
  rintro e w13 ⟨rfl, hb13⟩
  have B13 := B11.trans ((b12.trans (hb13.mono b12.size)).mono B11.size)
  have s4 : Calls Tryz.prog 36 #[.slice A7 1 c7, .slice A6 1 c6] w13 fun e w' => e = .returned (.bool true) ∧ Below w13.heap.size w13 w' := by
    simpa using sameInts_any A7 A6 c7 c6 [0] [0] (by simp) (by simp) w13 (((d11.below b12).below hb13).reads) (((n11.below b12).below hb13).reads)
  clear s3 HW r12 hb13 n11 d11 b12 B11
  go_wp2_with fail
  refine s4.mono ?_
  rintro e w14 ⟨rfl, hb14⟩
  have B14 := B13.trans (hb14.mono B13.size)
  clear s4 hb14 B13
  go_wp2_with fail
  go_ret
  exact ⟨rfl, B14⟩
end Go.Proofs.YtfmobeeddlnhcaaGreatDoor
/- Layer 12: calls on a transaction that is none, or has ended. -/
namespace Go.Proofs.YtfmobeeddlnhcaaGreatDoor
open Go.RowKit Go.Maps

set_option maxRecDepth 100000 in
set_option maxHeartbeats 2000000 in
theorem sized_bad (tv : Value) (E k : Int) (A : Option Addr) (n c : Nat) (size : Int) (bad long : Bool) (w : World) (h : StE w tv E) (hE : E ≠ 0) :
    Calls Tryz.prog 48 #[tv, .int .i64 k, .slice A n c, .int .i64 size, .bool bad, .bool long] w fun e w' => e = .returned (.tuple #[.agg ls0, .int .i64 E]) ∧ Below w.heap.size w w' := by
  obtain ⟨wA, hWA⟩ : ∃ wA, wA = w.alloc (.cells ls0 117) := ⟨_, rfl⟩
  have bR : Blk wA w.heap.size 117 ls0 := by rw [hWA]; exact (by (repeat' (first | (with_reducible assumption) | exact Blk.new' (by simp) | refine Blk.alloc ?_ _)))
  have BA : Below w.heap.size w wA := by rw [hWA]; (repeat' (first | (with_reducible exact Below.refl _ _) | (with_reducible assumption) | (with_reducible refine Below.alloc ?_ ?_ _) | (with_reducible refine Below.drew ?_) | (with_reducible refine below_drewN' ?_ _) | (with_reducible refine Below.setCell ?_ ?_ _) | (with_reducible exact Nat.le_refl _) | omega | (simp; done) | (simp; omega)))
  have hop := dopen_bad tv E k (.slice A n c) wA (h.below BA) hE
  have hE' : (E != 0) = true := by simpa using hE
  clear h hE
  go_enter Tryz.func48, Tryz.ntmps48
  go_wp2_with fail
  rw [← hWA]
  go_wp2_with fail
  refine hop.mono ?_
  rintro e w1 ⟨rfl, hb1⟩
  have B1 := BA.trans (hb1.mono BA.size)
  have bR1 := bR.belowAll hb1
  clear hop hWA hb1 bR BA
  obtain ⟨w2, hw2⟩ : ∃ w2, w2 = w1.alloc (.cells ls0 117) := ⟨_, rfl⟩
  have bR2 : Blk w2 w.heap.size 117 ls0 := by rw [hw2]; exact bR1.alloc _
  have bL2 : Blk w2 w1.heap.size 117 ls0 := by rw [hw2]; exact Blk.new _ _ _
  have B2 : Below w.heap.size w w2 := by rw [hw2]; exact B1.alloc B1.size _
  have lL := bL2.lt
  have lR := bR2.lt
  have HST := storeRow (ty := 117) (vs := ls0) bR2 rfl (by simp [Value.oneCell']) (by kernel_rfl)
  have cL := bL2.cells
  rw [hw2] at cL lL lR HST
  have HW2 := Lib.hid hw2
  have hlt : w.heap.size < w1.heap.size := bR1.lt
  clear hw2
  go_wp2_with (refine wpList_storeBy rfl _ _ _ rfl _ _ rfl rfl HST ?_)
  rw [← HW2.out]
  have cF := (bR2.setRow (cs' := ls0)).cells
  refine bodyPost_ret (v := .tuple #[.agg ls0, .int .i64 E]) (by simp [results, Tryz.results48, go_sem, cF]) rfl ?_
  exact ⟨rfl, Below.setRow B2 (Nat.le_refl _) _⟩

set_option maxRecDepth 100000 in
set_option maxHeartbeats 2000000 in
theorem dwrite_bad (tv : Value) (E k : Int) (A : Option Addr) (n c : Nat) (size off : Int) (s : ByteArray) (w : World) (h : StE w tv E) (hE : E ≠ 0) :
    Calls Tryz.prog 30 #[tv, .int .i64 k, .slice A n c, .int .i64 size, .int .i64 off, .string s] w fun e w' => e = .returned (.tuple #[.slice none 0 0, .int .i64 0, .int .i64 E]) ∧ Below w.heap.size w w' := by
  have hsd := fun b l => sized_bad tv E k A n c size b l w h hE
  have HSD := Lib.hid hsd
  have hE' : (E != 0) = true := by simpa using hE
  clear h hE hsd
  go_enter Tryz.func30, Tryz.ntmps30
  cases h1 : decide (off < 0)
  rotate_left
  focus
    go_wp2_with fail
    refine (HSD.out _ _).mono ?_
    rintro e w1 ⟨rfl, hb1⟩
    go_wp2_with fail
    refine bodyPost_ret (v := .tuple #[.slice none 0 0, .int .i64 0, .int .i64 E]) (by simp [results, Tryz.results30, go_sem]) rfl ?_
    exact ⟨rfl, hb1.alloc hb1.size _⟩
  cases h2 : decide (size < off)
  all_goals
    go_wp2_with fail
    refine (HSD.out _ _).mono ?_
    rintro e w1 ⟨rfl, hb1⟩
    go_wp2_with fail
    refine bodyPost_ret (v := .tuple #[.slice none 0 0, .int .i64 0, .int .i64 E]) (by simp [results, Tryz.results30, go_sem]) rfl ?_
    exact ⟨rfl, hb1.alloc hb1.size _⟩

set_option maxRecDepth 100000 in
set_option maxHeartbeats 2000000 in
theorem dread_bad (tv : Value) (E k : Int) (A : Option Addr) (n c : Nat) (size off m : Int) (w : World) (h : StE w tv E) (hE : E ≠ 0) :
    Calls Tryz.prog 20 #[tv, .int .i64 k, .slice A n c, .int .i64 size, .int .i64 off, .int .i64 m] w fun e w' => e = .returned (.tuple #[.string ⟨#[]⟩, .int .i64 E]) ∧ Below w.heap.size w w' := by
  have hsd := fun b l => sized_bad tv E k A n c size b l w h hE
  have HSD := Lib.hid hsd
  have hE' : (E != 0) = true := by simpa using hE
  clear h hE hsd
  go_enter Tryz.func20, Tryz.ntmps20
  cases h1 : decide (off < 0)
  rotate_left
  focus
    go_wp2_with fail
    refine (HSD.out _ _).mono ?_
    rintro e w1 ⟨rfl, hb1⟩
    go_wp2_with fail
    go_ret2
    exact ⟨rfl, hb1.alloc hb1.size _⟩
  cases h2 : decide (m < 0)
  all_goals
    go_wp2_with fail
    refine (HSD.out _ _).mono ?_
    rintro e w1 ⟨rfl, hb1⟩
    go_wp2_with fail
    go_ret2
    exact ⟨rfl, hb1.alloc hb1.size _⟩

set_option maxRecDepth 100000 in
set_option maxHeartbeats 2000000 in
theorem dcut_bad (tv : Value) (E k : Int) (A : Option Addr) (n c : Nat) (size to_ : Int) (w : World) (h : StE w tv E) (hE : E ≠ 0) :
    Calls Tryz.prog 42 #[tv, .int .i64 k, .slice A n c, .int .i64 size, .int .i64 to_] w fun e w' => e = .returned (.tuple #[.slice none 0 0, .int .i64 E]) ∧ Below w.heap.size w w' := by
  have hsd := fun b l => sized_bad tv E k A n c size b l w h hE
  have HSD := Lib.hid hsd
  have hE' : (E != 0) = true := by simpa using hE
  clear h hE hsd
  go_enter Tryz.func42, Tryz.ntmps42
  cases h1 : decide (to_ < 0)
  rotate_left
  focus
    go_wp2_with fail
    refine (HSD.out _ _).mono ?_
    rintro e w1 ⟨rfl, hb1⟩
    go_wp2_with fail
    go_ret2
    exact ⟨rfl, hb1.alloc hb1.size _⟩
  cases h2 : decide (768 < to_)
  all_goals
    go_wp2_with fail
    refine (HSD.out _ _).mono ?_
    rintro e w1 ⟨rfl, hb1⟩
    go_wp2_with fail
    go_ret2
    exact ⟨rfl, hb1.alloc hb1.size _⟩

set_option maxRecDepth 100000 in
set_option maxHeartbeats 2000000 in
theorem dstore_bad (tv : Value) (E k : Int) (A : Option Addr) (n c : Nat) (pv : Value) (w : World) (h : StE w tv E) (hE : E ≠ 0) :
    Calls Tryz.prog 34 #[tv, .int .i64 k, .slice A n c, pv] w fun e w' => e = .returned (.tuple #[.slice none 0 0, .int .i64 E]) ∧ Below w.heap.size w w' := by
  have hop := dopen_bad tv E k (.slice A n c) w h hE
  have hE' : (E != 0) = true := by simpa using hE
  clear h hE
  go_enter Tryz.func34, Tryz.ntmps34
  go_wp2_with fail
  refine hop.mono ?_
  rintro e w1 ⟨rfl, hb1⟩
  go_wp2_with fail
  go_ret2
  exact ⟨rfl, hb1.alloc hb1.size _⟩

set_option maxRecDepth 100000 in
set_option maxHeartbeats 2000000 in
theorem dload_bad (tv : Value) (E k : Int) (A : Option Addr) (n c : Nat) (w : World) (h : StE w tv E) (hE : E ≠ 0) :
    Calls Tryz.prog 33 #[tv, .int .i64 k, .slice A n c] w fun e w' => e = .returned (.tuple #[.slice none 0 0, .int .i64 E]) ∧ Below w.heap.size w w' := by
  have hop := dopen_bad tv E k (.slice A n c) w h hE
  have hE' : (E != 0) = true := by simpa using hE
  clear h hE
  go_enter Tryz.func33, Tryz.ntmps33
  go_wp2_with fail
  refine hop.mono ?_
  rintro e w1 ⟨rfl, hb1⟩
  go_wp2_with fail
  go_ret2
  exact ⟨rfl, hb1.alloc hb1.size _⟩

end Go.Proofs.YtfmobeeddlnhcaaGreatDoor
/- The laws of layer 12: the reference's Split and Strings. -/
namespace Go.Proofs.YtfmobeeddlnhcaaGreatDoor
open Go.RowKit Go.Maps

set_option maxRecDepth 100000 in
set_option maxHeartbeats 2000000 in
theorem strings_any (A Bl : Option Addr) (c d : Nat) (la lb : List ByteArray) (hla : la.length ≤ 100000) (hlb : lb.length ≤ 100000) (w : World) (hA : Reads w A (la.map .string)) (hB : Reads w Bl (lb.map .string)) :
    Calls Tryz.prog 13 #[.slice A la.length c, .slice Bl lb.length d] w fun e w' => e = .returned (.bool (decide (la = lb))) ∧ Below w.heap.size w w' := by
  by_cases hl : la.length = lb.length
  rotate_left
  · have hd : decide (la = lb) = false := decide_eq_false fun e => hl (by rw [e])
    have HD := Lib.hid hd
    have hq : ((la.length : Int) != (lb.length : Int)) = true := by simp; omega
    clear hd hl
    go_enter Tryz.func13, Tryz.ntmps13
    go_wp2_with fail
    go_ret
    exact ⟨by rw [HD.out]; rfl, Below.refl _ _⟩
  · have hq : ((la.length : Int) != (lb.length : Int)) = false := by simp; omega
    have HL := Lib.hid hl
    clear hl
    go_enter Tryz.func13, Tryz.ntmps13
    go_wp2_with fail
    go_loopw [5] (fun q wr => ∃ k : Nat, k ≤ la.length ∧ q = .int .i64 k ∧ la.take k = lb.take k ∧ Below w.heap.size w wr) (fun q _ => la.length - (intOf q).toNat)
    case atStart => exact ⟨0, Nat.zero_le _, rfl, by simp, Below.refl _ _⟩
    case round =>
      obtain ⟨k, hk, rfl, ht, hb⟩ := hrel
      by_cases hlt : k < la.length
      · have hlt2 : k < lb.length := by have := HL.out; omega
        obtain ⟨b1, o1, rfl, hb1, hc1⟩ := (hA.below hb).at_ (k := k) (by simpa using hlt)
        obtain ⟨b2, o2, rfl, hb2, hc2⟩ := (hB.below hb).at_ (k := k) (by simpa using hlt2)
        rw [List.getElem_map] at hc1 hc2
        have hta : la.take (k + 1) = la.take k ++ [la[k]] := by rw [List.take_succ_eq_append_getElem hlt]
        have htb : lb.take (k + 1) = lb.take k ++ [lb[k]] := by rw [List.take_succ_eq_append_getElem hlt2]
        have HNE : Hid (la[k] ≠ lb[k] → decide (la = lb) = false) := Lib.hid fun hne => decide_eq_false fun e => hne (by subst e; rfl)
        have HT := Lib.hid ht
        have HA' := Lib.hid hA
        have HB' := Lib.hid hB
        have HTA := Lib.hid hta
        have HTB := Lib.hid htb
        generalize la[k] = x at *
        generalize lb[k] = z at *
        clear hta htb ht hA hB
        by_cases he : x = z
        · subst he
          go_wp2_with fail
          go_quiet (fail)
          go_wp2_with fail
          go_roundw
          case rel => exact ⟨k + 1, by omega, by go_num, by rw [HTA.out, HTB.out, HT.out], below_drewN' hb _⟩
          case measure => simp [intOf]; omega
        · have hn : (x.toList == z.toList) = false := bytes_ne he
          have HF := Lib.hid (HNE.out he)
          clear he
          go_wp2_with fail
          go_quiet (fail)
          go_wp2_with fail
          go_ret
          exact ⟨by rw [HF.out]; rfl, below_drewN' hb _⟩
      · obtain rfl : k = la.length := by omega
        have HD : Hid (decide (la = lb) = true) := Lib.hid (decide_eq_true (by rw [List.take_length, HL.out, List.take_length] at ht; exact ht))
        clear ht
        go_wp2_with fail
        go_ret
        exact ⟨by rw [HD.out]; rfl, hb⟩


def RSplitPost (s : ByteArray) (w : World) (e : Ending) (w' : World) : Prop :=
  Below w.heap.size w w' ∧ ((768 < s.size ∧ e = .returned (.tuple #[.slice none 0 0, .int .i64 3])) ∨
    (s.size ≤ 768 ∧ ∃ v, e = .returned (.tuple #[v, .int .i64 0]) ∧ w'.ownsRow w.heap.size 9 1 v (cutsL s).length ((cutsL s).map .string)))

set_option maxRecDepth 100000 in
set_option maxHeartbeats 2000000 in
theorem rsplit_any (s : ByteArray) (hs : s.size ≤ 100000) (w : World) :
    Calls Tryz.prog 12 #[.string s] w (RSplitPost s w) := by
  by_cases h : 768 < s.size
  · have hd : (768 : Int) < (s.size : Int) := by omega
    have HH := Lib.hid h
    clear h
    unfold RSplitPost
    go_enter Tryz.func12, Tryz.ntmps12
    go_wp2_with fail
    go_ret2
    exact ⟨Below.refl _ _, .inl ⟨HH.out, rfl⟩⟩
  · have hd : ¬ (768 : Int) < (s.size : Int) := by omega
    have HH : Hid (s.size ≤ 768) := Lib.hid (by omega)
    have H0 := Lib.hid (restOf_0 s)
    obtain ⟨i0, hi, hz0, hzs, hzb⟩ := info_parts Tryz.infoStr
    clear h
    unfold RSplitPost
    go_enter Tryz.func12, Tryz.ntmps12
    go_wp2_with fail
    go_loopw [0, 4] (fun q v wr => ∃ k : Nat, k ≤ nCuts s.size ∧ q = .string (restOf s k) ∧ wr.ownsRow w.heap.size 9 1 v k (((List.range k).map (cutAt s)).map .string) ∧ Below w.heap.size w wr) (fun q _ _ => match q with | .string r => r.size | _ => 0)
    case atStart => exact ⟨0, Nat.zero_le _, by rw [restOf_0], World.ownsRow_nil _ _ _ _, Below.refl _ _⟩
    case round =>
      obtain ⟨k, hk, rfl, hown, hb⟩ := hrel
      obtain ⟨av, cv, rfl⟩ := own_slice hown
      have hsz := restOf_size s k
      have hbz := hb.size
      by_cases hlt : 96 * k < s.size
      · have hkn : k < nCuts s.size := by unfold nCuts; omega
        have hk9 : k < 10 := by have := HH.out; omega
        have HHd := Lib.hid (restOf_head s k)
        have HT := Lib.hid (restOf_tail s k)
        have HS := Lib.hid hsz
        have HSN := Lib.hid (cutsL_snoc s k)
        have HR1 := Lib.hid (restOf_size s (k + 1))
        have hpos : 0 < (restOf s k).size := by omega
        generalize restOf s k = r at *
        clear hsz
        obtain ⟨m, hm⟩ : ∃ m : Nat, m = min r.size 96 := ⟨_, rfl⟩
        have hm2 : m = min (s.size - 96 * k) 96 := by rw [hm, HS.out]
        have hmn : min (r.size : Int) 96 = (m : Int) := by omega
        have hmr : m ≤ r.size := by omega
        have hm0 : 0 < m := by omega
        have HX := Lib.hid (HHd.out m hm2)
        have HT2 := Lib.hid (HT.out m r.size hm2 HS.out)
        have HM := Lib.hid hm
        clear hm hm2
        go_wp2_with (at_builtin; refine wpList_append_own _ rfl _ _ 23 rfl w.heap.size 9 i0 (.string ⟨#[]⟩) 1 16 Tryz.underlying23 hi hz0 hzs hzb rfl (by decide) _ _ _ rfl (hown.alloc _) ⟨wr.heap.size, 0, none⟩ 1 1 [.string (r.extract 0 m)] rfl rfl (cell_one_new _ _ _) (by simp [Value.oneCell']) (by simp only [maxLen]; omega) (by omega) (by simp; omega) ?_; intro v' w4 hown' hgrow _; obtain ⟨g', cap', rfl, _, _⟩ := own_form hown' (by omega))
        have hnx4 : Below w.heap.size w w4 := (hb.alloc hbz _).grown hgrow (by simp; omega) (fun q hq => (hown.lt q hq).1)
        go_wp2_with fail
        go_roundw
        case rel => exact ⟨k + 1, hkn, by rw [HT2.out], by rw [HSN.out, ← HX.out]; simpa using hown', hnx4⟩
        case measure => simp; omega
      · have hk2 : k = nCuts s.size := by unfold nCuts at hk ⊢; omega
        have hpos : (restOf s k).size = 0 := by omega
        have HO : Hid (wr.ownsRow w.heap.size 9 1 (.slice av k cv) (cutsL s).length ((cutsL s).map .string)) := Lib.hid (by rw [cutsL_length, ← hk2]; unfold cutsL; rw [← hk2]; exact hown)
        clear hk2 hsz hlt hk
        generalize restOf s k = r at *
        go_wp2_with fail
        go_ret2
        exact ⟨hb, .inr ⟨HH.out, _, rfl, HO.out⟩⟩

end Go.Proofs.YtfmobeeddlnhcaaGreatDoor
