/- Parts of the proof, put together by program: TF, TG. -/
import Derived.Test.YtloddiipepiocaaGreatDoorPart48
import Derived.Test.YtloddiipepiocaaGreatDoorPart42
import Derived.Test.YtloddiipepiocaaGreatDoorPart06
set_option linter.unusedVariables false
set_option linter.unusedSimpArgs false
/- The laws of layer 10: a call, made. -/
namespace Go.Proofs.YtloddiipepiocaaGreatDoor
open Go.RowKit Go.Maps

theorem stateE_vals (y : TxS) : y.stateE = 0 ∨ y.stateE = 9 := by unfold TxS.stateE; split <;> simp
theorem write_nonneg (y : TxS) (a k : Int) (d : ByteArray) : 0 ≤ (y.write a k d).1 := by
  unfold TxS.write
  split
  · rcases stateE_vals y with h | h <;> rw [h] <;> simp
  · split
    · unfold TxS.writeE
      split
      · simp
      · split
        · simp
        · split
          · simp
          · split <;> simp
    · simp
theorem free_nonneg (y : TxS) (l : List Int) (ok : y.Ok) : 0 ≤ (y.free l).1 := by
  unfold TxS.free
  split
  · rcases stateE_vals y with h | h <;> rw [h] <;> simp
  · split
    · unfold TxS.freeE
      split
      · rcases TnE_vals (l := l) (u := false) (al := 4) (ok_ckE ok) with h | h | h | h <;> rw [h] <;> simp
      · rcases changeE_vals y l.length with h | ⟨h, -⟩ <;> rw [h] <;> simp
    · simp
theorem takeL_bad {y : TxS} {near many : Int} (h : (y.take near many).1 ≠ 0) : y.takeL near many = [] := by
  unfold TxS.takeL
  unfold TxS.take at h
  split
  · rfl
  · rename_i h1
    rw [if_neg h1] at h
    split
    · rfl
    · rename_i h2
      rw [if_neg h2] at h
      exact absurd rfl h
theorem read_bad {y : TxS} {x : DevS} {a : Int} (h : (y.read x a).2.2 ≠ 0) : (y.read x a).1 = 0 ∧ (y.read x a).2.1 = ⟨#[]⟩ := by
  unfold TxS.read at h ⊢
  split
  · exact ⟨rfl, rfl⟩
  · rename_i h1
    rw [if_neg h1] at h
    split
    · exact ⟨rfl, rfl⟩
    · rename_i h2
      rw [if_neg h2] at h
      unfold TxS.readR at h ⊢
      cases hl : y.look a with
      | some r => rw [hl] at h; exact absurd rfl h
      | none =>
        rw [hl] at h
        have hf : x.fr a = noFr := by unfold DevS.fr; rw [if_neg h]
        simp only [hf]
        exact ⟨rfl, rfl⟩

/-- What a call makes of the transaction. -/
def TxS.step (y : TxS) (a : StepV) : TxS :=
  if a.wh % 9 < 3 then (y.write a.at_ a.kd a.s).2 else if a.wh % 9 = 4 then (y.take a.at_ a.n).2 else if a.wh % 9 = 5 then (y.free a.l).2 else y
theorem step_clean {y : TxS} (h : y.Clean) (a : StepV) : (y.step a).Clean := by
  unfold TxS.step
  split
  · exact h.write _ _ _
  · split
    · exact h.take _ _
    · split
      · exact h.free _
      · exact h
/-- What no call turns. -/
structure TxS.Like (y z : TxS) : Prop where
  s : z.s = y.s
  j : z.j = y.j
  i : z.i = y.i
  was : z.was = y.was
  ended : z.ended = y.ended
theorem TxS.Like.refl (y : TxS) : y.Like y := ⟨rfl, rfl, rfl, rfl, rfl⟩
theorem TxS.Like.trans {x y z : TxS} (h : x.Like y) (k : y.Like z) : x.Like z := ⟨k.s.trans h.s, k.j.trans h.j, k.i.trans h.i, k.was.trans h.was, k.ended.trans h.ended⟩
theorem change_like (y : TxS) (us : List Bool) (n : Nat) : y.Like (y.change us n) := by
  unfold TxS.change
  split
  · exact .refl y
  · split
    · exact .refl y
    · exact ⟨rfl, rfl, rfl, rfl, rfl⟩
theorem write_like (y : TxS) (a k : Int) (d : ByteArray) : y.Like (y.write a k d).2 := by
  unfold TxS.write
  split
  · exact .refl y
  · split
    · exact ⟨rfl, rfl, rfl, rfl, rfl⟩
    · exact ⟨rfl, rfl, rfl, rfl, rfl⟩
theorem take_like (y : TxS) (a n : Int) : y.Like (y.take a n).2 := by
  unfold TxS.take
  split
  · exact .refl y
  · split
    · exact ⟨rfl, rfl, rfl, rfl, rfl⟩
    · exact change_like _ _ _
theorem free_like (y : TxS) (l : List Int) : y.Like (y.free l).2 := by
  unfold TxS.free
  split
  · exact .refl y
  · split
    · exact ⟨rfl, rfl, rfl, rfl, rfl⟩
    · exact change_like _ _ _
theorem step_like (y : TxS) (a : StepV) : y.Like (y.step a) := by
  unfold TxS.step
  split
  · exact write_like _ _ _ _
  · split
    · exact take_like _ _ _
    · split
      · exact free_like _ _
      · exact .refl y

def CallsPost (w0 w : World) (T : Nat) (F : List Nat) (D : Nat) (y : TxS) (B : List Nat) (x : DevS) (e : Ending) (w' : World) : Prop :=
  e = .returned (.bool true) ∧ ∃ F', Play w0 w' T F' D y B x ∧ Grow w (F ++ B) w' (F' ++ B)

section
variable {w0 w : World} {T : Nat} {F : List Nat} {D : Nat} {y : TxS} {B : List Nat} {x : DevS}
set_option maxRecDepth 100000 in
set_option maxHeartbeats 2000000 in
theorem calls_0 (h : Play w0 w T F D y B x) (wh at_ kd n : Int) (s : ByteArray) (sv : Value) (hw : wh % 9 = 0) (hwh : 0 ≤ wh) (ha : -9223372036854775808 ≤ at_ ∧ at_ ≤ 9223372036854775807) (hs : s.size ≤ 1000000) :
    Calls Tryz.prog 28 #[.pointer (some ⟨T, 0, none⟩), .agg #[.int .u8 wh, .int .i64 at_, .int .i64 kd, .int .i64 n, .string s, sv]] w (CallsPost w0 w T F D (y.write at_ kd s).2 B x) := by
  obtain ⟨wA, hA⟩ : ∃ wA, wA = w.alloc (.cells #[.int .u8 wh, .int .i64 at_, .int .i64 kd, .int .i64 n, .string s, sv] 73) := ⟨_, rfl⟩
  have bA : Blk wA w.heap.size 73 #[.int .u8 wh, .int .i64 at_, .int .i64 kd, .int .i64 n, .string s, sv] := by rw [hA]; exact Blk.new _ _ _
  have BA : Below w.heap.size w wA := by rw [hA]; exact (Below.refl _ _).alloc (Nat.le_refl _) _
  have hp := h.below BA
  have g1 : wh.tmod 9 = 0 := by rw [← hw]; exact Int.tmod_eq_emod_of_nonneg hwh
  have f1 := play_write hp at_ kd s ha hs
  have hE := write_nonneg y at_ kd s
  generalize y.write at_ kd s = r at *
  obtain ⟨E, y'⟩ := r
  simp only at f1 hE ⊢
  have hd : decide (0 ≤ E) = true := decide_eq_true hE
  have cA := bA.cells
  have lA := bA.lt
  clear hw hwh hE bA h
  go_enter Tryz.func28, Tryz.ntmps28
  go_wp2_with fail
  rw [← hA]
  clear hA
  go_wp2_with fail
  refine f1.mono ?_
  rintro e w2 ⟨rfl, F', h2, g2⟩
  clear f1 cA lA
  go_wp2_with fail
  go_ret
  exact ⟨rfl, F', h2, (Grow.of_below BA (F ++ B)).trans g2⟩
set_option maxRecDepth 100000 in
set_option maxHeartbeats 2000000 in
theorem calls_1 (h : Play w0 w T F D y B x) (wh at_ kd n : Int) (s : ByteArray) (sv : Value) (hw : wh % 9 = 1) (hwh : 0 ≤ wh) (ha : -9223372036854775808 ≤ at_ ∧ at_ ≤ 9223372036854775807) (hs : s.size ≤ 1000000) :
    Calls Tryz.prog 28 #[.pointer (some ⟨T, 0, none⟩), .agg #[.int .u8 wh, .int .i64 at_, .int .i64 kd, .int .i64 n, .string s, sv]] w (CallsPost w0 w T F D (y.write at_ kd s).2 B x) := by
  obtain ⟨wA, hA⟩ : ∃ wA, wA = w.alloc (.cells #[.int .u8 wh, .int .i64 at_, .int .i64 kd, .int .i64 n, .string s, sv] 73) := ⟨_, rfl⟩
  have bA : Blk wA w.heap.size 73 #[.int .u8 wh, .int .i64 at_, .int .i64 kd, .int .i64 n, .string s, sv] := by rw [hA]; exact Blk.new _ _ _
  have BA : Below w.heap.size w wA := by rw [hA]; exact (Below.refl _ _).alloc (Nat.le_refl _) _
  have hp := h.below BA
  have g1 : wh.tmod 9 = 1 := by rw [← hw]; exact Int.tmod_eq_emod_of_nonneg hwh
  have f1 := play_write hp at_ kd s ha hs
  have hE := write_nonneg y at_ kd s
  generalize y.write at_ kd s = r at *
  obtain ⟨E, y'⟩ := r
  simp only at f1 hE ⊢
  have hd : decide (0 ≤ E) = true := decide_eq_true hE
  have cA := bA.cells
  have lA := bA.lt
  clear hw hwh hE bA h
  go_enter Tryz.func28, Tryz.ntmps28
  go_wp2_with fail
  rw [← hA]
  clear hA
  go_wp2_with fail
  refine f1.mono ?_
  rintro e w2 ⟨rfl, F', h2, g2⟩
  clear f1 cA lA
  go_wp2_with fail
  go_ret
  exact ⟨rfl, F', h2, (Grow.of_below BA (F ++ B)).trans g2⟩
set_option maxRecDepth 100000 in
set_option maxHeartbeats 2000000 in
theorem calls_2 (h : Play w0 w T F D y B x) (wh at_ kd n : Int) (s : ByteArray) (sv : Value) (hw : wh % 9 = 2) (hwh : 0 ≤ wh) (ha : -9223372036854775808 ≤ at_ ∧ at_ ≤ 9223372036854775807) (hs : s.size ≤ 1000000) :
    Calls Tryz.prog 28 #[.pointer (some ⟨T, 0, none⟩), .agg #[.int .u8 wh, .int .i64 at_, .int .i64 kd, .int .i64 n, .string s, sv]] w (CallsPost w0 w T F D (y.write at_ kd s).2 B x) := by
  obtain ⟨wA, hA⟩ : ∃ wA, wA = w.alloc (.cells #[.int .u8 wh, .int .i64 at_, .int .i64 kd, .int .i64 n, .string s, sv] 73) := ⟨_, rfl⟩
  have bA : Blk wA w.heap.size 73 #[.int .u8 wh, .int .i64 at_, .int .i64 kd, .int .i64 n, .string s, sv] := by rw [hA]; exact Blk.new _ _ _
  have BA : Below w.heap.size w wA := by rw [hA]; exact (Below.refl _ _).alloc (Nat.le_refl _) _
  have hp := h.below BA
  have g1 : wh.tmod 9 = 2 := by rw [← hw]; exact Int.tmod_eq_emod_of_nonneg hwh
  have f1 := play_write hp at_ kd s ha hs
  have hE := write_nonneg y at_ kd s
  generalize y.write at_ kd s = r at *
  obtain ⟨E, y'⟩ := r
  simp only at f1 hE ⊢
  have hd : decide (0 ≤ E) = true := decide_eq_true hE
  have cA := bA.cells
  have lA := bA.lt
  clear hw hwh hE bA h
  go_enter Tryz.func28, Tryz.ntmps28
  go_wp2_with fail
  rw [← hA]
  clear hA
  go_wp2_with fail
  refine f1.mono ?_
  rintro e w2 ⟨rfl, F', h2, g2⟩
  clear f1 cA lA
  go_wp2_with fail
  go_ret
  exact ⟨rfl, F', h2, (Grow.of_below BA (F ++ B)).trans g2⟩
set_option maxRecDepth 100000 in
set_option maxHeartbeats 2000000 in
theorem calls_3 (h : Play w0 w T F D y B x) (wh at_ kd n : Int) (s : ByteArray) (sv : Value) (hw : wh % 9 = 3) (hwh : 0 ≤ wh) :
    Calls Tryz.prog 28 #[.pointer (some ⟨T, 0, none⟩), .agg #[.int .u8 wh, .int .i64 at_, .int .i64 kd, .int .i64 n, .string s, sv]] w (CallsPost w0 w T F D y B x) := by
  obtain ⟨wA, hA⟩ : ∃ wA, wA = w.alloc (.cells #[.int .u8 wh, .int .i64 at_, .int .i64 kd, .int .i64 n, .string s, sv] 73) := ⟨_, rfl⟩
  have bA : Blk wA w.heap.size 73 #[.int .u8 wh, .int .i64 at_, .int .i64 kd, .int .i64 n, .string s, sv] := by rw [hA]; exact Blk.new _ _ _
  have BA : Below w.heap.size w wA := by rw [hA]; exact (Below.refl _ _).alloc (Nat.le_refl _) _
  have hp := h.below BA
  have g1 : wh.tmod 9 = 3 := by rw [← hw]; exact Int.tmod_eq_emod_of_nonneg hwh
  have f1 := play_read hp at_
  have hE := @read_bad y x at_
  generalize y.read x at_ = r at *
  obtain ⟨k, d, E⟩ := r
  simp only at f1 hE
  have HE := Lib.hid hE
  have cA := bA.cells
  have lA := bA.lt
  clear hw hwh hE bA h
  go_enter Tryz.func28, Tryz.ntmps28
  go_wp2_with fail
  rw [← hA]
  clear hA
  go_wp2_with fail
  refine f1.mono ?_
  rintro e w2 ⟨rfl, hb2⟩
  have h2 := hp.below hb2
  have B2 := BA.trans (hb2.mono BA.size)
  clear f1 cA lA
  by_cases h0 : E = 0
  · subst h0
    go_wp2_with fail
    go_ret
    exact ⟨rfl, F, h2, Grow.of_below B2 (F ++ B)⟩
  · obtain ⟨rfl, rfl⟩ := HE.out h0
    have hq : (E == 0) = false := by simpa using h0
    clear h0 HE
    go_wp2_with fail
    go_ret
    exact ⟨rfl, F, h2, Grow.of_below B2 (F ++ B)⟩
set_option maxRecDepth 100000 in
set_option maxHeartbeats 2000000 in
theorem calls_4 (h : Play w0 w T F D y B x) (wh at_ kd n : Int) (s : ByteArray) (sv : Value) (hw : wh % 9 = 4) (hwh : 0 ≤ wh) :
    Calls Tryz.prog 28 #[.pointer (some ⟨T, 0, none⟩), .agg #[.int .u8 wh, .int .i64 at_, .int .i64 kd, .int .i64 n, .string s, sv]] w (CallsPost w0 w T F D (y.take at_ n).2 B x) := by
  obtain ⟨wA, hA⟩ : ∃ wA, wA = w.alloc (.cells #[.int .u8 wh, .int .i64 at_, .int .i64 kd, .int .i64 n, .string s, sv] 73) := ⟨_, rfl⟩
  have bA : Blk wA w.heap.size 73 #[.int .u8 wh, .int .i64 at_, .int .i64 kd, .int .i64 n, .string s, sv] := by rw [hA]; exact Blk.new _ _ _
  have BA : Below w.heap.size w wA := by rw [hA]; exact (Below.refl _ _).alloc (Nat.le_refl _) _
  have hp := h.below BA
  have g1 : wh.tmod 9 = 4 := by rw [← hw]; exact Int.tmod_eq_emod_of_nonneg hwh
  have f1 := play_take hp at_ n
  have hE := @takeL_bad y at_ n
  generalize y.takeL at_ n = L at *
  generalize y.take at_ n = r at *
  obtain ⟨E, y'⟩ := r
  simp only at f1 hE ⊢
  have HE := Lib.hid hE
  have cA := bA.cells
  have lA := bA.lt
  clear hw hwh hE bA h
  go_enter Tryz.func28, Tryz.ntmps28
  go_wp2_with fail
  rw [← hA]
  clear hA
  go_wp2_with fail
  refine f1.mono ?_
  rintro e w2 ⟨A, c, rfl, F', h2, g2, -⟩
  clear f1 cA lA
  by_cases h0 : E = 0
  · subst h0
    go_wp2_with fail
    go_ret
    exact ⟨rfl, F', h2, (Grow.of_below BA (F ++ B)).trans g2⟩
  · obtain rfl := HE.out h0
    have hq : (E == 0) = false := by simpa using h0
    clear h0 HE
    go_wp2_with fail
    go_ret
    exact ⟨rfl, F', h2, (Grow.of_below BA (F ++ B)).trans g2⟩
set_option maxRecDepth 100000 in
set_option maxHeartbeats 2000000 in
theorem calls_5 (h : Play w0 w T F D y B x) (wh at_ kd n : Int) (s : ByteArray) (A : Option Addr) (l : List Int) (c : Nat) (hw : wh % 9 = 5) (hwh : 0 ≤ wh) (hl : l.length ≤ 1000) (hR : Reads w A (l.map (.int .i64))) :
    Calls Tryz.prog 28 #[.pointer (some ⟨T, 0, none⟩), .agg #[.int .u8 wh, .int .i64 at_, .int .i64 kd, .int .i64 n, .string s, .slice A l.length c]] w (CallsPost w0 w T F D (y.free l).2 B x) := by
  obtain ⟨wA, hA⟩ : ∃ wA, wA = w.alloc (.cells #[.int .u8 wh, .int .i64 at_, .int .i64 kd, .int .i64 n, .string s, .slice A l.length c] 73) := ⟨_, rfl⟩
  have bA : Blk wA w.heap.size 73 #[.int .u8 wh, .int .i64 at_, .int .i64 kd, .int .i64 n, .string s, .slice A l.length c] := by rw [hA]; exact Blk.new _ _ _
  have BA : Below w.heap.size w wA := by rw [hA]; exact (Below.refl _ _).alloc (Nat.le_refl _) _
  have hp := h.below BA
  have g1 : wh.tmod 9 = 5 := by rw [← hw]; exact Int.tmod_eq_emod_of_nonneg hwh
  have f1 := play_free hp A c l hl (hR.below BA)
  have hE := free_nonneg y l h.td.tx.ok
  generalize y.free l = r at *
  obtain ⟨E, y'⟩ := r
  simp only at f1 hE ⊢
  have hd : decide (0 ≤ E) = true := decide_eq_true hE
  have cA := bA.cells
  have lA := bA.lt
  clear hw hwh hE bA h
  go_enter Tryz.func28, Tryz.ntmps28
  go_wp2_with fail
  rw [← hA]
  clear hA
  go_wp2_with fail
  refine f1.mono ?_
  rintro e w2 ⟨rfl, F', h2, g2⟩
  clear f1 cA lA
  go_wp2_with fail
  go_ret
  exact ⟨rfl, F', h2, (Grow.of_below BA (F ++ B)).trans g2⟩
set_option maxRecDepth 100000 in
set_option maxHeartbeats 2000000 in
theorem calls_6 (h : Play w0 w T F D y B x) (hc : y.Clean) (wh at_ kd n : Int) (s : ByteArray) (sv : Value) (hw : wh % 9 = 6) (hwh : 0 ≤ wh) :
    Calls Tryz.prog 28 #[.pointer (some ⟨T, 0, none⟩), .agg #[.int .u8 wh, .int .i64 at_, .int .i64 kd, .int .i64 n, .string s, sv]] w (CallsPost w0 w T F D y B x) := by
  obtain ⟨wA, hA⟩ : ∃ wA, wA = w.alloc (.cells #[.int .u8 wh, .int .i64 at_, .int .i64 kd, .int .i64 n, .string s, sv] 73) := ⟨_, rfl⟩
  have bA : Blk wA w.heap.size 73 #[.int .u8 wh, .int .i64 at_, .int .i64 kd, .int .i64 n, .string s, sv] := by rw [hA]; exact Blk.new _ _ _
  have BA : Below w.heap.size w wA := by rw [hA]; exact (Below.refl _ _).alloc (Nat.le_refl _) _
  have hp := h.below BA
  have g1 : wh.tmod 9 = 6 := by rw [← hw]; exact Int.tmod_eq_emod_of_nonneg hwh
  have cA := bA.cells
  have lA := bA.lt
  clear hw hwh bA h
  by_cases h0 : y.stateE = 0
  · have f1 := records_tx T F D y wA hp.td.tx hc h0
    go_enter Tryz.func28, Tryz.ntmps28
    go_wp2_with fail
    rw [← hA]
    clear hA
    go_wp2_with fail
    refine f1.mono ?_
    rintro e w2 ⟨v, rfl, -, hb2⟩
    have h2 := hp.below hb2
    have B2 := BA.trans (hb2.mono BA.size)
    clear f1 cA lA
    go_wp2_with fail
    go_ret
    exact ⟨rfl, F, h2, Grow.of_below B2 (F ++ B)⟩
  · have f1 := txrecords_bad _ _ wA hp.td.tx.st h0
    have hq : (y.stateE == 0) = false := by simpa using h0
    generalize y.stateE = E at *
    clear h0
    go_enter Tryz.func28, Tryz.ntmps28
    go_wp2_with fail
    rw [← hA]
    clear hA
    go_wp2_with fail
    refine f1.mono ?_
    rintro e w2 ⟨rfl, hb2⟩
    have h2 := hp.below hb2
    have B2 := BA.trans (hb2.mono BA.size)
    clear f1 cA lA
    go_wp2_with fail
    go_ret
    exact ⟨rfl, F, h2, Grow.of_below B2 (F ++ B)⟩
set_option maxRecDepth 100000 in
set_option maxHeartbeats 2000000 in
theorem calls_7 (h : Play w0 w T F D y B x) (hc : y.Clean) (wh at_ kd n : Int) (s : ByteArray) (sv : Value) (hw : wh % 9 = 7) (hwh : 0 ≤ wh) :
    Calls Tryz.prog 28 #[.pointer (some ⟨T, 0, none⟩), .agg #[.int .u8 wh, .int .i64 at_, .int .i64 kd, .int .i64 n, .string s, sv]] w (CallsPost w0 w T F D y B x) := by
  obtain ⟨wA, hA⟩ : ∃ wA, wA = w.alloc (.cells #[.int .u8 wh, .int .i64 at_, .int .i64 kd, .int .i64 n, .string s, sv] 73) := ⟨_, rfl⟩
  have bA : Blk wA w.heap.size 73 #[.int .u8 wh, .int .i64 at_, .int .i64 kd, .int .i64 n, .string s, sv] := by rw [hA]; exact Blk.new _ _ _
  have BA : Below w.heap.size w wA := by rw [hA]; exact (Below.refl _ _).alloc (Nat.le_refl _) _
  have hp := h.below BA
  have g1 : wh.tmod 9 = 7 := by rw [← hw]; exact Int.tmod_eq_emod_of_nonneg hwh
  have cA := bA.cells
  have lA := bA.lt
  clear hw hwh bA h
  by_cases h0 : y.stateE = 0
  · have f1 := records_tx T F D y wA hp.td.tx hc h0
    go_enter Tryz.func28, Tryz.ntmps28
    go_wp2_with fail
    rw [← hA]
    clear hA
    go_wp2_with fail
    refine f1.mono ?_
    rintro e w2 ⟨v, rfl, -, hb2⟩
    have h2 := hp.below hb2
    have B2 := BA.trans (hb2.mono BA.size)
    clear f1 cA lA
    go_wp2_with fail
    go_ret
    exact ⟨rfl, F, h2, Grow.of_below B2 (F ++ B)⟩
  · have f1 := txrecords_bad _ _ wA hp.td.tx.st h0
    have hq : (y.stateE == 0) = false := by simpa using h0
    generalize y.stateE = E at *
    clear h0
    go_enter Tryz.func28, Tryz.ntmps28
    go_wp2_with fail
    rw [← hA]
    clear hA
    go_wp2_with fail
    refine f1.mono ?_
    rintro e w2 ⟨rfl, hb2⟩
    have h2 := hp.below hb2
    have B2 := BA.trans (hb2.mono BA.size)
    clear f1 cA lA
    go_wp2_with fail
    go_ret
    exact ⟨rfl, F, h2, Grow.of_below B2 (F ++ B)⟩
set_option maxRecDepth 100000 in
set_option maxHeartbeats 2000000 in
theorem calls_8 (h : Play w0 w T F D y B x) (hc : y.Clean) (wh at_ kd n : Int) (s : ByteArray) (sv : Value) (hw : wh % 9 = 8) (hwh : 0 ≤ wh) :
    Calls Tryz.prog 28 #[.pointer (some ⟨T, 0, none⟩), .agg #[.int .u8 wh, .int .i64 at_, .int .i64 kd, .int .i64 n, .string s, sv]] w (CallsPost w0 w T F D y B x) := by
  obtain ⟨wA, hA⟩ : ∃ wA, wA = w.alloc (.cells #[.int .u8 wh, .int .i64 at_, .int .i64 kd, .int .i64 n, .string s, sv] 73) := ⟨_, rfl⟩
  have bA : Blk wA w.heap.size 73 #[.int .u8 wh, .int .i64 at_, .int .i64 kd, .int .i64 n, .string s, sv] := by rw [hA]; exact Blk.new _ _ _
  have BA : Below w.heap.size w wA := by rw [hA]; exact (Below.refl _ _).alloc (Nat.le_refl _) _
  have hp := h.below BA
  have g1 : wh.tmod 9 = 8 := by rw [← hw]; exact Int.tmod_eq_emod_of_nonneg hwh
  have cA := bA.cells
  have lA := bA.lt
  clear hw hwh bA h
  by_cases h0 : y.stateE = 0
  · have f1 := records_tx T F D y wA hp.td.tx hc h0
    go_enter Tryz.func28, Tryz.ntmps28
    go_wp2_with fail
    rw [← hA]
    clear hA
    go_wp2_with fail
    refine f1.mono ?_
    rintro e w2 ⟨v, rfl, -, hb2⟩
    have h2 := hp.below hb2
    have B2 := BA.trans (hb2.mono BA.size)
    clear f1 cA lA
    go_wp2_with fail
    go_ret
    exact ⟨rfl, F, h2, Grow.of_below B2 (F ++ B)⟩
  · have f1 := txrecords_bad _ _ wA hp.td.tx.st h0
    have hq : (y.stateE == 0) = false := by simpa using h0
    generalize y.stateE = E at *
    clear h0
    go_enter Tryz.func28, Tryz.ntmps28
    go_wp2_with fail
    rw [← hA]
    clear hA
    go_wp2_with fail
    refine f1.mono ?_
    rintro e w2 ⟨rfl, hb2⟩
    have h2 := hp.below hb2
    have B2 := BA.trans (hb2.mono BA.size)
    clear f1 cA lA
    go_wp2_with fail
    go_ret
    exact ⟨rfl, F, h2, Grow.of_below B2 (F ++ B)⟩

/-- A call that came in. -/
theorem calls_any (h : Play w0 w T F D y B x) (hc : y.Clean) (a : StepV) (ok : StepOk w0 a) (hbig : bigB a = false) :
    Calls Tryz.prog 28 #[.pointer (some ⟨T, 0, none⟩), .agg (stepC a)] w (CallsPost w0 w T F D (y.step a) B x) := by
  obtain ⟨wh, at_, kd, n, s, A, l, c⟩ := a
  have hw0 : 0 ≤ wh := ok.wh.1
  have hb : s.size ≤ 300 ∧ l.length ≤ 300 := by unfold bigB at hbig; simp at hbig; omega
  have hR : Reads w A (l.map (.int .i64)) := h.reads ok.list
  have hat : -9223372036854775808 ≤ at_ ∧ at_ ≤ 9223372036854775807 := ok.at_
  unfold stepC TxS.step
  simp only
  have hm : wh % 9 = 0 ∨ wh % 9 = 1 ∨ wh % 9 = 2 ∨ wh % 9 = 3 ∨ wh % 9 = 4 ∨ wh % 9 = 5 ∨ wh % 9 = 6 ∨ wh % 9 = 7 ∨ wh % 9 = 8 := by omega
  rcases hm with hm | hm | hm | hm | hm | hm | hm | hm | hm
  · rw [if_pos (by omega)]; exact calls_0 h wh at_ kd n s _ hm hw0 hat (by omega)
  · rw [if_pos (by omega)]; exact calls_1 h wh at_ kd n s _ hm hw0 hat (by omega)
  · rw [if_pos (by omega)]; exact calls_2 h wh at_ kd n s _ hm hw0 hat (by omega)
  · rw [if_neg (by omega), if_neg (by omega), if_neg (by omega)]; exact calls_3 h wh at_ kd n s _ hm hw0
  · rw [if_neg (by omega), if_pos hm]; exact calls_4 h wh at_ kd n s _ hm hw0
  · rw [if_neg (by omega), if_neg (by omega), if_pos hm]; exact calls_5 h wh at_ kd n s A l c hm hw0 (by omega) hR
  · rw [if_neg (by omega), if_neg (by omega), if_neg (by omega)]; exact calls_6 h hc wh at_ kd n s _ hm hw0
  · rw [if_neg (by omega), if_neg (by omega), if_neg (by omega)]; exact calls_7 h hc wh at_ kd n s _ hm hw0
  · rw [if_neg (by omega), if_neg (by omega), if_neg (by omega)]; exact calls_8 h hc wh at_ kd n s _ hm hw0
end
end Go.Proofs.YtloddiipepiocaaGreatDoor
/- The laws of layer 10: a device that was saved; TxnNothing, walked. -/
namespace Go.Proofs.YtloddiipepiocaaGreatDoor
open Go.RowKit Go.Maps

/-- What Save returned lies in block S, and its rows in blocks that the transaction does not touch. -/
structure Saved (w : World) (F : List Nat) (S : Nat) (a1 a2 : Option Addr) (c1 c2 : Nat) (sta : List (List Int)) (tk pw : Int) (off : Bool) : Prop where
  box : Blk w S 33 #[.slice a1 sta.length c1, .slice a2 0 c2, .int .i64 tk, .int .i64 pw, .bool off]
  os : w.ownsRow 0 42 128 (.slice a1 sta.length c1) sta.length (sta.flatMap secV)
  oc : w.ownsRow 0 111 129 (.slice a2 0 c2) 0 []
  nb : S ∉ F
  ns : ∀ q, (Value.slice a1 sta.length c1).ownBlock = some q → q ∉ F
  nc : ∀ q, (Value.slice a2 0 c2).ownBlock = some q → q ∉ F
section
variable {w w' : World} {F F' : List Nat} {S : Nat} {a1 a2 : Option Addr} {c1 c2 : Nat} {sta : List (List Int)} {tk pw : Int} {off : Bool}
theorem Saved.grow (h : Saved w F S a1 a2 c1 c2 sta tk pw off) (g : Grow w F w' F') : Saved w' F' S a1 a2 c1 c2 sta tk pw off :=
  ⟨g.blk h.box h.nb, own_block h.os fun q hq => g.keep.block q (own_lt h.os q hq).2 (h.ns q hq), own_block h.oc fun q hq => g.keep.block q (own_lt h.oc q hq).2 (h.nc q hq),
   g.notin h.nb h.box.lt, fun q hq => g.notin (h.ns q hq) (own_lt h.os q hq).2, fun q hq => g.notin (h.nc q hq) (own_lt h.oc q hq).2⟩
theorem Saved.below (h : Saved w F S a1 a2 c1 c2 sta tk pw off) (hb : Below w.heap.size w w') : Saved w' F S a1 a2 c1 c2 sta tk pw off := h.grow (Grow.of_below hb F)
end

section
variable {w0 w : World} {T : Nat} {F : List Nat} {D : Nat} {y : TxS} {B : List Nat} {x : DevS}
theorem Play.devlt (h : Play w0 w T F D y B x) : ∀ b ∈ F ++ B, b < w.heap.size := fun b hb => (List.mem_append.1 hb).elim (fun hb => (h.td.tx.lt b hb).2) (fun hb => (h.td.dev.lt b hb).2)
/-- Save, where the cache is empty. -/
theorem play_save0 (h : Play w0 w T F D y B x) (hc : x.cache = []) :
    Calls Tryz.prog 13 #[.pointer (some ⟨D, 0, none⟩)] w fun e w' => ∃ a1 a2 c1 c2, e = .returned (.agg #[.slice a1 x.stable.length c1, .slice a2 0 c2, .int .i64 x.taken, .int .i64 x.power, .bool x.off]) ∧
      w'.ownsRow w.heap.size 42 128 (.slice a1 x.stable.length c1) x.stable.length (x.stable.flatMap secV) ∧ w'.ownsRow w.heap.size 111 129 (.slice a2 0 c2) 0 [] ∧ Below w.heap.size w w' := by
  refine (play_save h).mono ?_
  rintro e w' ⟨sv, cv, rfl, o1, o2, hb⟩
  rw [hc] at o2
  obtain ⟨a1, c1, rfl⟩ := own_slice o1
  obtain ⟨a2, c2, rfl⟩ := own_slice o2
  exact ⟨a1, a2, c1, c2, rfl, o1, o2, hb⟩
/-- The boxed one, behind Save. -/
theorem Saved.made {w1 w2 : World} {a1 a2 : Option Addr} {c1 c2 : Nat} (h : Play w0 w T F D y B x) (o1 : w1.ownsRow w.heap.size 42 128 (.slice a1 x.stable.length c1) x.stable.length (x.stable.flatMap secV)) (o2 : w1.ownsRow w.heap.size 111 129 (.slice a2 0 c2) 0 []) (hb : Below w.heap.size w w1)
    (hw : w2 = w1.alloc (.cells #[.slice a1 x.stable.length c1, .slice a2 0 c2, .int .i64 x.taken, .int .i64 x.power, .bool x.off] 33)) : Saved w2 (F ++ B) w1.heap.size a1 a2 c1 c2 x.stable x.taken x.power x.off := by
  have hlt := h.devlt
  have hz := hb.size
  have b2 : Below w1.heap.size w1 w2 := by rw [hw]; exact (Below.refl _ _).alloc (Nat.le_refl _) _
  exact ⟨by rw [hw]; exact Blk.new _ _ _, own_lower (own_below o1 b2) (Nat.zero_le _), own_lower (own_below o2 b2) (Nat.zero_le _), fun hm => by have := hlt _ hm; omega, fun q hq hm => by have := hlt _ hm; have := (own_lt o1 q hq).1; omega, fun q hq hm => by have := hlt _ hm; have := (own_lt o2 q hq).1; omega⟩
/-- Same of what was saved, and of the same again. -/
theorem same_saved {S b : Nat} {a1 a2 e1 e2 : Option Addr} {c1 c2 d1 d2 : Nat} {G : List Nat} (ok : x.Ok) (s : Saved w G S a1 a2 c1 c2 x.stable x.taken x.power x.off)
    (o1 : w.ownsRow b 42 128 (.slice e1 x.stable.length d1) x.stable.length (x.stable.flatMap secV)) (o2 : w.ownsRow b 111 129 (.slice e2 0 d2) 0 []) :
    Calls Tryz.prog 12 #[.agg #[.slice e1 x.stable.length d1, .slice e2 0 d2, .int .i64 x.taken, .int .i64 x.power, .bool x.off], .agg #[.slice a1 x.stable.length c1, .slice a2 0 c2, .int .i64 x.taken, .int .i64 x.power, .bool x.off]] w fun e w' => e = .returned (.bool true) ∧ Below w.heap.size w w' :=
  same_eq x.stable (fun s hs => (ok.sec s hs).1) (by have := ok.lo; have := ok.hi; omega) _ _ _ _ x.taken x.power x.off b 0 w o1 s.os o2 s.oc
theorem same_saved' {S b : Nat} {a1 a2 e1 e2 : Option Addr} {c1 c2 d1 d2 : Nat} {G : List Nat} (ok : x.Ok) (s : Saved w G S a1 a2 c1 c2 x.stable x.taken x.power x.off)
    (o1 : w.ownsRow b 42 128 (.slice e1 x.stable.length d1) x.stable.length (x.stable.flatMap secV)) (o2 : w.ownsRow b 111 129 (.slice e2 0 d2) 0 []) :
    Calls Tryz.prog 12 #[.agg #[.slice a1 x.stable.length c1, .slice a2 0 c2, .int .i64 x.taken, .int .i64 x.power, .bool x.off], .agg #[.slice e1 x.stable.length d1, .slice e2 0 d2, .int .i64 x.taken, .int .i64 x.power, .bool x.off]] w fun e w' => e = .returned (.bool true) ∧ Below w.heap.size w w' :=
  same_eq x.stable (fun s hs => (ok.sec s hs).1) (by have := ok.lo; have := ok.hi; omega) _ _ _ _ x.taken x.power x.off 0 b w s.os o1 s.oc o2
end
theorem ckE64 (us : List Bool) (hu : us.length = 14) : CkE 64 8 40 us.length = 0 := by
  have h := ckE_rgB rg64
  rw [rgB64] at h
  rw [hu]; exact h
theorem free_nil (us : List Bool) (hu : us.length = 14) : (begTx 64 8 40 us).free [] = (0, begTx 64 8 40 us) := by
  have h1 : TnE 64 8 40 us [] false 4 = 0 := by
    unfold TnE
    rw [if_pos (ckE64 us hu)]
    rfl
  have e := free_b (y := begTx 64 8 40 us) (l := []) rfl h1
  rw [e]
  rfl
theorem commit_none (us : List Bool) (x : DevS) : (begTx 64 8 40 us).commit x = (0, x) := rfl

/-- A device's cells, of a block. -/
def SavedC (W : World) (S n : Nat) (a1 a2 : Option Addr) (c1 c2 : Nat) (tk pw : Int) (off : Bool) : Prop :=
  W.cell? ⟨S, 0, none⟩ = some (.slice a1 n c1) ∧ W.cell? ⟨S, 1, none⟩ = some (.slice a2 0 c2) ∧ W.cell? ⟨S, 2, none⟩ = some (.int .i64 tk) ∧ W.cell? ⟨S, 3, none⟩ = some (.int .i64 pw) ∧ W.cell? ⟨S, 4, none⟩ = some (.bool off)
theorem Saved.cells {w : World} {F : List Nat} {S : Nat} {a1 a2 : Option Addr} {c1 c2 : Nat} {sta : List (List Int)} {tk pw : Int} {off : Bool} (h : Saved w F S a1 a2 c1 c2 sta tk pw off) : SavedC w S sta.length a1 a2 c1 c2 tk pw off :=
  ⟨(h.box.cells 0).trans rfl, (h.box.cells 1).trans rfl, (h.box.cells 2).trans rfl, (h.box.cells 3).trans rfl, (h.box.cells 4).trans rfl⟩

end Go.Proofs.YtloddiipepiocaaGreatDoor
