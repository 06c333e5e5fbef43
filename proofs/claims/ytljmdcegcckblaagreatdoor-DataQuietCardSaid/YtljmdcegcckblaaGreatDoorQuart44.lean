/- Parts of the proof, put together by program: ZE, N1, N2, N3, N7, N4, N8. -/
import Derived.Test.YtljmdcegcckblaaGreatDoorQuart41
import Derived.Test.YtljmdcegcckblaaGreatDoorQuart19
import Derived.Test.YtljmdcegcckblaaGreatDoorQuart32
import Derived.Test.YtljmdcegcckblaaGreatDoorQuart37
/- Layer 12: on which sectors of the device the functions of data lean; the example of awake in plain words. No program in sight. -/
namespace Go.Proofs.YtljmdcegcckblaaGreatDoor
open Go.RowKit Go.Maps

/-- Two devices that read alike outside of the journal and the bitmap. -/
def Agree (x x' : DevS) (s j : Int) : Prop := ∀ a, (a = 0 ∨ 2 + j ≤ a) → a < s → x.ge a = x'.ge a ∧ x.fr a = x'.fr a
theorem SecV_free (s j i b : Int) : SecV s j i b = 0 ∨ 2 + j ≤ SecV s j i b := by
  unfold SecV
  split
  · rename_i h
    unfold SecE at h
    split at h
    · rename_i h2
      split at h
      · cases h
      · have h3 := (rg_ok h2).2.2.2.1
        have h4 := rg_bds h2
        have h5 := (rg_ok h2).2.2.2.2
        right; omega
    · rename_i h2; exact absurd h h2
  · exact .inl rfl
theorem part_congr {x x' : DevS} {y : TxS} (h : Agree x x' y.s y.j) (kd b : Int) : y.part x kd b = y.part x' kd b := by
  have e : y.read x (SecV y.s y.j y.i b) = y.read x' (SecV y.s y.j y.i b) := by
    unfold TxS.read
    split
    · rfl
    · split
      · rfl
      · rename_i h1 h2
        have h3 := h (SecV y.s y.j y.i b) (SecV_free _ _ _ _) (by omega)
        unfold TxS.readR
        rw [h3.1, h3.2]
  unfold TxS.part; rw [e]
theorem text_congr {x x' : DevS} {y : TxS} (h : Agree x x' y.s y.j) (kd : Int) (l : List Int) (size a b : Int) : y.text x kd l size a b = y.text x' kd l size a b := by
  have e : ∀ k, textK y x kd size a b l k = textK y x' kd size a b l k := by
    intro k
    induction k with
    | zero => rfl
    | succ k ih => unfold textK; rw [ih, part_congr h]
  exact e _
theorem Agree.same {x x' : DevS} {y z : TxS} (h : Agree x x' y.s y.j) (hs : z.Same y) : Agree x x' z.s z.j := by rw [hs.1, hs.2.1]; exact h
theorem puts_congr {x x' : DevS} {y : TxS} (h : Agree x x' y.s y.j) (kd : Int) (l : List Int) (ps : List ByteArray) (k : Nat) : y.puts x kd l ps k = y.puts x' kd l ps k := by
  induction k with
  | zero => rfl
  | succ k ih => unfold TxS.puts; rw [ih, part_congr (h.same (TxS.puts_same _ _ _ _ _ _))]
theorem TxS.fit_same (y : TxS) (l : List Int) (n : Nat) : (y.fit l n).2.1.Same y := by
  unfold TxS.fit
  split
  · exact TxS.free_same _ _
  · split
    · exact TxS.take_same _ _ _
    · exact ⟨rfl, rfl, rfl⟩
theorem store_congr {x x' : DevS} {y : TxS} (h : Agree x x' y.s y.j) (kd : Int) (l : List Int) (ps : List ByteArray) : y.store x kd l ps = y.store x' kd l ps := by
  unfold TxS.store; rw [puts_congr (h.same (TxS.fit_same _ _ _))]
theorem dread_congr {x x' : DevS} {y : TxS} (h : Agree x x' y.s y.j) (kd : Int) (l : List Int) (size a b : Int) : y.dread x kd l size a b = y.dread x' kd l size a b := by
  unfold TxS.dread; rw [text_congr h]
theorem dwrite_congr {x x' : DevS} {y : TxS} (h : Agree x x' y.s y.j) (kd : Int) (l : List Int) (size a : Int) (s : ByteArray) : y.dwrite x kd l size a s = y.dwrite x' kd l size a s := by
  unfold TxS.dwrite; rw [text_congr h, store_congr h]
theorem dcut_congr {x x' : DevS} {y : TxS} (h : Agree x x' y.s y.j) (kd : Int) (l : List Int) (size a : Int) : y.dcut x kd l size a = y.dcut x' kd l size a := by
  unfold TxS.dcut; rw [text_congr h, store_congr h]
theorem TxS.store_same (y : TxS) (x : DevS) (kd : Int) (l : List Int) (ps : List ByteArray) : (y.store x kd l ps).2.1.Same y := by
  unfold TxS.store
  split
  · exact TxS.fit_same _ _ _
  · split <;> exact (TxS.puts_same _ _ _ _ _ _).trans (TxS.fit_same _ _ _)
theorem TxS.dwrite_same (y : TxS) (x : DevS) (kd : Int) (l : List Int) (size a : Int) (s : ByteArray) : (y.dwrite x kd l size a s).2.1.Same y := by
  unfold TxS.dwrite
  split
  · exact ⟨rfl, rfl, rfl⟩
  · split
    · exact ⟨rfl, rfl, rfl⟩
    · split <;> exact TxS.store_same _ _ _ _ _
theorem TxS.dcut_same (y : TxS) (x : DevS) (kd : Int) (l : List Int) (size a : Int) : (y.dcut x kd l size a).2.1.Same y := by
  unfold TxS.dcut
  split
  · exact ⟨rfl, rfl, rfl⟩
  · split
    · exact ⟨rfl, rfl, rfl⟩
    · exact TxS.store_same _ _ _ _ _

/-! The example. -/
def lettersB (c : Int) (n : Nat) : ByteArray := strOfNums (List.replicate n c)
def aw1 (x : DevS) : Int × TxS × List Int × Int := yA.dwrite x 8 [] 0 0 (lettersB 97 100)
def aw2 (x : DevS) : ByteArray × Int := (aw1 x).2.1.dread x 8 [0, 1] 100 94 9
def aw3 (x : DevS) : Int × TxS × List Int × Int := (aw1 x).2.1.dwrite x 8 [0, 1] 100 96 ⟨#[98, 98]⟩
def aw4 (x : DevS) : Int × TxS × List Int := (aw3 x).2.1.dcut x 8 [0, 1] 100 3
def aw5 (x : DevS) : Int × TxS × List Int := (aw4 x).2.1.dcut x 8 [0] 3 5
def aw6 (x : DevS) : ByteArray × Int := (aw5 x).2.1.dread x 8 [0] 5 0 768
theorem aw_newDev : (aw1 (newDev 64)).1 = 0 ∧ (aw1 (newDev 64)).2.2.1 = [0, 1] ∧ (aw1 (newDev 64)).2.2.2 = 100 ∧ aw2 (newDev 64) = (⟨#[97, 97, 97, 97, 97, 97]⟩, 0) ∧ (aw3 (newDev 64)).1 = 0 ∧ (aw3 (newDev 64)).2.2.1 = [0, 1] ∧ (aw3 (newDev 64)).2.2.2 = 100 ∧
    (aw4 (newDev 64)).1 = 0 ∧ (aw4 (newDev 64)).2.2 = [0] ∧ (aw5 (newDev 64)).1 = 0 ∧ (aw5 (newDev 64)).2.2 = [0] ∧ aw6 (newDev 64) = (⟨#[97, 97, 97, 0, 0]⟩, 0) := by decide +kernel
theorem awake_plain {x : DevS} (hx : ∀ a, (a = 0 ∨ 10 ≤ a) → a < 64 → x.ge a = 70) : (aw1 x).1 = 0 ∧ (aw1 x).2.2.1 = [0, 1] ∧ (aw1 x).2.2.2 = 100 ∧ aw2 x = (⟨#[97, 97, 97, 97, 97, 97]⟩, 0) ∧ (aw3 x).1 = 0 ∧ (aw3 x).2.2.1 = [0, 1] ∧ (aw3 x).2.2.2 = 100 ∧
    (aw4 x).1 = 0 ∧ (aw4 x).2.2 = [0] ∧ (aw5 x).1 = 0 ∧ (aw5 x).2.2 = [0] ∧ aw6 x = (⟨#[97, 97, 97, 0, 0]⟩, 0) := by
  have hA : Agree x (newDev 64) yA.s yA.j := fun a h1 h2 => by
    have h3 : x.ge a = 70 := hx a h1 h2
    have h4 : (newDev 64).ge a = 70 := newDev_ge (by omega) (by
      have h1' : a = 0 ∨ 10 ≤ a := h1
      have h2' : a < 64 := h2
      omega)
    exact ⟨h3.trans h4.symm, (fr_blank h3).trans (fr_blank h4).symm⟩
  have e1 : aw1 x = aw1 (newDev 64) := dwrite_congr hA _ _ _ _ _
  have h1 := hA.same (TxS.dwrite_same yA (newDev 64) 8 [] 0 0 (lettersB 97 100))
  have e2 : aw2 x = aw2 (newDev 64) := by unfold aw2; rw [e1]; exact dread_congr h1 _ _ _ _ _
  have e3 : aw3 x = aw3 (newDev 64) := by unfold aw3; rw [e1]; exact dwrite_congr h1 _ _ _ _ _
  have h3 := h1.same (TxS.dwrite_same (aw1 (newDev 64)).2.1 (newDev 64) 8 [0, 1] 100 96 ⟨#[98, 98]⟩)
  have e4 : aw4 x = aw4 (newDev 64) := by unfold aw4; rw [e3]; exact dcut_congr h3 _ _ _ _
  have h4 := h3.same (TxS.dcut_same (aw3 (newDev 64)).2.1 (newDev 64) 8 [0, 1] 100 3)
  have e5 : aw5 x = aw5 (newDev 64) := by unfold aw5; rw [e4]; exact dcut_congr h4 _ _ _ _
  have h5 := h4.same (TxS.dcut_same (aw4 (newDev 64)).2.1 (newDev 64) 8 [0] 3 5)
  have e6 : aw6 x = aw6 (newDev 64) := by unfold aw6; rw [e5]; exact dread_congr h5 _ _ _ _ _
  rw [e1, e2, e3, e4, e5, e6]
  exact aw_newDev

end Go.Proofs.YtljmdcegcckblaaGreatDoor
/- The laws of layer 12: small functions. -/
namespace Go.Proofs.YtljmdcegcckblaaGreatDoor
open Go.RowKit Go.Maps

set_option maxRecDepth 100000 in
set_option maxHeartbeats 2000000 in
theorem sameInts_any (A Bl : Option Addr) (c d : Nat) (la lb : List Int) (hla : la.length ≤ 100000) (hlb : lb.length ≤ 100000) (w : World) (hA : Reads w A (la.map (.int .i64))) (hB : Reads w Bl (lb.map (.int .i64))) :
    Calls Tryz.prog 26 #[.slice A la.length c, .slice Bl lb.length d] w fun e w' => e = .returned (.bool (decide (la = lb))) ∧ Below w.heap.size w w' := by
  by_cases hl : la.length = lb.length
  rotate_left
  · have hd : decide (la = lb) = false := decide_eq_false fun e => hl (by rw [e])
    have HD := Lib.hid hd
    have hq : ((la.length : Int) != (lb.length : Int)) = true := by simp; omega
    clear hd hl
    go_enter Tryz.func26, Tryz.ntmps26
    go_wp2_with fail
    go_ret
    exact ⟨by rw [HD.out]; rfl, Below.refl _ _⟩
  · have hq : ((la.length : Int) != (lb.length : Int)) = false := by simp; omega
    have HL := Lib.hid hl
    clear hl
    go_enter Tryz.func26, Tryz.ntmps26
    go_wp2_with fail
    go_loopw [5] (fun q wr => ∃ k : Nat, k ≤ la.length ∧ q = .int .i64 k ∧ la.take k = lb.take k ∧ Below w.heap.size w wr) (fun q _ => la.length - (RowKit.intOf q).toNat)
    case atStart => exact ⟨0, Nat.zero_le _, rfl, by simp, Below.refl _ _⟩
    case round =>
      obtain ⟨k, hk, rfl, ht, hb⟩ := hrel
      by_cases hlt : k < la.length
      · have hlt2 : k < lb.length := by have := HL.out; omega
        obtain ⟨b1, o1, rfl, hb1, hc1⟩ := (hA.below hb).at_ (k := k) (by simpa using hlt)
        obtain ⟨b2, o2, rfl, hb2, hc2⟩ := (hB.below hb).at_ (k := k) (by simpa using hlt2)
        rw [List.getElem_map] at hc1 hc2
        have hta : la.take (k + 1) = la.take k ++ [la[k]] := by rw [List.take_succ_eq_append_getElem hlt]
        have htb : lb.take (k + 1) = lb.take k ++ [lb[k]] := by rw [List.take_succ_eq_append_getElem hlt2]
        have HNE : Hid (la[k] ≠ lb[k] → decide (la = lb) = false) := Lib.hid fun hne => decide_eq_false fun e => hne (by subst e; rfl)
        have HT := Lib.hid ht
        have HA' := Lib.hid hA
        have HB' := Lib.hid hB
        have HTA := Lib.hid hta
        have HTB := Lib.hid htb
        generalize la[k] = x at *
        generalize lb[k] = z at *
        clear hta htb ht hA hB
        by_cases he : x = z
        · subst he
          go_wp2_with fail
          go_quiet (fail)
          go_wp2_with fail
          go_roundw
          case rel => exact ⟨k + 1, by omega, by go_num, by rw [HTA.out, HTB.out, HT.out], below_drewN' hb _⟩
          case measure => simp [RowKit.intOf]; omega
        · have hn : (x != z) = true := by simpa using he
          have HF := Lib.hid (HNE.out he)
          clear he
          go_wp2_with fail
          go_quiet (fail)
          go_wp2_with fail
          go_ret
          exact ⟨by rw [HF.out]; rfl, below_drewN' hb _⟩
      · obtain rfl : k = la.length := by omega
        have HD : Hid (decide (la = lb) = true) := Lib.hid (decide_eq_true (by rw [List.take_length, HL.out, List.take_length] at ht; exact ht))
        clear ht
        go_wp2_with fail
        go_ret
        exact ⟨by rw [HD.out]; rfl, hb⟩

def letK (c : Int) (n k : Nat) : List Int := List.replicate k c ++ List.replicate (n - k) 0
theorem letK_set (c : Int) (n k : Nat) (hk : k < n) : (letK c n k).set k c = letK c n (k + 1) := by
  unfold letK
  apply List.ext_getElem?
  intro i
  by_cases hi : i = k
  · subst hi
    rw [List.getElem?_set_self (by simp; omega), List.getElem?_append_left (by simp), List.getElem?_replicate, if_pos (by omega)]
  · rw [List.getElem?_set_ne (fun e => hi e.symm)]
    by_cases h2 : i < k
    · rw [List.getElem?_append_left (by simpa using h2), List.getElem?_append_left (by simp; omega), List.getElem?_replicate, List.getElem?_replicate, if_pos h2, if_pos (by omega)]
    · rw [List.getElem?_append_right (by simp; omega), List.getElem?_append_right (by simp; omega), List.getElem?_replicate, List.getElem?_replicate]
      simp only [List.length_replicate]
      by_cases h3 : i < n
      · rw [if_pos (by omega), if_pos (by omega)]
      · rw [if_neg (by omega), if_neg (by omega)]

set_option maxRecDepth 100000 in
set_option maxHeartbeats 2000000 in
theorem letters_any (c : Int) (n : Nat) (hn : n ≤ 1000) (w : World) :
    Calls Tryz.prog 32 #[.int .u8 c, .int .i64 n] w fun e w' => e = .returned (.string (lettersB c n)) ∧ Below w.heap.size w w' := by
  have hmk := make_bytes n (by omega) w
  have HB : Hid (bytesV (letK c n 0) = fill (.int .u8 0) n) := Lib.hid (by unfold letK; rw [← bytesV_rep]; simp)
  have HX : Hid (lettersB c n = strOfNums (letK c n n)) := Lib.hid (by unfold lettersB letK; simp)
  go_enter Tryz.func32, Tryz.ntmps32
  go_wp2_with fail
  clear hmk
  go_loopw [6] (fun q wr => ∃ k : Nat, k ≤ n ∧ q = .int .i64 k ∧ Blk wr w.heap.size 5 (bytesV (letK c n k)) ∧ Below w.heap.size w wr) (fun q _ => n - (RowKit.intOf q).toNat)
  case atStart => exact ⟨0, Nat.zero_le _, rfl, by rw [HB.out]; exact Blk.new _ _ _, (Below.refl _ _).alloc (Nat.le_refl _) _⟩
  case round =>
    obtain ⟨k, hk, rfl, b, hb⟩ := hrel
    have hll : (letK c n k).length = n := by unfold letK; simp; omega
    by_cases hlt : k < n
    · have hcx : wr.cell? ⟨w.heap.size, k, none⟩ = some (.int .u8 ((letK c n k).getD k 0)) := (b.cells k).trans (bytesV_get (by omega))
      have HS := Lib.hid (letK_set c n k hlt)
      have lB := b.lt
      have fB := b.free k
      have HBK := Lib.hid b
      generalize (letK c n k).getD k 0 = z at hcx
      clear b hll
      go_wp2_with fail
      go_roundw
      case rel => exact ⟨k + 1, by omega, by go_num, by rw [← HS.out, ← bytesV_set]; exact HBK.out.set_ k _, hb.setCell (p := ⟨w.heap.size, k, none⟩) (Nat.le_refl _) _⟩
      case measure => simp [RowKit.intOf]; omega
    · obtain rfl : k = n := by omega
      have hcv := conv_bytes (some ⟨w.heap.size, 0, none⟩) k k (letK c k k) hll wr (reads_bytes b)
      clear b hll
      go_wp2_with fail
      go_ret
      exact ⟨by rw [HX.out]; rfl, hb⟩

end Go.Proofs.YtljmdcegcckblaaGreatDoor
/- The laws of layer 12: a device that was formatted and a transaction on it. -/
namespace Go.Proofs.YtljmdcegcckblaaGreatDoor
open Go.RowKit Go.Maps

def BegunPost (w : World) (s j i : Int) (e : Ending) (w' : World) : Prop :=
  ∃ D T F B y, e = .returned (.tuple #[.pointer (some ⟨D, 0, none⟩), .pointer (some ⟨T, 0, none⟩)]) ∧ Fresh y s j i 1000000 ∧ TD w' T F D (freeTx s j i) B y ∧ Below w.heap.size w w' ∧ (∀ b ∈ F, w.heap.size ≤ b) ∧ ∀ b ∈ B, w.heap.size ≤ b

set_option maxRecDepth 100000 in
set_option maxHeartbeats 2000000 in
theorem begun_fresh (ns : Nat) (j i : Int) (h : rgE ns j i = 0) (w : World) (hH : HalfAt w) :
    Calls Tryz.prog 9 #[.agg #[.int .i64 ns, .int .i64 j, .int .i64 i]] w (BegunPost w ns j i) := by
  obtain ⟨wA, hA⟩ : ∃ wA, wA = w.alloc (.cells #[.int .i64 ns, .int .i64 j, .int .i64 i] 32) := ⟨_, rfl⟩
  have bL : Blk wA w.heap.size 32 #[.int .i64 ns, .int .i64 j, .int .i64 i] := by rw [hA]; exact (by (repeat' (first | (with_reducible assumption) | exact Blk.new' (by simp) | refine Blk.alloc ?_ _)))
  have BA : Below w.heap.size w wA := by rw [hA]; (repeat' (first | (with_reducible exact Below.refl _ _) | (with_reducible assumption) | (with_reducible refine Below.alloc ?_ ?_ _) | (with_reducible refine Below.drew ?_) | (with_reducible refine below_drewN' ?_ _) | (with_reducible refine Below.setCell ?_ ?_ _) | (with_reducible exact Nat.le_refl _) | omega | (simp; done) | (simp; omega)))
  have hHA : HalfAt wA := hH.below BA hH.1
  have hbd := rg_bds h
  obtain ⟨y, hy, hF⟩ := format_fresh h 1000000 (by omega)
  rw [Int.toNat_natCast] at hy
  obtain ⟨hb1, hb2, hb3⟩ := begin_fresh h hF
  have hnew := new_dev ns (by omega) wA hHA
  have cL := bL.cells
  have lL := bL.lt
  have hp0 := hH.1
  have lA := bL.lt
  unfold BegunPost
  go_enter Tryz.func9, Tryz.ntmps9
  go_wp2_with fail
  rw [← hA]
  go_wp2_with fail
  refine hnew.mono ?_
  rintro e w1 ⟨D, B0, rfl, hd1, hw1, hB0⟩
  have B1 := BA.trans (hw1.mono BA.size)
  have bL1 := bL.belowAll hw1
  clear hnew cL lL bL hA hHA
  have cL := bL1.cells
  have lL := bL1.lt
  go_wp2_with fail
  refine (tformat_dev D ns j i B0 (newDev ns) w1 hd1).mono ?_
  rintro e w2 ⟨rfl, B, hd2, g2⟩
  rw [hy] at hd2 ⊢
  have hg0 : w.heap.size ∉ B0 := fun hm => by have := hB0 _ hm; omega
  have bL2 := g2.blk bL1 hg0
  have B2 : Below w.heap.size w w2 := B1.trans (g2.below B1.size fun b hb => by have := hB0 b hb; omega)
  have hBB : ∀ b ∈ B, w.heap.size ≤ b := fun b hb => by
    rcases g2.new b hb with h3 | h3
    · have := hB0 b h3; omega
    · have := B1.size; omega
  clear cL lL bL1 hd1 hw1 g2 hg0 hB0
  have cL := bL2.cells
  have lL := bL2.lt
  have Hb1 := Lib.hid hb1
  have Hb2 := Lib.hid hb2
  have HF := Lib.hid hF
  have Hh := Lib.hid h
  clear hy hb1 hb2 hF h
  go_wp2_with fail
  refine (begin_dev D ns j i B y w2 hd2 hb3).mono ?_
  rintro e w3 ⟨hb4, E, hE, ⟨h5, -⟩ | ⟨-, T, F, rfl, ht, hFF⟩⟩
  · exact absurd ((Hb1.out E).1 hE) h5
  rw [Hb2.out] at ht
  have B3 := B2.trans (hb4.mono B2.size)
  have hd3 := hd2.below hb4
  have hlt := hd2.lt
  clear cL lL bL2 hb4 hE
  go_wp2_with fail
  go_ret2
  exact ⟨D, T, F, B, y, rfl, HF.out, ⟨ht, hd3, fun b hb hm => by have := hFF b hb; have := (hlt b hm).2; omega⟩, B3, fun b hb => by have := hFF b hb; have := B2.size; omega, hBB⟩
end Go.Proofs.YtljmdcegcckblaaGreatDoor
/- The laws of layer 12: the example, walked. -/
namespace Go.Proofs.YtljmdcegcckblaaGreatDoor
open Go.RowKit Go.Maps

/-- A list which the transaction does not touch. -/
structure Keeps (w : World) (F : List Nat) (A : Option Addr) (c : Nat) (l : List Int) : Prop where
  sl : SlI w A c l
  out : ∀ a, A = some a → a.block ∉ F ∧ a.block < w.heap.size
theorem Keeps.grow {w w' : World} {F F' : List Nat} {A : Option Addr} {c : Nat} {l : List Int} (h : Keeps w F A c l) (g : Grow w F w' F') : Keeps w' F' A c l :=
  ⟨⟨h.sl.reads.growF g fun a e => (h.out a e).1, h.sl.nil, h.sl.cap⟩, fun a e => ⟨g.notin (h.out a e).1 (h.out a e).2, Nat.lt_of_lt_of_le (h.out a e).2 g.keep.size⟩⟩
theorem Keeps.below {w w' : World} {F : List Nat} {A : Option Addr} {c : Nat} {l : List Int} (h : Keeps w F A c l) (hb : Below w.heap.size w w') : Keeps w' F A c l :=
  ⟨h.sl.below hb, fun a e => ⟨(h.out a e).1, Nat.lt_of_lt_of_le (h.out a e).2 hb.size⟩⟩
theorem Keeps.of_did {w' : World} {base : Nat} {F' : List Nat} {v : Value} {l : List Int} (ho : w'.ownsRow base 3 1 v l.length (l.map (.int .i64))) (hf : ∀ q, v.ownBlock = some q → q ∉ F') : ∃ A c, v = .slice A l.length c ∧ Keeps w' F' A c l := by
  obtain ⟨A, c, rfl, hs⟩ := SlI.of_own ho
  exact ⟨A, c, rfl, hs, fun a e => by subst e; exact ⟨hf a.block rfl, (own_lt ho a.block rfl).2⟩⟩
theorem Grow.lo {w w' : World} {F F' : List Nat} {n : Nat} (g : Grow w F w' F') (hn : n ≤ w.heap.size) (hF : ∀ b ∈ F, n ≤ b) : ∀ b ∈ F', n ≤ b := fun b hb => by
  rcases g.new b hb with h | h
  · exact hF b h
  · omega
theorem slI_nil (w : World) : SlI w none 0 [] := ⟨.inl rfl, by simp, by simp⟩
theorem lettersB_size (c : Int) (n : Nat) : (lettersB c n).size = n := by unfold lettersB; rw [strOfNums_size]; simp

def AwakePost (w : World) (e : Ending) (w' : World) : Prop := e = .returned (.bool true) ∧ Below w.heap.size w w'

set_option maxRecDepth 100000 in
set_option maxHeartbeats 8000000 in
theorem awake_any (w : World) (hH : HalfAt w) : Calls Tryz.prog 8 #[] w (AwakePost w) := by
  have hbg : Calls Tryz.prog 9 #[.agg #[.int .i64 64, .int .i64 8, .int .i64 40]] w (BegunPost w 64 8 40) := begun_fresh 64 8 40 (by decide) w hH
  unfold AwakePost
  go_enter Tryz.func8, Tryz.ntmps8
  go_wp2_with fail
  refine hbg.mono ?_
  rintro e w1 ⟨D, T, F1, B, y, rfl, hF, h1, B1, hF1, hB1⟩
  rw [show freeTx 64 8 40 = yA from by unfold freeTx yA; rw [show (rgB 64 8 40).toNat = 14 from by decide]] at h1
  obtain ⟨a1, a2, a3, a4, a5, a6, a7, a8, a9, a10, a11, a12⟩ := awake_plain (x := y) (fun a h1 h2 => hF.blank a (by rcases h1 with h | h; exact .inl h; exact .inr (by omega)) h2)
  have hl1 := letters_any 97 100 (by omega) w1
  clear hbg hF
  go_wp2_with fail
  refine hl1.mono ?_
  rintro e w2 ⟨rfl, hb2⟩
  have h2 := h1.below hb2
  have B2 := B1.trans (hb2.mono B1.size)
  have c1 : Calls Tryz.prog 19 #[.pointer (some ⟨T, 0, none⟩), .int .i64 8, .slice none 0 0, .int .i64 0, .int .i64 0, .string (lettersB 97 100)] w2 (DwPost w2 T F1 D B y (aw1 y)) :=
    dwrite_tx T F1 D yA B y 8 none 0 [] (by simp) 0 0 (lettersB 97 100) (by rw [lettersB_size]; omega) (by omega) (by omega) w2 h2 (slI_nil w2)
  clear hl1 hb2 h1 B1
  go_wp2_with fail
  refine c1.mono ?_
  rintro e w3 ⟨v3, he, ho3, F3, h3, g3, f3⟩
  rw [a1, a3] at he
  rw [a2] at ho3
  subst he
  obtain ⟨A3, c3, rfl, k3⟩ := Keeps.of_did ho3 f3
  have B3 := B2.trans (g3.below B2.size hF1)
  have hF3 := g3.lo B2.size hF1
  clear c1 h2 B2 ho3 f3 g3 a1 a2 a3
  have c2 : Calls Tryz.prog 14 #[.pointer (some ⟨T, 0, none⟩), .int .i64 8, .slice A3 2 c3, .int .i64 100, .int .i64 94, .int .i64 9] w3 fun e w' => e = .returned (.tuple #[.string (aw2 y).1, .int .i64 (aw2 y).2]) ∧ Below w3.heap.size w3 w' :=
    dread_tx T F3 D (aw1 y).2.1 B y 8 A3 c3 [0, 1] (by simp) 100 94 9 (by omega) w3 h3.tx h3.dev k3.sl
  rw [a4] at c2
  go_wp2_with fail
  refine c2.mono ?_
  rintro e w4 ⟨rfl, hb4⟩
  have h4 := h3.below hb4
  have k4 := k3.below hb4
  have B4 := B3.trans (hb4.mono B3.size)
  clear c2 h3 k3 B3 hb4
  have c3' : Calls Tryz.prog 19 #[.pointer (some ⟨T, 0, none⟩), .int .i64 8, .slice A3 2 c3, .int .i64 100, .int .i64 96, .string ⟨#[98, 98]⟩] w4 (DwPost w4 T F3 D B y (aw3 y)) :=
    dwrite_tx T F3 D (aw1 y).2.1 B y 8 A3 c3 [0, 1] (by simp) 100 96 ⟨#[98, 98]⟩ (by decide) (by omega) (by omega) w4 h4 k4.sl
  go_wp2_with fail
  refine c3'.mono ?_
  rintro e w5 ⟨v5, he, ho5, F5, h5, g5, f5⟩
  rw [a5, a7] at he
  rw [a6] at ho5
  subst he
  obtain ⟨A5, c5, rfl, m5⟩ := Keeps.of_did ho5 f5
  have k5 := k4.grow g5
  have B5 := B4.trans (g5.below B4.size hF3)
  have hF5 := g5.lo B4.size hF3
  clear c3' h4 k4 B4 ho5 f5 g5 a4 a5 a6 a7
  have c4 : Calls Tryz.prog 33 #[.pointer (some ⟨T, 0, none⟩), .int .i64 8, .slice A5 2 c5, .int .i64 100, .int .i64 3] w5 (DcPost w5 T F5 D B y (aw4 y)) :=
    dcut_tx T F5 D (aw3 y).2.1 B y 8 A5 c5 [0, 1] (by simp) 100 3 (by omega) w5 h5 m5.sl
  go_wp2_with fail
  refine c4.mono ?_
  rintro e w6 ⟨v6, he, ho6, F6, h6, g6, f6⟩
  rw [a8] at he
  rw [a9] at ho6
  subst he
  obtain ⟨A6, c6, rfl, n6⟩ := Keeps.of_did ho6 f6
  have k6 := k5.grow g6
  have m6 := m5.grow g6
  have B6 := B5.trans (g6.below B5.size hF5)
  have hF6 := g6.lo B5.size hF5
  clear c4 h5 k5 m5 B5 ho6 f6 g6 a8 a9
  have c5' : Calls Tryz.prog 33 #[.pointer (some ⟨T, 0, none⟩), .int .i64 8, .slice A6 1 c6, .int .i64 3, .int .i64 5] w6 (DcPost w6 T F6 D B y (aw5 y)) :=
    dcut_tx T F6 D (aw4 y).2.1 B y 8 A6 c6 [0] (by simp) 3 5 (by omega) w6 h6 n6.sl
  go_wp2_with fail
  refine c5'.mono ?_
  rintro e w7 ⟨v7, he, ho7, F7, h7, g7, f7⟩
  rw [a10] at he
  rw [a11] at ho7
  subst he
  obtain ⟨A7, c7, rfl, p7⟩ := Keeps.of_did ho7 f7
  have k7 := (k6.grow g7).sl
  have m7 := (m6.grow g7).sl
  have n7 := (n6.grow g7).sl
  have B7 := B6.trans (g7.below B6.size hF6)
  have d7 := p7.sl
  clear c5' h6 k6 m6 n6 B6 ho7 f7 g7 a10 a11
  have c6' : Calls Tryz.prog 14 #[.pointer (some ⟨T, 0, none⟩), .int .i64 8, .slice A7 1 c7, .int .i64 5, .int .i64 0, .int .i64 768] w7 fun e w' => e = .returned (.tuple #[.string (aw6 y).1, .int .i64 (aw6 y).2]) ∧ Below w7.heap.size w7 w' :=
    dread_tx T F7 D (aw5 y).2.1 B y 8 A7 c7 [0] (by simp) 5 0 768 (by omega) w7 h7.tx h7.dev d7
  rw [a12] at c6'
  go_wp2_with fail
  refine c6'.mono ?_
  rintro e w8 ⟨rfl, hb8⟩
  have k8 := k7.below hb8
  have m8 := m7.below hb8
  have n8 := n7.below hb8
  have d8 := d7.below hb8
  have B8 := B7.trans (hb8.mono B7.size)
  clear c6' k7 m7 n7 d7 h7 p7 B7 hb8 a12 hF1 hF3 hF5 hF6 hB1
  obtain ⟨w9, hw9⟩ : ∃ w9, w9 = w8.alloc (.cells #[.int .i64 0, .int .i64 1] 3) := ⟨_, rfl⟩
  have b9 : Below w8.heap.size w8 w9 := by rw [hw9]; (repeat' (first | (with_reducible exact Below.refl _ _) | (with_reducible assumption) | (with_reducible refine Below.alloc ?_ ?_ _) | (with_reducible refine Below.drew ?_) | (with_reducible refine below_drewN' ?_ _) | (with_reducible refine Below.setCell ?_ ?_ _) | (with_reducible exact Nat.le_refl _) | omega | (simp; done) | (simp; omega)))
  have r9 : Reads w9 (some ⟨w8.heap.size, 0, none⟩) ([0, 1].map (.int .i64)) := by
    have := Blk.new w8 3 #[.int .i64 0, .int .i64 1]
    rw [← hw9] at this
    exact .inr ⟨_, 0, rfl, this.lt, fun k u hu => by rw [Nat.zero_add]; exact (this.cells k).trans (by simpa using hu)⟩
  have HW := Lib.hid hw9
  clear hw9
  go_wp2_with fail
  rw [← HW.out]
  have s1 : Calls Tryz.prog 26 #[.slice A3 2 c3, .slice (some ⟨w8.heap.size, 0, none⟩) 2 2] w9 fun e w' => e = .returned (.bool true) ∧ Below w9.heap.size w9 w' := by
    simpa using sameInts_any A3 (some ⟨w8.heap.size, 0, none⟩) c3 2 [0, 1] [0, 1] (by simp) (by simp) w9 (k8.below b9).reads r9
  refine s1.mono ?_
  rintro e w10 ⟨rfl, hb10⟩
  have B10 := B8.trans ((b9.trans (hb10.mono b9.size)).mono B8.size)
  have s2 : Calls Tryz.prog 26 #[.slice A5 2 c5, .slice A3 2 c3] w10 fun e w' => e = .returned (.bool true) ∧ Below w10.heap.size w10 w' := by
    simpa using sameInts_any A5 A3 c5 c3 [0, 1] [0, 1] (by simp) (by simp) w10 (((m8.below b9).below hb10).reads) (((k8.below b9).below hb10).reads)
  have n10 := (n8.below b9).below hb10
  have d10 := (d8.below b9).below hb10
  clear s1 HW r9 hb10 k8 m8 n8 d8 b9 B8
  go_wp2_with fail
  refine s2.mono ?_
  rintro e w11 ⟨rfl, hb11⟩
  have B11 := B10.trans (hb11.mono B10.size)
  have n11 := n10.below hb11
  have d11 := d10.below hb11
  obtain ⟨w12, hw12⟩ : ∃ w12, w12 = w11.alloc (.cells #[.int .i64 0] 3) := ⟨_, rfl⟩
  have b12 : Below w11.heap.size w11 w12 := by rw [hw12]; (repeat' (first | (with_reducible exact Below.refl _ _) | (with_reducible assumption) | (with_reducible refine Below.alloc ?_ ?_ _) | (with_reducible refine Below.drew ?_) | (with_reducible refine below_drewN' ?_ _) | (with_reducible refine Below.setCell ?_ ?_ _) | (with_reducible exact Nat.le_refl _) | omega | (simp; done) | (simp; omega)))
  have r12 : Reads w12 (some ⟨w11.heap.size, 0, none⟩) ([0].map (.int .i64)) := by
    have := Blk.new w11 3 #[.int .i64 0]
    rw [← hw12] at this
    exact .inr ⟨_, 0, rfl, this.lt, fun k u hu => by rw [Nat.zero_add]; exact (this.cells k).trans (by simpa using hu)⟩
  have HW := Lib.hid hw12
  clear s2 hw12 n10 d10 B10 hb11
  go_wp2_with fail
  rw [← HW.out]
  have s3 : Calls Tryz.prog 26 #[.slice A6 1 c6, .slice (some ⟨w11.heap.size, 0, none⟩) 1 1] w12 fun e w' => e = .returned (.bool true) ∧ Below w12.heap.size w12 w' := by
    simpa using sameInts_any A6 (some ⟨w11.heap.size, 0, none⟩) c6 1 [0] [0] (by simp) (by simp) w12 (n11.below b12).reads r12
  refine s3.mono ?_
  rintro e w13 ⟨rfl, hb13⟩
  have B13 := B11.trans ((b12.trans (hb13.mono b12.size)).mono B11.size)
  have s4 : Calls Tryz.prog 26 #[.slice A7 1 c7, .slice A6 1 c6] w13 fun e w' => e = .returned (.bool true) ∧ Below w13.heap.size w13 w' := by
    simpa using sameInts_any A7 A6 c7 c6 [0] [0] (by simp) (by simp) w13 (((d11.below b12).below hb13).reads) (((n11.below b12).below hb13).reads)
  clear s3 HW r12 hb13 n11 d11 b12 B11
  go_wp2_with fail
  refine s4.mono ?_
  rintro e w14 ⟨rfl, hb14⟩
  have B14 := B13.trans (hb14.mono B13.size)
  clear s4 hb14 B13
  go_wp2_with fail
  go_ret
  exact ⟨rfl, B14⟩
end Go.Proofs.YtljmdcegcckblaaGreatDoor
/- Layer 12: calls on a transaction that is none, or has ended. -/
namespace Go.Proofs.YtljmdcegcckblaaGreatDoor
open Go.RowKit Go.Maps

end Go.Proofs.YtljmdcegcckblaaGreatDoor
/- The laws of layer 12: the reference's Split and Strings. -/
namespace Go.Proofs.YtljmdcegcckblaaGreatDoor
open Go.RowKit Go.Maps

def RSplitPost (s : ByteArray) (w : World) (e : Ending) (w' : World) : Prop :=
  Below w.heap.size w w' ∧ ((768 < s.size ∧ e = .returned (.tuple #[.slice none 0 0, .int .i64 3])) ∨
    (s.size ≤ 768 ∧ ∃ v, e = .returned (.tuple #[v, .int .i64 0]) ∧ w'.ownsRow w.heap.size 9 1 v (cutsL s).length ((cutsL s).map .string)))


end Go.Proofs.YtljmdcegcckblaaGreatDoor
/- The laws of layer 12: small functions of the acts. -/
namespace Go.Proofs.YtljmdcegcckblaaGreatDoor
open Go.RowKit Go.Maps

abbrev ansE (E : Int) : Array Value := #[.slice none 0 0, .slice none 0 0, .string ⟨#[]⟩, .int .i64 0, .int .i64 E]

set_option maxRecDepth 100000 in
set_option maxHeartbeats 2000000 in
theorem layout_any (j i : Int) (hj : 0 ≤ j ∧ j ≤ 255) (hi : 0 ≤ i ∧ i ≤ 255) (w : World) :
    Calls Tryz.prog 10 #[.int .u8 j, .int .u8 i] w fun e w' => e = .returned (.agg #[.int .i64 64, .int .i64 (8 + j % 21), .int .i64 (1 + i % 26)]) ∧ Below w.heap.size w w' := by
  have h1 : j.tmod 21 = j % 21 := Int.tmod_eq_emod_of_nonneg hj.1
  have h2 : i.tmod 26 = i % 26 := Int.tmod_eq_emod_of_nonneg hi.1
  have h3 : IntKind.u8.wrap (j % 21) = j % 21 := by rw [IntKind.wrap_u8]; omega
  have h4 : IntKind.u8.wrap (i % 26) = i % 26 := by rw [IntKind.wrap_u8]; omega
  have h5 : IntKind.i64.wrap (j % 21) = j % 21 := by rw [IntKind.wrap_i64]; omega
  have h6 : IntKind.i64.wrap (i % 26) = i % 26 := by rw [IntKind.wrap_i64]; omega
  have h7 : IntKind.i64.wrap (8 + j % 21) = 8 + j % 21 := by rw [IntKind.wrap_i64]; omega
  have h8 : IntKind.i64.wrap (1 + i % 26) = 1 + i % 26 := by rw [IntKind.wrap_i64]; omega
  go_enter Tryz.func10, Tryz.ntmps10
  go_wp2_with fail
  have bF := Blk.new w 32 #[.int .i64 64, .int .i64 (8 + j % 21), .int .i64 (1 + i % 26)]
  have cF := bF.cells
  have lF := bF.lt
  refine bodyPost_ret (v := .agg #[.int .i64 64, .int .i64 (8 + j % 21), .int .i64 (1 + i % 26)]) (by simp [results, Tryz.results10, go_sem, cF]) rfl ?_
  exact ⟨rfl, (Below.refl _ _).alloc (Nat.le_refl _) _⟩

set_option maxRecDepth 100000 in
set_option maxHeartbeats 2000000 in
theorem wrapped_any (n m : Int) (_hn : -9223372036854775808 ≤ n ∧ n ≤ 9223372036854775807) (hm : 1 ≤ m ∧ m ≤ 1000000) (w : World) :
    Calls Tryz.prog 25 #[.int .i64 n, .int .i64 m] w fun e w' => e = .returned (.int .i64 (n % m)) ∧ w' = w := by
  have h1 : ¬ m < 1 := by omega
  have h0 : m ≠ 0 := by omega
  have hlt : n.tmod m < m := Int.tmod_lt_of_pos _ (by omega)
  have hgt : -m < n.tmod m := by have := Int.lt_tmod_of_pos n (b := m) (by omega); omega
  have hw : IntKind.i64.wrap (n.tmod m) = n.tmod m := by rw [IntKind.wrap_i64]; omega
  have he : n.tmod m = n % m - ((if 0 ≤ n ∨ m ∣ n then 0 else m.natAbs : Nat) : Int) := Int.tmod_eq_emod
  have hem : 0 ≤ n % m ∧ n % m < m := ⟨Int.emod_nonneg _ h0, Int.emod_lt_of_pos _ (by omega)⟩
  by_cases hs : n.tmod m < 0
  · have hr : n.tmod m + m = n % m := by
      split at he
      · omega
      · rw [he]; omega
    have HR := Lib.hid hr
    have hw2 : IntKind.i64.wrap (n.tmod m + m) = n.tmod m + m := by rw [IntKind.wrap_i64]; omega
    clear he hr hem
    go_enter Tryz.func25, Tryz.ntmps25
    go_wp2_with fail
    go_ret
    exact ⟨by rw [← HR.out]; rfl, rfl⟩
  · have hr : n.tmod m = n % m := by
      split at he
      · omega
      · rw [he] at hs; omega
    have HR := Lib.hid hr
    clear he hr hem
    go_enter Tryz.func25, Tryz.ntmps25
    go_wp2_with fail
    go_ret
    exact ⟨by rw [← HR.out]; rfl, rfl⟩

/-! The parts of cut. -/
def pieceAt (s : ByteArray) (n k : Nat) : ByteArray := s.extract (n * k) (n * k + n)
def restN (s : ByteArray) (n k : Nat) : ByteArray := s.extract (n * k) s.size
def piecesL (s : ByteArray) (n k : Nat) : List ByteArray := (List.range k).map (pieceAt s n)
/-- What cut hands back: pieces, and the rest, which is no longer than a piece. -/
def CutPost (s : ByteArray) (n : Nat) (w : World) (e : Ending) (w' : World) : Prop :=
  Below w.heap.size w w' ∧ ∃ k v, e = .returned v ∧ n * k ≤ s.size ∧ (restN s n k).size ≤ n ∧ (k = 0 ∨ 0 < (restN s n k).size) ∧ w'.ownsRow w.heap.size 9 1 v (k + 1) ((piecesL s n k ++ [restN s n k]).map .string)

end Go.Proofs.YtljmdcegcckblaaGreatDoor
