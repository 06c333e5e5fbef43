/- Layer 12: Cut. -/
import Derived.Test.YtfmobeeddlnhcaaGreatDoorPart39
namespace Go.Proofs.YtfmobeeddlnhcaaGreatDoor
open Go.RowKit Go.Maps

theorem Tryz.infoU8 : (Tryz.prog.info? 5).map (fun i => (i.zero, i.size, i.bytes)) = some (some (.int .u8 0), 1, 1) := by kernel_rfl
theorem make_bytes (n : Nat) (hn : n ≤ 100000) (w : World) : (Instr.makeSlice 54 (.int .i64 n) (.int .i64 n)).run Tryz.prog w = .ok (.slice (some ⟨w.heap.size, 0, none⟩) n n) (w.alloc (.cells (fill (.int .u8 0) n) 5)) := by
  obtain ⟨i0, hi, hz0, hz1, hz2⟩ := info_parts Tryz.infoU8
  have := run_make (P := Tryz.prog) w 54 5 i0 (.int .u8 0) Tryz.underlying54 hi hz0 .i64 .i64 n n (by omega) (Int.le_refl _) (by rw [hz2]; omega) (by omega)
  rw [this, hz1]; simp [fill, Value.cells]
def zerosB (n : Nat) : ByteArray := strOfNums (List.replicate n 0)
theorem conv_zeros {A : Option Addr} (n : Nat) (w : World) (hR : Reads w A ((List.replicate n (0 : Int)).map (.int .u8))) (c : Nat) : (convert 54 9 (.slice A n c)).run Tryz.prog w = .ok (.string (zerosB n)) w :=
  conv_bytes A n c (List.replicate n 0) (by simp) w hR
theorem reads_fill (w : World) (n : Nat) : Reads (w.alloc (.cells (fill (.int .u8 0) n) 5)) (some ⟨w.heap.size, 0, none⟩) ((List.replicate n (0 : Int)).map (.int .u8)) := by
  rw [← bytesV_rep]
  exact reads_bytes (Blk.new w 5 (bytesV (List.replicate n 0)))
theorem zerosB_size (n : Nat) : (zerosB n).size = n := by unfold zerosB; rw [strOfNums_size, List.length_replicate]

def dcBad (to_ : Int) : Bool := decide (to_ < 0) || decide (768 < to_)
def dcText (o : ByteArray) (to_ size : Int) : ByteArray := (o ++ zerosB (max (to_ - size) 0).toNat).extract 0 to_.toNat
def TxS.dcut (y : TxS) (x : DevS) (kd : Int) (l : List Int) (size to_ : Int) : Int × TxS × List Int :=
  if sizedE y l size (dcBad to_) false ≠ 0 then (sizedE y l size (dcBad to_) false, y, [])
  else if (y.text x kd l size 0 size).2 ≠ 0 then ((y.text x kd l size 0 size).2, y, [])
  else y.store x kd l (cutsL (dcText (y.text x kd l size 0 size).1 to_ size))
def DcPost (w : World) (T : Nat) (F : List Nat) (D : Nat) (B : List Nat) (x : DevS) (r : Int × TxS × List Int) (e : Ending) (w' : World) : Prop :=
  ∃ v, e = .returned (.tuple #[v, .int .i64 r.1]) ∧ DwDid w T F D B x r.2.1 r.2.2 v w'

set_option maxRecDepth 100000 in
set_option maxHeartbeats 8000000 in
theorem dcut_tx (T : Nat) (F : List Nat) (D : Nat) (y : TxS) (B : List Nat) (x : DevS) (kd : Int) (A : Option Addr) (c : Nat) (l : List Int) (hl : l.length ≤ 1000) (size to_ : Int) (hsz : -9223372036854775808 ≤ size ∧ size ≤ 9223372036854775807) (w : World) (h : TD w T F D y B x) (hA : SlI w A c l) :
    Calls Tryz.prog 42 #[.pointer (some ⟨T, 0, none⟩), .int .i64 kd, .slice A l.length c, .int .i64 size, .int .i64 to_] w (DcPost w T F D B x (y.dcut x kd l size to_)) := by
  have hq : (decide (to_ < 0) = true ∧ dcBad to_ = true) ∨ (decide (to_ < 0) = false ∧ decide (768 < to_) = true ∧ dcBad to_ = true) ∨ (decide (to_ < 0) = false ∧ decide (768 < to_) = false ∧ dcBad to_ = false) := by
    unfold dcBad
    cases h1 : decide (to_ < 0)
    · cases h2 : decide (768 < to_)
      · exact .inr (.inr ⟨rfl, rfl, rfl⟩)
      · exact .inr (.inl ⟨rfl, rfl, rfl⟩)
    · exact .inl ⟨rfl, rfl⟩
  have HR : Hid (y.dcut x kd l size to_ = (if sizedE y l size (dcBad to_) false ≠ 0 then (sizedE y l size (dcBad to_) false, y, [])
  else if (y.text x kd l size 0 size).2 ≠ 0 then ((y.text x kd l size 0 size).2, y, [])
  else y.store x kd l (cutsL (dcText (y.text x kd l size 0 size).1 to_ size)) : Int × TxS × List Int)) := Lib.hid rfl
  have HSD := Lib.hid (sized_tx T F D y kd A c l hl size (dcBad to_) false hsz w h.tx hA)
  have HB : Hid (dcBad to_ = false → 0 ≤ to_ ∧ to_ ≤ 768) := Lib.hid fun e => by
    have := (Bool.or_eq_false_iff.1 e)
    have h1 := of_decide_eq_false this.1
    have h2 := of_decide_eq_false this.2
    omega
  generalize dcBad to_ = bad at *
  have HH := Lib.hid h
  clear h
  go_enter Tryz.func42, Tryz.ntmps42
  rcases hq with ⟨h1, rfl⟩ | ⟨h1, h2, rfl⟩ | ⟨h1, h2, rfl⟩
  all_goals
    go_wp2_with fail
    refine HSD.out.mono ?_
    rintro e w1 ⟨hb1, hpost⟩
    rcases hpost with ⟨hne, cs, hcs, rfl⟩ | ⟨hz, v, rfl, hov⟩
  rotate_left
  · exact absurd (sizedE_zero hz).2.2.2.1 (by decide)
  rotate_left
  · exact absurd (sizedE_zero hz).2.2.2.1 (by decide)
  rotate_left
  focus
    obtain ⟨a3, c3, rfl⟩ := own_slice hov
    obtain ⟨hz1, hz2, hz3, -, -, hz4⟩ := sizedE_zero hz
    obtain ⟨ho1, ho2⟩ := HB.out (by trivial)
    have hl8 : l.length ≤ 8 := by omega
    obtain ⟨w2, hw2⟩ : ∃ w2, w2 = w1.alloc (.cells (lsC T y.s y.j y.i kd (.slice a3 l.length c3)) 117) := ⟨_, rfl⟩
    have bL2 : Blk w2 w1.heap.size 117 (lsC T y.s y.j y.i kd (.slice a3 l.length c3)) := by rw [hw2]; exact Blk.new _ _ _
    have B2 : Below w.heap.size w w2 := by rw [hw2]; exact hb1.alloc hb1.size _
    have ho2' : w2.ownsRow w.heap.size 3 1 (.slice a3 l.length c3) l.length (l.map (.int .i64)) := by rw [hw2]; exact own_below (W := w1) hov ((Below.refl _ _).alloc (Nat.le_refl _) _)
    have hnL : ∀ a, a3 = some a → a.block ≠ w1.heap.size := fun a e => by subst e; have := (own_lt hov a.block rfl).2; omega
    have htd2 := HH.out.below B2
    have z1 : w.heap.size ≤ w1.heap.size := hb1.size
    have HW2 := Lib.hid hw2
    rw [if_neg (by simpa using hz)] at HR
    have HZ := Lib.hid hz
    have htx := text_ls w1.heap.size T F D y B x kd a3 c3 l hl8 size 0 size ⟨hz2, hz3⟩ ⟨by omega, by omega, by omega⟩ w2 htd2.tx htd2.dev bL2 (Reads.of_own ho2')
    clear hz hw2 hov hb1
    go_wp2_with fail
    rw [← HW2.out]
    refine htx.mono ?_
    rintro e w3 ⟨rfl, hb3⟩
    have B3 : Below w.heap.size w w3 := B2.trans (hb3.mono B2.size)
    have bL3 := bL2.belowAll hb3
    have ho3 := own_below ho2' hb3
    have HFL := Lib.hid (text_full (y := y) (x := x) (kd := kd) (l := l) hz2 hz4)
    clear htx bL2 ho2' htd2 hb3 B2
    generalize y.text x kd l size 0 size = R at *
    obtain ⟨o, E⟩ := R
    simp only at HR HFL ⊢
    by_cases hE : E = 0
    rotate_left
    · have HX : Hid (y.dcut x kd l size to_ = (E, y, [])) := Lib.hid (by rw [HR.out, if_pos hE])
      have hE' : (E != 0) = true := by simpa using hE
      clear hE HR
      go_wp2_with fail
      go_ret2
      exact ⟨_, by rw [HX.out]; rfl, by rw [HX.out]; exact ⟨World.ownsRow_nil _ _ _ _, F, HH.out.below B3, Grow.of_below B3 F, fun q hq => by cases hq⟩⟩
    subst hE
    have hos : (o.size : Int) = size := HFL.out rfl
    obtain ⟨tn, htn⟩ : ∃ tn : Nat, to_ = tn := ⟨to_.toNat, by omega⟩
    subst htn
    subst hos
    obtain ⟨nz, hnz⟩ : ∃ nz : Nat, max ((tn : Int) - o.size) 0 = nz := ⟨_, (Int.toNat_of_nonneg (by omega)).symm⟩
    have ht768 : tn ≤ 768 := by omega
    have hno : tn ≤ o.size + nz := by omega
    have hnz2 : nz ≤ 768 := by omega
    have hos8 : o.size ≤ 768 := by omega
    have HT : Hid (dcText o tn o.size = (o ++ zerosB nz).extract 0 tn) := Lib.hid (by unfold dcText; rw [hnz]; rfl)
    have hmk := make_bytes nz (by omega) w3
    have hcv := conv_zeros nz (w3.alloc (.cells (fill (.int .u8 0) nz) 5)) (reads_fill w3 nz) nz
    have hzs := zerosB_size nz
    have hcat : ¬ 9223372036854775807 < o.size + nz := by omega
    go_wp2_with fail
    rw [← HT.out]
    have HDS : Hid ((dcText o tn o.size).size ≤ 2000) := Lib.hid (by rw [HT.out]; simp only [ByteArray.size_extract]; omega)
    generalize dcText o tn o.size = t at *
    have bL4 := bL3.alloc (.cells (fill (.int .u8 0) nz) 5)
    have B4 : Below w.heap.size w (w3.alloc (.cells (fill (.int .u8 0) nz) 5)) := B3.alloc B3.size _
    have ho4 := own_below (W := w3) ho3 ((Below.refl _ _).alloc (Nat.le_refl _) (.cells (fill (.int .u8 0) nz) 5))
    generalize w3.alloc (.cells (fill (.int .u8 0) nz) 5) = w4 at *
    rw [if_neg (by simp)] at HR
    clear bL3 B3 ho3 hmk hcv hzs hcat HT hnz
    go_wp2_with fail
    refine (cuts_any t w4).mono ?_
    rintro e w5 ⟨rfl, hw5⟩
    have b5 : Blk w5 w4.heap.size 9 #[.string t] := by rw [hw5]; exact Blk.new _ _ _
    have B45 : Below w4.heap.size w4 w5 := by rw [hw5]; exact (Below.refl _ _).alloc (Nat.le_refl _) _
    clear hw5
    go_wp2_with fail
    refine (collect_cuts w4.heap.size t (by have := HDS.out; omega) w5 b5).mono ?_
    rintro e w6 ⟨v6, rfl, ho6, -, hk6⟩
    obtain ⟨P, pc, rfl⟩ := own_slice ho6
    have B46 : Below w4.heap.size w4 w6 := B45.trans (hk6.toBelow B45.size (by simp))
    obtain ⟨hS, hPl⟩ := StoreAt.mk0 (pc := pc) (ps := cutsL t) HH.out B4 bL4 z1 ho4 hnL B46 (own_base ho6 B45.size)
    have B6 : Below w.heap.size w w6 := B4.trans (B46.mono B4.size)
    have hw0 : 0 < w.heap.size := HH.out.dev.half.1
    have hst := store_ls w1.heap.size T w.heap.size F D y B x kd a3 c3 l P pc (cutsL t) hl (by rw [cutsL_length]; unfold nCuts; have := HDS.out; omega) (fun p hp => by have := cutsL_size t p hp; omega) hw0 (fun b hb => (HH.out.tx.lt b hb).2) (fun b hb => (HH.out.dev.lt b hb).2) w6 hS hPl
    clear hk6 ho6 b5 B45 B46 hS hPl ho4 bL4 B4
    go_wp2_with fail
    refine hst.mono ?_
    rintro e w7 ⟨v7, rfl, ho7, F7, ht7, g7, f7⟩
    have hfin := StoreDid.done B6 ho7 ht7 g7 f7
    clear hst ho7 ht7 g7 f7
    generalize y.store x kd l (cutsL t) = R at *
    obtain ⟨E, z, L⟩ := R
    simp only at HR hfin ⊢
    go_wp2_with fail
    go_ret2
    exact ⟨_, by rw [HR.out]; rfl, by rw [HR.out]; exact hfin⟩
  all_goals
    have HW0 := HH.out
    generalize sizedE y l size _ false = E at *
    have HX : Hid (y.dcut x kd l size to_ = (E, y, [])) := Lib.hid (by rw [HR.out, if_pos hne])
    have hE' : (E != 0) = true := by simpa using hne
    clear hne HR
    rcases hcs with rfl | ⟨A', c', rfl⟩
    all_goals
      go_wp2_with fail
      go_ret2
      have B3 := hb1.alloc hb1.size
      exact ⟨_, by rw [HX.out]; rfl, by rw [HX.out]; exact ⟨World.ownsRow_nil _ _ _ _, F, HW0.below (B3 _), Grow.of_below (B3 _) F, fun q hq => by cases hq⟩⟩

end Go.Proofs.YtfmobeeddlnhcaaGreatDoor
