/- Parts of the proof, put together by program: ZD, IH, IQ. -/
import Derived.Test.YtljmdcegcckblaaGreatDoorQuart40
/- Layer 12: Cut. -/
namespace Go.Proofs.YtljmdcegcckblaaGreatDoor
open Go.RowKit Go.Maps

theorem Tryz.infoU8 : (Tryz.prog.info? 5).map (fun i => (i.zero, i.size, i.bytes)) = some (some (.int .u8 0), 1, 1) := by kernel_rfl
theorem make_bytes (n : Nat) (hn : n ≤ 100000) (w : World) : (Instr.makeSlice 50 (.int .i64 n) (.int .i64 n)).run Tryz.prog w = .ok (.slice (some ⟨w.heap.size, 0, none⟩) n n) (w.alloc (.cells (fill (.int .u8 0) n) 5)) := by
  obtain ⟨i0, hi, hz0, hz1, hz2⟩ := info_parts Tryz.infoU8
  have := run_make (P := Tryz.prog) w 50 5 i0 (.int .u8 0) Tryz.underlying50 hi hz0 .i64 .i64 n n (by omega) (Int.le_refl _) (by rw [hz2]; omega) (by omega)
  rw [this, hz1]; simp [fill, Value.cells]
def zerosB (n : Nat) : ByteArray := strOfNums (List.replicate n 0)
theorem conv_zeros {A : Option Addr} (n : Nat) (w : World) (hR : Reads w A ((List.replicate n (0 : Int)).map (.int .u8))) (c : Nat) : (convert 50 9 (.slice A n c)).run Tryz.prog w = .ok (.string (zerosB n)) w :=
  conv_bytes A n c (List.replicate n 0) (by simp) w hR
theorem reads_fill (w : World) (n : Nat) : Reads (w.alloc (.cells (fill (.int .u8 0) n) 5)) (some ⟨w.heap.size, 0, none⟩) ((List.replicate n (0 : Int)).map (.int .u8)) := by
  rw [← bytesV_rep]
  exact reads_bytes (Blk.new w 5 (bytesV (List.replicate n 0)))
theorem zerosB_size (n : Nat) : (zerosB n).size = n := by unfold zerosB; rw [strOfNums_size, List.length_replicate]

def dcBad (to_ : Int) : Bool := decide (to_ < 0) || decide (768 < to_)
def dcText (o : ByteArray) (to_ size : Int) : ByteArray := (o ++ zerosB (max (to_ - size) 0).toNat).extract 0 to_.toNat
def TxS.dcut (y : TxS) (x : DevS) (kd : Int) (l : List Int) (size to_ : Int) : Int × TxS × List Int :=
  if sizedE y l size (dcBad to_) false ≠ 0 then (sizedE y l size (dcBad to_) false, y, [])
  else if (y.text x kd l size 0 size).2 ≠ 0 then ((y.text x kd l size 0 size).2, y, [])
  else y.store x kd l (cutsL (dcText (y.text x kd l size 0 size).1 to_ size))
def DcPost (w : World) (T : Nat) (F : List Nat) (D : Nat) (B : List Nat) (x : DevS) (r : Int × TxS × List Int) (e : Ending) (w' : World) : Prop :=
  ∃ v, e = .returned (.tuple #[v, .int .i64 r.1]) ∧ DwDid w T F D B x r.2.1 r.2.2 v w'

set_option maxRecDepth 100000 in
set_option maxHeartbeats 8000000 in
theorem dcut_tx (T : Nat) (F : List Nat) (D : Nat) (y : TxS) (B : List Nat) (x : DevS) (kd : Int) (A : Option Addr) (c : Nat) (l : List Int) (hl : l.length ≤ 1000) (size to_ : Int) (hsz : -9223372036854775808 ≤ size ∧ size ≤ 9223372036854775807) (w : World) (h : TD w T F D y B x) (hA : SlI w A c l) :
    Calls Tryz.prog 33 #[.pointer (some ⟨T, 0, none⟩), .int .i64 kd, .slice A l.length c, .int .i64 size, .int .i64 to_] w (DcPost w T F D B x (y.dcut x kd l size to_)) := by
  have hq : (decide (to_ < 0) = true ∧ dcBad to_ = true) ∨ (decide (to_ < 0) = false ∧ decide (768 < to_) = true ∧ dcBad to_ = true) ∨ (decide (to_ < 0) = false ∧ decide (768 < to_) = false ∧ dcBad to_ = false) := by
    unfold dcBad
    cases h1 : decide (to_ < 0)
    · cases h2 : decide (768 < to_)
      · exact .inr (.inr ⟨rfl, rfl, rfl⟩)
      · exact .inr (.inl ⟨rfl, rfl, rfl⟩)
    · exact .inl ⟨rfl, rfl⟩
  have HR : Hid (y.dcut x kd l size to_ = (if sizedE y l size (dcBad to_) false ≠ 0 then (sizedE y l size (dcBad to_) false, y, [])
  else if (y.text x kd l size 0 size).2 ≠ 0 then ((y.text x kd l size 0 size).2, y, [])
  else y.store x kd l (cutsL (dcText (y.text x kd l size 0 size).1 to_ size)) : Int × TxS × List Int)) := Lib.hid rfl
  have HSD := Lib.hid (sized_tx T F D y kd A c l hl size (dcBad to_) false hsz w h.tx hA)
  have HB : Hid (dcBad to_ = false → 0 ≤ to_ ∧ to_ ≤ 768) := Lib.hid fun e => by
    have := (Bool.or_eq_false_iff.1 e)
    have h1 := of_decide_eq_false this.1
    have h2 := of_decide_eq_false this.2
    omega
  generalize dcBad to_ = bad at *
  have HH := Lib.hid h
  clear h
  go_enter Tryz.func33, Tryz.ntmps33
  rcases hq with ⟨h1, rfl⟩ | ⟨h1, h2, rfl⟩ | ⟨h1, h2, rfl⟩
  all_goals
    go_wp2_with fail
    refine HSD.out.mono ?_
    rintro e w1 ⟨hb1, hpost⟩
    rcases hpost with ⟨hne, cs, hcs, rfl⟩ | ⟨hz, v, rfl, hov⟩
  rotate_left
  · exact absurd (sizedE_zero hz).2.2.2.1 (by decide)
  rotate_left
  · exact absurd (sizedE_zero hz).2.2.2.1 (by decide)
  rotate_left
  focus
    obtain ⟨a3, c3, rfl⟩ := own_slice hov
    obtain ⟨hz1, hz2, hz3, -, -, hz4⟩ := sizedE_zero hz
    obtain ⟨ho1, ho2⟩ := HB.out (by trivial)
    have hl8 : l.length ≤ 8 := by omega
    obtain ⟨w2, hw2⟩ : ∃ w2, w2 = w1.alloc (.cells (lsC T y.s y.j y.i kd (.slice a3 l.length c3)) 96) := ⟨_, rfl⟩
    have bL2 : Blk w2 w1.heap.size 96 (lsC T y.s y.j y.i kd (.slice a3 l.length c3)) := by rw [hw2]; exact Blk.new _ _ _
    have B2 : Below w.heap.size w w2 := by rw [hw2]; exact hb1.alloc hb1.size _
    have ho2' : w2.ownsRow w.heap.size 3 1 (.slice a3 l.length c3) l.length (l.map (.int .i64)) := by rw [hw2]; exact own_below (W := w1) hov ((Below.refl _ _).alloc (Nat.le_refl _) _)
    have hnL : ∀ a, a3 = some a → a.block ≠ w1.heap.size := fun a e => by subst e; have := (own_lt hov a.block rfl).2; omega
    have htd2 := HH.out.below B2
    have z1 : w.heap.size ≤ w1.heap.size := hb1.size
    have HW2 := Lib.hid hw2
    rw [if_neg (by simpa using hz)] at HR
    have HZ := Lib.hid hz
    have htx := text_ls w1.heap.size T F D y B x kd a3 c3 l hl8 size 0 size ⟨hz2, hz3⟩ ⟨by omega, by omega, by omega⟩ w2 htd2.tx htd2.dev bL2 (Reads.of_own ho2')
    clear hz hw2 hov hb1
    go_wp2_with fail
    rw [← HW2.out]
    refine htx.mono ?_
    rintro e w3 ⟨rfl, hb3⟩
    have B3 : Below w.heap.size w w3 := B2.trans (hb3.mono B2.size)
    have bL3 := bL2.belowAll hb3
    have ho3 := own_below ho2' hb3
    have HFL := Lib.hid (text_full (y := y) (x := x) (kd := kd) (l := l) hz2 hz4)
    clear htx bL2 ho2' htd2 hb3 B2
    generalize y.text x kd l size 0 size = R at *
    obtain ⟨o, E⟩ := R
    simp only at HR HFL ⊢
    by_cases hE : E = 0
    rotate_left
    · have HX : Hid (y.dcut x kd l size to_ = (E, y, [])) := Lib.hid (by rw [HR.out, if_pos hE])
      have hE' : (E != 0) = true := by simpa using hE
      clear hE HR
      go_wp2_with fail
      go_ret2
      exact ⟨_, by rw [HX.out]; rfl, by rw [HX.out]; exact ⟨World.ownsRow_nil _ _ _ _, F, HH.out.below B3, Grow.of_below B3 F, fun q hq => by cases hq⟩⟩
    subst hE
    have hos : (o.size : Int) = size := HFL.out rfl
    obtain ⟨tn, htn⟩ : ∃ tn : Nat, to_ = tn := ⟨to_.toNat, by omega⟩
    subst htn
    subst hos
    obtain ⟨nz, hnz⟩ : ∃ nz : Nat, max ((tn : Int) - o.size) 0 = nz := ⟨_, (Int.toNat_of_nonneg (by omega)).symm⟩
    have ht768 : tn ≤ 768 := by omega
    have hno : tn ≤ o.size + nz := by omega
    have hnz2 : nz ≤ 768 := by omega
    have hos8 : o.size ≤ 768 := by omega
    have HT : Hid (dcText o tn o.size = (o ++ zerosB nz).extract 0 tn) := Lib.hid (by unfold dcText; rw [hnz]; rfl)
    have hmk := make_bytes nz (by omega) w3
    have hcv := conv_zeros nz (w3.alloc (.cells (fill (.int .u8 0) nz) 5)) (reads_fill w3 nz) nz
    have hzs := zerosB_size nz
    have hcat : ¬ 9223372036854775807 < o.size + nz := by omega
    go_wp2_with fail
    rw [← HT.out]
    have HDS : Hid ((dcText o tn o.size).size ≤ 2000) := Lib.hid (by rw [HT.out]; simp only [ByteArray.size_extract]; omega)
    generalize dcText o tn o.size = t at *
    have bL4 := bL3.alloc (.cells (fill (.int .u8 0) nz) 5)
    have B4 : Below w.heap.size w (w3.alloc (.cells (fill (.int .u8 0) nz) 5)) := B3.alloc B3.size _
    have ho4 := own_below (W := w3) ho3 ((Below.refl _ _).alloc (Nat.le_refl _) (.cells (fill (.int .u8 0) nz) 5))
    generalize w3.alloc (.cells (fill (.int .u8 0) nz) 5) = w4 at *
    rw [if_neg (by simp)] at HR
    clear bL3 B3 ho3 hmk hcv hzs hcat HT hnz
    go_wp2_with fail
    refine (cuts_any t w4).mono ?_
    rintro e w5 ⟨rfl, hw5⟩
    have b5 : Blk w5 w4.heap.size 9 #[.string t] := by rw [hw5]; exact Blk.new _ _ _
    have B45 : Below w4.heap.size w4 w5 := by rw [hw5]; exact (Below.refl _ _).alloc (Nat.le_refl _) _
    clear hw5
    go_wp2_with fail
    refine (collect_cuts w4.heap.size t (by have := HDS.out; omega) w5 b5).mono ?_
    rintro e w6 ⟨v6, rfl, ho6, -, hk6⟩
    obtain ⟨P, pc, rfl⟩ := own_slice ho6
    have B46 : Below w4.heap.size w4 w6 := B45.trans (hk6.toBelow B45.size (by simp))
    obtain ⟨hS, hPl⟩ := StoreAt.mk0 (pc := pc) (ps := cutsL t) HH.out B4 bL4 z1 ho4 hnL B46 (own_base ho6 B45.size)
    have B6 : Below w.heap.size w w6 := B4.trans (B46.mono B4.size)
    have hw0 : 0 < w.heap.size := HH.out.dev.half.1
    have hst := store_ls w1.heap.size T w.heap.size F D y B x kd a3 c3 l P pc (cutsL t) hl (by rw [cutsL_length]; unfold nCuts; have := HDS.out; omega) (fun p hp => by have := cutsL_size t p hp; omega) hw0 (fun b hb => (HH.out.tx.lt b hb).2) (fun b hb => (HH.out.dev.lt b hb).2) w6 hS hPl
    clear hk6 ho6 b5 B45 B46 hS hPl ho4 bL4 B4
    go_wp2_with fail
    refine hst.mono ?_
    rintro e w7 ⟨v7, rfl, ho7, F7, ht7, g7, f7⟩
    have hfin := StoreDid.done B6 ho7 ht7 g7 f7
    clear hst ho7 ht7 g7 f7
    generalize y.store x kd l (cutsL t) = R at *
    obtain ⟨E, z, L⟩ := R
    simp only at HR hfin ⊢
    go_wp2_with fail
    go_ret2
    exact ⟨_, by rw [HR.out]; rfl, by rw [HR.out]; exact hfin⟩
  all_goals
    have HW0 := HH.out
    generalize sizedE y l size _ false = E at *
    have HX : Hid (y.dcut x kd l size to_ = (E, y, [])) := Lib.hid (by rw [HR.out, if_pos hne])
    have hE' : (E != 0) = true := by simpa using hne
    clear hne HR
    rcases hcs with rfl | ⟨A', c', rfl⟩
    all_goals
      go_wp2_with fail
      go_ret2
      have B3 := hb1.alloc hb1.size
      exact ⟨_, by rw [HX.out]; rfl, by rw [HX.out]; exact ⟨World.ownsRow_nil _ _ _ _, F, HW0.below (B3 _), Grow.of_below (B3 _) F, fun q hq => by cases hq⟩⟩

end Go.Proofs.YtljmdcegcckblaaGreatDoor
/- Layer 12: Load. -/
namespace Go.Proofs.YtljmdcegcckblaaGreatDoor
open Go.RowKit Go.Maps

/-- The parts that the first k blocks hold. -/
def loadK (y : TxS) (x : DevS) (kd : Int) (l : List Int) : Nat → List ByteArray × Int
  | 0 => ([], 0)
  | k + 1 =>
    if (loadK y x kd l k).2 ≠ 0 then loadK y x kd l k
    else if (y.part x kd (l.getD k 0)).2 ≠ 0 then ([], (y.part x kd (l.getD k 0)).2)
    else ((loadK y x kd l k).1 ++ [(y.part x kd (l.getD k 0)).1], 0)
def TxS.dload (y : TxS) (x : DevS) (kd : Int) (l : List Int) : List ByteArray × Int := if dopenE y l ≠ 0 then ([], dopenE y l) else loadK y x kd l l.length
theorem loadK_length {y : TxS} {x : DevS} {kd : Int} {l : List Int} {k : Nat} (h : (loadK y x kd l k).2 = 0) : (loadK y x kd l k).1.length = k := by
  induction k with
  | zero => rfl
  | succ k ih =>
    by_cases h1 : (loadK y x kd l k).2 = 0
    · have e : loadK y x kd l (k + 1) = if (y.part x kd (l.getD k 0)).2 ≠ 0 then ([], (y.part x kd (l.getD k 0)).2) else ((loadK y x kd l k).1 ++ [(y.part x kd (l.getD k 0)).1], 0) := by
        show (if (loadK y x kd l k).2 ≠ 0 then loadK y x kd l k else _) = _
        rw [if_neg (by simpa using h1)]
      rw [e] at h ⊢
      split at h
      · rename_i h2; exact absurd h h2
      · rename_i h2
        rw [if_neg h2]; simp [ih h1]
    · have e : loadK y x kd l (k + 1) = loadK y x kd l k := by
        show (if (loadK y x kd l k).2 ≠ 0 then loadK y x kd l k else _) = _
        rw [if_pos h1]
      rw [e] at h; exact absurd h h1
theorem loadK_stay {y : TxS} {x : DevS} {kd : Int} {l : List Int} {k m : Nat} (h : (loadK y x kd l k).2 ≠ 0) (hm : k ≤ m) : loadK y x kd l m = loadK y x kd l k := by
  induction m with
  | zero => obtain rfl : k = 0 := by omega
            rfl
  | succ m ih =>
    by_cases e : k = m + 1
    · rw [e]
    · have ih := ih (by omega)
      have h2 : (loadK y x kd l m).2 ≠ 0 := by rw [ih]; exact h
      show (if (loadK y x kd l m).2 ≠ 0 then loadK y x kd l m else _) = _
      rw [if_pos h2]; exact ih

def LoadPost (w : World) (r : List ByteArray × Int) (e : Ending) (w' : World) : Prop :=
  Below w.heap.size w w' ∧ ∃ v, e = .returned (.tuple #[v, .int .i64 r.2]) ∧ w'.ownsRow w.heap.size 9 1 v r.1.length (r.1.map .string)

set_option maxRecDepth 100000 in
set_option maxHeartbeats 4000000 in
theorem dload_tx (T : Nat) (F : List Nat) (D : Nat) (y : TxS) (B : List Nat) (x : DevS) (kd : Int) (A : Option Addr) (c : Nat) (l : List Int) (hl : l.length ≤ 1000) (w : World) (h : TxAt w T F D y) (hd : DevAt w D B x) (hA : SlI w A c l) :
    Calls Tryz.prog 23 #[.pointer (some ⟨T, 0, none⟩), .int .i64 kd, .slice A l.length c] w (LoadPost w (y.dload x kd l)) := by
  have hop := dopen_tx T F D y kd A c l hl w h hA
  obtain ⟨i0, hi, hz0, hzs, hzb⟩ := info_parts Tryz.infoStr
  have HHI := Lib.hid hi
  clear hi hA
  unfold LoadPost
  go_enter Tryz.func23, Tryz.ntmps23
  go_wp2_with fail
  refine hop.mono ?_
  rintro e w1 ⟨hb1, ⟨hE, rfl⟩ | ⟨hE, v, rfl, ho⟩⟩
  · have HX : Hid (y.dload x kd l = ([], dopenE y l)) := Lib.hid (by unfold TxS.dload; rw [if_pos hE])
    have hq : (dopenE y l != 0) = true := by simpa using hE
    clear hop hE
    go_wp2_with fail
    go_ret2
    rw [HX.out]
    exact ⟨hb1.alloc hb1.size _, _, rfl, World.ownsRow_nil _ _ _ _⟩
  · have HX : Hid (y.dload x kd l = loadK y x kd l l.length) := Lib.hid (by unfold TxS.dload; rw [if_neg (by simpa using hE)])
    have hl8 : l.length ≤ 8 := by
      have hs := dopenE_state hE
      unfold dopenE at hE
      rw [if_neg (by simpa using hs)] at hE
      by_cases h8 : 8 < l.length
      · rw [if_pos h8] at hE; exact absurd hE (by decide)
      · omega
    obtain ⟨a3, c3, rfl⟩ := own_slice ho
    obtain ⟨w2, hw2⟩ : ∃ w2, w2 = w1.alloc (.cells (lsC T y.s y.j y.i kd (.slice a3 l.length c3)) 96) := ⟨_, rfl⟩
    have bL2 : Blk w2 w1.heap.size 96 (lsC T y.s y.j y.i kd (.slice a3 l.length c3)) := by rw [hw2]; exact Blk.new _ _ _
    have B2 : Below w.heap.size w w2 := by rw [hw2]; exact hb1.alloc hb1.size _
    have hR2 : Reads w2 a3 (l.map (.int .i64)) := by rw [hw2]; exact (Reads.of_own ho).alloc _
    have h2 := h.below B2
    have hd2 := hd.below B2
    have HW2 := Lib.hid hw2
    have c5 : w2.cell? ⟨w1.heap.size, 5, none⟩ = some (.slice a3 l.length c3) := (bL2.cells 5).trans rfl
    have lL := bL2.lt
    rw [hw2] at c5 lL
    clear hop hE hw2 ho hb1 h hd
    go_wp2_with fail
    rw [← HW2.out]
    clear c5 lL
    go_loopw [10, 27] (fun o q wr => ∃ k : Nat, k ≤ l.length ∧ q = .int .i64 k ∧ (loadK y x kd l k).2 = 0 ∧ wr.ownsRow w2.heap.size 9 1 o k ((loadK y x kd l k).1.map .string) ∧ Below w2.heap.size w2 wr) (fun _ q _ => l.length - (RowKit.intOf q).toNat)
    case atStart => exact ⟨0, Nat.zero_le _, rfl, rfl, World.ownsRow_nil _ _ _ _, Below.refl _ _⟩
    case round =>
      obtain ⟨k, hk, rfl, h0, hown, hb⟩ := hrel
      have hwz : w.heap.size ≤ w2.heap.size := B2.size
      have hbz := hb.size
      by_cases hlt : k < l.length
      · obtain ⟨v, hv⟩ : ∃ v, l[k]? = some v := ⟨_, List.getElem?_eq_getElem hlt⟩
        have hgd : l.getD k 0 = v := by rw [List.getD_eq_getElem?_getD, hv]; rfl
        have hst : loadK y x kd l (k + 1) = if (y.part x kd v).2 ≠ 0 then ([], (y.part x kd v).2) else ((loadK y x kd l k).1 ++ [(y.part x kd v).1], 0) := by
          show (if (loadK y x kd l k).2 ≠ 0 then loadK y x kd l k else _) = _
          rw [if_neg (by simpa using h0), hgd]
        have hpt := part_ls w1.heap.size T F D y B x kd a3 c3 l k v hv hl wr (h2.below hb) (hd2.below hb) (bL2.belowAll hb) (hR2.below hb)
        have HST := Lib.hid hst
        have HSY : Hid ((loadK y x kd l (k + 1)).2 ≠ 0 → y.dload x kd l = loadK y x kd l (k + 1)) := Lib.hid fun hne => by rw [HX.out]; exact loadK_stay hne (by omega)
        have HHD := Lib.hid (And.intro h2 (And.intro hd2 (And.intro bL2 (And.intro hR2 (And.intro hv h0)))))
        obtain ⟨av, cv, rfl⟩ := own_slice hown
        clear hst hgd h2 hd2 bL2 hR2 hv h0
        go_wp2_with fail
        refine hpt.mono ?_
        rintro e w3 ⟨rfl, hb3⟩
        have B3 := hb.trans (hb3.mono hb.size)
        have hown3 := own_below hown hb3
        clear hpt
        generalize y.part x kd v = P at *
        obtain ⟨pd, pe⟩ := P
        simp only at HST ⊢
        by_cases he : pe = 0
        rotate_left
        · have HX2 : Hid (y.dload x kd l = ([], pe)) := Lib.hid (by
            have e1 : loadK y x kd l (k + 1) = ([], pe) := by rw [HST.out, if_pos he]
            rw [HSY.out (by rw [e1]; exact he), e1])
          have hq2 : (pe != 0) = true := by simpa using he
          clear he
          go_wp2_with fail
          go_ret2
          rw [HX2.out]
          exact ⟨B2.trans (B3.mono B2.size), _, rfl, World.ownsRow_nil _ _ _ _⟩
        subst he
        have HX2 : Hid (loadK y x kd l (k + 1) = ((loadK y x kd l k).1 ++ [pd], 0)) := Lib.hid (by rw [HST.out, if_neg (by decide)])
        have hi := HHI.out
        have hz3 : w2.heap.size ≤ w3.heap.size := B3.size
        go_wp2_with (at_builtin; refine wpList_append_own _ rfl _ _ 42 rfl w2.heap.size 9 i0 (.string ⟨#[]⟩) 1 16 Tryz.underlying42 hi hz0 hzs hzb rfl (by decide) _ _ _ rfl (hown3.alloc _) ⟨w3.heap.size, 0, none⟩ 1 1 [.string pd] rfl rfl (cell_one_new _ _ _) (by simp [Value.oneCell']) (by simp only [maxLen]; omega) (by omega) (by simp; omega) ?_; intro v' w4 hown' hgrow _; obtain ⟨g', cap', rfl, _, _⟩ := own_form hown' (by omega))
        have hnx4 : Below w2.heap.size w2 w4 := (B3.alloc B3.size _).grown hgrow (by simp; have := B3.size; omega) (fun q hq => by have := (hown3.lt q hq).1; exact this)
        go_wp2_with fail
        go_roundw
        case rel => exact ⟨k + 1, by omega, by go_num, by rw [HX2.out], by rw [HX2.out, List.map_append]; simpa using hown', hnx4⟩
        case measure => simp [RowKit.intOf]; omega
      · obtain rfl : k = l.length := by omega
        have HX2 : Hid (y.dload x kd l = ((loadK y x kd l l.length).1, 0)) := Lib.hid (by rw [HX.out]; exact Prod.ext rfl h0)
        have HLN := Lib.hid (loadK_length h0)
        have B4 := B2.trans (hb.mono B2.size)
        have HOW := Lib.hid hown
        obtain ⟨av, cv, rfl⟩ := own_slice hown
        clear h0 hown
        go_wp2_with fail
        go_ret2
        rw [HX2.out]
        exact ⟨B4, _, rfl, by simp only [HLN.out]; exact own_base HOW.out B2.size⟩

end Go.Proofs.YtljmdcegcckblaaGreatDoor
/- Layer 12: Store. -/
namespace Go.Proofs.YtljmdcegcckblaaGreatDoor
open Go.RowKit Go.Maps

def longs (ps : List ByteArray) : Bool := ps.any fun p => decide (96 < p.size)

set_option maxRecDepth 100000 in
set_option maxHeartbeats 1000000 in
theorem indexLong_any (P : Option Addr) (c : Nat) (ps : List ByteArray) (hl : ps.length ≤ 1000) (w : World) (hR : Reads w P (ps.map .string)) :
    Calls Tryz.prog 90 #[.slice P ps.length c, .func (.func 57) #[] #[]] w fun e w' => w' = w ∧ ∃ r : Int, e = .returned (.int .i64 r) ∧ decide (0 ≤ r) = longs ps := by
  go_enter Tryz.func90, Tryz.ntmps90
  go_wp2_with fail
  go_loopw [5, 8] (fun _ q wr => ∃ k : Nat, k ≤ ps.length ∧ q = .int .i64 k ∧ longs (ps.take k) = false ∧ wr = w) (fun _ q _ => ps.length - (RowKit.intOf q).toNat)
  case atStart => exact ⟨0, Nat.zero_le _, rfl, rfl, rfl⟩
  case round =>
    obtain ⟨k, hk, rfl, hno, rfl⟩ := hrel
    by_cases hlt : k < ps.length
    · obtain ⟨b, off, rfl, hb, hc⟩ := hR.at_ (k := k) (by simpa using hlt)
      rw [List.getElem_map] at hc
      have hst : longs (ps.take (k + 1)) = decide (96 < ps[k].size) := by
        rw [List.take_succ_eq_append_getElem hlt]
        unfold longs at hno ⊢
        rw [List.any_append, hno]; simp
      have hall : decide (96 < ps[k].size) = true → longs ps = true := fun h => by
        unfold longs
        exact List.any_eq_true.2 ⟨ps[k], List.getElem_mem hlt, h⟩
      have HST := Lib.hid hst
      have HALL := Lib.hid hall
      clear hst hall hno
      generalize ps[k] = x at hc HST HALL
      by_cases hu : 96 < x.size
      · have hd : (96 : Int) < (x.size : Int) := by omega
        have HU : Hid (longs ps = true) := Lib.hid (HALL.out (decide_eq_true hu))
        clear hu
        go_wp2
        go_ret
        exact ⟨rfl, _, rfl, by rw [HU.out]; simp⟩
      · have hd : ¬ (96 : Int) < (x.size : Int) := by omega
        have HU : Hid (longs (ps.take (k + 1)) = false) := Lib.hid (by rw [HST.out]; exact decide_eq_false hu)
        clear hu
        go_wp2
        go_roundw
        case rel => exact ⟨k + 1, by omega, by go_num, HU.out, by trivial⟩
        case measure => simp [RowKit.intOf]; omega
    · obtain rfl : k = ps.length := by omega
      rw [List.take_length] at hno
      go_wp2_with fail
      go_ret
      exact ⟨rfl, _, rfl, by rw [hno]; rfl⟩

set_option maxHeartbeats 400000 in
theorem containsLong_any (P : Option Addr) (c : Nat) (ps : List ByteArray) (hl : ps.length ≤ 1000) (w : World) (hR : Reads w P (ps.map .string)) :
    Calls Tryz.prog 56 #[.slice P ps.length c, .func (.func 57) #[] #[]] w fun e w' => e = .returned (.bool (longs ps)) ∧ w' = w := by
  have h := indexLong_any P c ps hl w hR
  go_enter Tryz.func56, Tryz.ntmps56
  go_wp2_with fail
  refine h.mono ?_
  rintro e w1 ⟨rfl, r, rfl, hr⟩
  have HR := Lib.hid hr
  clear h hr
  go_wp2_with fail
  go_ret
  exact ⟨by rw [← HR.out]; rfl, rfl⟩

def TxS.dstore (y : TxS) (x : DevS) (kd : Int) (l : List Int) (ps : List ByteArray) : Int × TxS × List Int :=
  if dopenE y l ≠ 0 then (dopenE y l, y, []) else if 8 < ps.length ∨ longs ps = true then (3, y, []) else y.store x kd l ps

theorem StoreAt.mk1 {w w2 : World} {Lb T : Nat} {F : List Nat} {D : Nat} {y : TxS} {B : List Nat} {x : DevS} {kd : Int} {a3 : Option Addr} {c3 : Nat} {l : List Int} {P : Option Addr} {ps : List ByteArray} (h : TD w T F D y B x) (B2 : Below w.heap.size w w2)
    (bl : Blk w2 Lb 96 (lsC T y.s y.j y.i kd (.slice a3 l.length c3))) (hLb : w.heap.size ≤ Lb) (ho : w2.ownsRow w.heap.size 3 1 (.slice a3 l.length c3) l.length (l.map (.int .i64))) (hne : ∀ a, a3 = some a → a.block ≠ Lb)
    (hp : Reads w P (ps.map .string)) (hPF : ∀ a, P = some a → a.block ∉ F ∧ a.block < w.heap.size) :
    StoreAt w.heap.size w2 Lb T F D B x y.s y.j y.i kd a3 c3 l P ps F y w2 ∧ (∀ a, P = some a → a.block < w2.heap.size) := by
  have hF : ∀ b ∈ F, b < w.heap.size := fun b hb => (h.tx.lt b hb).2
  refine ⟨⟨h.below B2, GrowN.refl _ _ _, B2.size, ⟨rfl, rfl, rfl⟩, bl, ⟨hLb, fun hm => by have := hF _ hm; omega⟩, ho, fun a e => ⟨fun hm => ?_, hne a e⟩, hp.below B2, fun a e => ?_⟩, fun a e => ?_⟩
  · subst e
    have := (own_lt ho a.block rfl).1
    have := hF _ hm; omega
  · obtain ⟨h5, h6⟩ := hPF a e
    refine ⟨h5, by omega, fun a' e' => ?_⟩
    subst e'
    have := (own_lt ho a'.block rfl).1; omega
  · have := (hPF a e).2; have := B2.size; omega

set_option maxRecDepth 100000 in
set_option maxHeartbeats 4000000 in
theorem dstore_tx (T : Nat) (F : List Nat) (D : Nat) (y : TxS) (B : List Nat) (x : DevS) (kd : Int) (A : Option Addr) (c : Nat) (l : List Int) (hl : l.length ≤ 1000) (P : Option Addr) (pc : Nat) (ps : List ByteArray) (hm : ps.length ≤ 1000) (hps : ∀ p ∈ ps, p.size ≤ 1000000) (w : World) (h : TD w T F D y B x) (hA : SlI w A c l)
    (hp : Reads w P (ps.map .string)) (hPF : ∀ a, P = some a → a.block ∉ F ∧ a.block < w.heap.size) :
    Calls Tryz.prog 24 #[.pointer (some ⟨T, 0, none⟩), .int .i64 kd, .slice A l.length c, .slice P ps.length pc] w (DcPost w T F D B x (y.dstore x kd l ps)) := by
  have hop := dopen_tx T F D y kd A c l hl w h.tx hA
  have HR : Hid (y.dstore x kd l ps = if dopenE y l ≠ 0 then (dopenE y l, y, []) else if 8 < ps.length ∨ longs ps = true then (3, y, []) else y.store x kd l ps) := Lib.hid rfl
  have HH := Lib.hid h
  clear h hA
  unfold DcPost
  go_enter Tryz.func24, Tryz.ntmps24
  go_wp2_with fail
  refine hop.mono ?_
  clear hop
  rintro e w1 ⟨hb1, ⟨hE, rfl⟩ | ⟨hE, v, rfl, ho⟩⟩
  · have HX : Hid (y.dstore x kd l ps = (dopenE y l, y, [])) := Lib.hid (by rw [HR.out, if_pos hE])
    have hq : (dopenE y l != 0) = true := by simpa using hE
    clear hE
    go_wp2_with fail
    refine bodyPost_ret (v := .tuple #[.slice none 0 0, .int .i64 (dopenE y l)]) (by simp [results, Tryz.results24, go_sem]) rfl ?_
    have B3 := hb1.alloc hb1.size
    exact ⟨_, by rw [HX.out], by rw [HX.out]; exact ⟨World.ownsRow_nil _ _ _ _, F, HH.out.below (B3 _), Grow.of_below (B3 _) F, fun q hq => by cases hq⟩⟩
  · have HX : Hid (y.dstore x kd l ps = if 8 < ps.length ∨ longs ps = true then (3, y, []) else y.store x kd l ps) := Lib.hid (by rw [HR.out, if_neg (by simpa using hE)])
    obtain ⟨a3, c3, rfl⟩ := own_slice ho
    obtain ⟨w2, hw2⟩ : ∃ w2, w2 = w1.alloc (.cells (lsC T y.s y.j y.i kd (.slice a3 l.length c3)) 96) := ⟨_, rfl⟩
    have bL2 : Blk w2 w1.heap.size 96 (lsC T y.s y.j y.i kd (.slice a3 l.length c3)) := by rw [hw2]; exact Blk.new _ _ _
    have B2 : Below w.heap.size w w2 := by rw [hw2]; exact hb1.alloc hb1.size _
    have ho2 : w2.ownsRow w.heap.size 3 1 (.slice a3 l.length c3) l.length (l.map (.int .i64)) := by rw [hw2]; exact own_below (W := w1) ho ((Below.refl _ _).alloc (Nat.le_refl _) _)
    have hnL : ∀ a, a3 = some a → a.block ≠ w1.heap.size := fun a e => by subst e; have := (own_lt ho a.block rfl).2; omega
    obtain ⟨hS, hPl⟩ := StoreAt.mk1 HH.out B2 bL2 hb1.size ho2 hnL hp hPF
    have hw0 : 0 < w.heap.size := HH.out.dev.half.1
    have hst := store_ls w1.heap.size T w.heap.size F D y B x kd a3 c3 l P pc ps hl hm hps hw0 (fun b hb => (HH.out.tx.lt b hb).2) (fun b hb => (HH.out.dev.lt b hb).2) w2 hS hPl
    have hcl := containsLong_any P pc ps hm w2 (hp.below B2)
    have HW2 := Lib.hid hw2
    have HST := Lib.hid hst
    clear hE hw2 ho hb1 bL2 ho2 hS hPl hp hPF hst
    by_cases h8 : 8 < ps.length
    · have HY : Hid (y.dstore x kd l ps = (3, y, [])) := Lib.hid (by rw [HX.out, if_pos (.inl h8)])
      have hd : (8 : Int) < (ps.length : Int) := by omega
      clear h8
      go_wp2_with fail
      refine bodyPost_ret (v := .tuple #[.slice none 0 0, .int .i64 3]) (by simp [results, Tryz.results24, go_sem]) rfl ?_
      rw [← HW2.out]
      exact ⟨_, by rw [HY.out], by rw [HY.out]; exact ⟨World.ownsRow_nil _ _ _ _, F, HH.out.below B2, Grow.of_below B2 F, fun q hq => by cases hq⟩⟩
    · have hd : ¬ (8 : Int) < (ps.length : Int) := by omega
      have H8 := Lib.hid h8
      clear h8
      go_wp2_with fail
      rw [← HW2.out]
      refine hcl.mono ?_
      rintro e w3 ⟨rfl, rfl⟩
      cases hlo : longs ps
      · have HY : Hid (y.dstore x kd l ps = y.store x kd l ps) := Lib.hid (by rw [HX.out, if_neg (by rw [hlo]; simpa using H8.out)])
        go_wp2_with fail
        refine HST.out.mono ?_
        rintro e w7 ⟨v7, rfl, ho7, F7, ht7, g7, f7⟩
        have hfin := StoreDid.done B2 ho7 ht7 g7 f7
        clear ho7 ht7 g7 f7 hcl
        go_wp2_with fail
        refine bodyPost_ret (v := .tuple #[v7, .int .i64 (y.store x kd l ps).1]) (by simp [results, Tryz.results24, go_sem]) rfl ?_
        exact ⟨_, by rw [HY.out], by rw [HY.out]; exact hfin⟩
      · have HY : Hid (y.dstore x kd l ps = (3, y, [])) := Lib.hid (by rw [HX.out, if_pos (.inr hlo)])
        go_wp2_with fail
        refine bodyPost_ret (v := .tuple #[.slice none 0 0, .int .i64 3]) (by simp [results, Tryz.results24, go_sem]) rfl ?_
        exact ⟨_, by rw [HY.out], by rw [HY.out]; exact ⟨World.ownsRow_nil _ _ _ _, F, HH.out.below B2, Grow.of_below B2 F, fun q hq => by cases hq⟩⟩

end Go.Proofs.YtljmdcegcckblaaGreatDoor
