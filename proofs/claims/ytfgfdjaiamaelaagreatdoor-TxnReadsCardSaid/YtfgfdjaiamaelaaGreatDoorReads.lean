/- Parts of the proof, put together by program: TM, TO. -/
import Derived.Test.YtfgfdjaiamaelaaGreatDoorPart45
import Derived.Test.YtfgfdjaiamaelaaGreatDoorPart42
import Derived.Test.YtfgfdjaiamaelaaGreatDoorPart23
import Derived.Test.YtfgfdjaiamaelaaGreatDoorPart44
/- P10.8: TxnReads, walked. -/
namespace Go.Proofs.YtfgfdjaiamaelaaGreatDoor
open Go.RowKit Go.Maps

/-- A write as it lies in memory, and a list of them. -/
structure PutV where
  b : Int
  d : ByteArray
structure PutsV where
  A : Option Addr
  c : Nat
  l : List PutV
def putL (a : PutV) : List Value := [.int .u8 a.b, .string a.d]
def putsV (r : PutsV) : Value := .slice r.A r.l.length r.c
structure PutsOk (W : World) (r : PutsV) : Prop where
  rows : Reads W r.A (r.l.flatMap putL)
  put : ∀ a ∈ r.l, (0 ≤ a.b ∧ a.b ≤ 255) ∧ a.d.size ≤ maxLen
  len : r.l.length ≤ maxLen
theorem puts_at {w : World} {A : Option Addr} {xs : List PutV} (h : Reads w A (xs.flatMap putL)) {k : Nat} (hk : k < xs.length) :
    ∃ b off, A = some ⟨b, off, none⟩ ∧ b < w.heap.size ∧ w.cell? ⟨b, off + k * 2, none⟩ = some (.int .u8 xs[k].b) ∧ w.cell? ⟨b, off + k * 2 + 1, none⟩ = some (.string xs[k].d) := by
  have hg : ∀ j, j < 2 → (xs.flatMap putL)[k * 2 + j]? = (putL xs[k])[j]? := fun j hj => flat_get (f := putL) (m := 2) (fun _ _ => rfl) hj hk
  rcases h with h | ⟨b, off, hA, hlt, hc⟩
  · exfalso
    have := hg 0 (by omega)
    rw [h] at this
    simp [putL] at this
  · have g : ∀ j u, j < 2 → (putL xs[k])[j]? = some u → w.cell? ⟨b, off + k * 2 + j, none⟩ = some u := fun j u hj hu => by rw [Nat.add_assoc]; exact hc _ _ ((hg j hj).trans hu)
    exact ⟨b, off, hA, hlt, g 0 _ (by omega) rfl, g 1 _ (by omega) rfl⟩

def arr0 : Array Value := #[.string ⟨#[]⟩, .string ⟨#[]⟩, .string ⟨#[]⟩, .string ⟨#[]⟩, .string ⟨#[]⟩, .string ⟨#[]⟩]
theorem arr0_want : arr0 = wantArr (fun _ => none) := rfl
theorem wantArr_one (h : Nat → Option ByteArray) : (wantArr h).all (·.oneCell') = true := by simp [wantArr, Value.oneCell']
/-- All that was written is short. -/
def Short (f : Nat → Option ByteArray) : Prop := ∀ k d, f k = some d → d.size ≤ 1000
theorem Short.put {f : Nat → Option ByteArray} (h : Short f) (b : Nat) {d : ByteArray} (hd : d.size ≤ 1000) : Short (putAt f b d) := fun k e he => by
  unfold putAt at he
  split at he
  · cases he; exact hd
  · exact h k e he

theorem Play.farX {w0 w : World} {T : Nat} {F : List Nat} {D : Nat} {y : TxS} {B : List Nat} {x : DevS} (h : Play w0 w T F D y B x) {p : Addr} (hp : p.block ∉ F ++ B) (h00 : 0 < w0.heap.size) (h0 : w0.heap.size ≤ p.block) (u : Value) : Play w0 (w.setCell p u) T F D y B x :=
  ⟨h.td.set_ (fun hm => hp (List.mem_append_left _ hm)) (fun hm => hp (List.mem_append_right _ hm)) (by omega) u, h.bl.setCell h0 u, h.fl, h.bb⟩
theorem Play.rowX {w0 w : World} {T : Nat} {F : List Nat} {D : Nat} {y : TxS} {B : List Nat} {x : DevS} (h : Play w0 w T F D y B x) {g : Nat} (hp : g ∉ F ++ B) (h00 : 0 < w0.heap.size) (h0 : w0.heap.size ≤ g) (cs : Array Value) : Play w0 (w.setRow g cs) T F D y B x :=
  ⟨h.td.keep (fun b hb => setRow_other w g b cs (fun e => by
    subst e
    rcases hb with hb | hb | hb
    · exact hp (List.mem_append_left _ hb)
    · exact hp (List.mem_append_right _ hb)
    · omega)) (by simp), Below.setRow h.bl h0 _, h.fl, h.bb⟩

set_option maxRecDepth 100000 in
set_option maxHeartbeats 8000000 in
theorem txnReads_any (A : Option Addr) (c : Nat) (xs : List PutsV) (ab : Int) (_hab : 0 ≤ ab ∧ ab ≤ 255) (hl : xs.length ≤ maxLen) (w : World) (hok : ∀ r ∈ xs, PutsOk w r) (hH : HalfAt w) (hR : Reads w A (xs.map putsV)) :
    Calls Tryz.prog 4 #[.slice A xs.length c, .int .u8 ab] w fun e w' => e = .returned (.bool true) ∧ Below w.heap.size w w' := by
  have hbg := begun10_any w hH
  have hp0 := hH.1
  have HH := Lib.hid hH
  have HOK := Lib.hid hok
  have HR := Lib.hid hR
  unfold maxLen at hl
  clear hH hok hR
  go_enter Tryz.func4, Tryz.ntmps4
  go_wp2_with fail
  refine hbg.mono ?_
  rintro e w1 ⟨D, T, F1, B, x, rfl, hF, -, h1⟩
  have hL := hF.live
  have hDH := DevHolds.fresh hF
  clear hbg hF
  by_cases hlong : 4 < xs.length
  · have hd : decide ((4 : Int) < (xs.length : Int)) = true := decide_eq_true (by omega)
    have B1 := h1.bl
    have haw := awake10_any w1 (HH.out.below B1 hp0)
    clear h1
    go_wp2_with fail
    refine haw.mono ?_
    rintro e w2 ⟨rfl, hb2⟩
    go_wp2_with fail
    go_ret
    exact ⟨rfl, B1.trans (hb2.mono B1.size)⟩
  have hd : decide ((4 : Int) < (xs.length : Int)) = false := decide_eq_false (by omega)
  obtain ⟨w2, hw2⟩ : ∃ w2, w2 = w1.alloc (.cells arr0 49) := ⟨_, rfl⟩
  have b2 : Blk w2 w1.heap.size 49 (wantArr (fun _ => none)) := by rw [hw2]; exact Blk.new _ _ _
  have h2 := h1.below (w' := w2) (by rw [hw2]; exact (Below.refl _ _).alloc (Nat.le_refl _) _)
  have hN : w1.heap.size ∉ F1 ++ B := fun hm => by
    rcases List.mem_append.1 hm with hm | hm
    · have := (h1.td.tx.lt _ hm).2; omega
    · have := (h1.td.dev.lt _ hm).2; omega
  obtain ⟨N, hNN⟩ : ∃ N, N = w1.heap.size := ⟨_, rfl⟩
  rw [← hNN] at b2 hN
  have hNge : w.heap.size ≤ N := by rw [hNN]; exact h1.size
  have HNW := Lib.hid hNN
  have HW := Lib.hid hw2
  unfold arr0 at HW
  clear h1 hw2 hNN
  go_wp2_with fail
  rw [← HW.out, ← HNW.out]
  clear HW HNW
  go_loopw [6, 8] (fun q6 q8 wr => ∃ (i T : Nat) (F : List Nat) (us : List Bool) (B : List Nat) (x : DevS) (f : Nat → Option ByteArray), i ≤ xs.length ∧ q6 = .pointer (some ⟨T, 0, none⟩) ∧ q8 = .int .i64 i ∧ Play w wr T F D (begTx 64 8 40 us) B x ∧ us.length = 14 ∧ Live x 64 8 40 us (1000 * (5 - i)) ∧ DevHolds x f ∧ Short f ∧ Blk wr N 49 (wantArr f) ∧ N ∉ F ++ B) (fun _ q _ => xs.length - (intOf q).toNat)
  case atStart => exact ⟨0, T, F1, List.replicate 14 false, B, x, fun _ => none, Nat.zero_le _, rfl, rfl, h2, List.length_replicate .., hL.mono (by omega), hDH, fun _ _ h => (by cases h), b2, hN⟩
  case round =>
    obtain ⟨i, T, F, us, B, x, f, hi, rfl, rfl, hp, hus, hlv, hdh, hsh, bN, hNF⟩ := hrel
    clear h2 b2 hN hL hDH
    by_cases hlt : i < xs.length
    · have hget : ∃ b off, A = some ⟨b, off, none⟩ ∧ b < wr.heap.size ∧ wr.cell? ⟨b, off + i, none⟩ = some (putsV xs[i]) := by
        obtain ⟨b, off, h1, h2, h3⟩ := (hp.reads HR.out).at_ (k := i) (by simpa using hlt)
        exact ⟨b, off, h1, h2, by rw [h3, List.getElem_map]⟩
      obtain ⟨ab0, aoff, rfl, hab0, hac⟩ := hget
      have hpo := HOK.out _ (List.getElem_mem hlt)
      have HCELL : Hid (∀ W, Below w.heap.size w W → W.cell? ⟨ab0, aoff + i, none⟩ = some (putsV xs[i])) := Lib.hid fun W hb => by
        obtain ⟨b, off, h1, h2, h3⟩ := (HR.out.below hb).at_ (k := i) (by simpa using hlt)
        cases h1
        rw [h3, List.getElem_map]
      have HALT : Hid (∀ W, Below w.heap.size w W → ab0 < W.heap.size) := Lib.hid fun W hb => by
        obtain ⟨b, off, h1, h2, h3⟩ := (HR.out.below hb).at_ (k := i) (by simpa using hlt)
        cases h1
        exact h2
      generalize xs[i] = row at *
      obtain ⟨RA, rc, rl⟩ := row
      have HPO := Lib.hid hpo
      unfold putsV at hac HCELL
      simp only at hac HCELL
      have hrlen : rl.length ≤ 9223372036854775807 := hpo.len
      clear hpo
      have cN := bN.cells
      have lN := bN.lt
      obtain ⟨w3, hw3⟩ : ∃ w3, w3 = wr.alloc (.cells (wantArr f) 49) := ⟨_, rfl⟩
      have b9 : Blk w3 wr.heap.size 49 (wantArr f) := by rw [hw3]; exact Blk.new _ _ _
      have h3 := hp.below (w' := w3) (by rw [hw3]; exact (Below.refl _ _).alloc (Nat.le_refl _) _)
      have bN3 : Blk w3 N 49 (wantArr f) := by rw [hw3]; exact bN.alloc _
      have hXF : wr.heap.size ∉ F ++ B := fun hm => by
        rcases List.mem_append.1 hm with hm | hm
        · have := (hp.td.tx.lt _ hm).2; omega
        · have := (hp.td.dev.lt _ hm).2; omega
      have hXN : wr.heap.size ≠ N := fun e => by have := bN.lt; omega
      obtain ⟨X, hXX⟩ : ∃ X, X = wr.heap.size := ⟨_, rfl⟩
      rw [← hXX] at b9 hXF hXN
      have hXge : w.heap.size ≤ X := by rw [hXX]; exact hp.size
      have HXW := Lib.hid hXX
      have HW := Lib.hid hw3
      unfold wantArr at HW cN
      clear hw3 hp bN hXX
      go_wp2_with fail
      rw [← HW.out, ← HXW.out]
      clear HW HXW cN lN hac hab0
      have hbeg := InTx.begun us
      have hov : over (fun _ => none) f = f := rfl
      go_loopw [10] (fun q wr => ∃ (k : Nat) (F : List Nat) (y : TxS) (g : Nat → Option ByteArray), k ≤ rl.length ∧ q = .int .i64 k ∧ Play w wr T F D y B x ∧ InTx y us g ∧ Short (over g f) ∧ Blk wr N 49 (wantArr f) ∧ Blk wr X 49 (wantArr (over g f)) ∧ N ∉ F ++ B ∧ X ∉ F ++ B) (fun q _ => rl.length - (intOf q).toNat)
      case atStart => exact ⟨0, F, _, fun _ => none, Nat.zero_le _, rfl, h3, hbeg, hsh, bN3, b9, hNF, hXF⟩
      case round =>
        rename_i wq _
        obtain ⟨k, F, y, g, hk, rfl, hp, hit, hso, bN, bX, hNF, hXF⟩ := hrel
        clear h3 b9 bN3 hbeg
        have hac := HCELL.out wr hp.bl
        have hab0 := HALT.out wr hp.bl
        by_cases hklt : k < rl.length
        · obtain ⟨b2, o2, rfl, hb2, c0, c1⟩ := puts_at (HPO.out.rows.below hp.bl) hklt
          have hpp := HPO.out.put _ (List.getElem_mem hklt)
          generalize rl[k] = pv at *
          obtain ⟨bb, d⟩ := pv
          simp only at c0 c1 hpp
          obtain ⟨hbb, hds⟩ := hpp
          unfold maxLen at hds
          obtain ⟨r, hr6, hrq⟩ : ∃ r : Nat, r < 6 ∧ bb % 6 = r := ⟨(bb % 6).toNat, by omega, by omega⟩
          have g1 : bb.tmod 6 = r := by rw [← hrq]; exact Int.tmod_eq_emod_of_nonneg hbb.1
          obtain ⟨w4, hw4⟩ : ∃ w4, w4 = wr.alloc (.cells #[.int .u8 bb, .string d] 52) := ⟨_, rfl⟩
          have bP : Blk w4 wr.heap.size 52 #[.int .u8 bb, .string d] := by rw [hw4]; exact Blk.new _ _ _
          have h4 := hp.below (w' := w4) (by rw [hw4]; exact (Below.refl _ _).alloc (Nat.le_refl _) _)
          have bN4 : Blk w4 N 49 (wantArr f) := by rw [hw4]; exact bN.alloc _
          have bX4 : Blk w4 X 49 (wantArr (over g f)) := by rw [hw4]; exact bX.alloc _
          have hPF : wr.heap.size ∉ F ++ B := fun hm => by
            rcases List.mem_append.1 hm with hm | hm
            · have := (hp.td.tx.lt _ hm).2; omega
            · have := (hp.td.dev.lt _ hm).2; omega
          have hPX : wr.heap.size ≠ X := fun e => by have := bX.lt; omega
          obtain ⟨PB, hPB⟩ : ∃ PB, PB = wr.heap.size := ⟨_, rfl⟩
          rw [← hPB] at bP hPF hPX
          have HPB := Lib.hid hPB
          have HW := Lib.hid hw4
          have hac4 := HCELL.out w4 h4.bl
          have hab4 := HALT.out w4 h4.bl
          have cP := bP.cells
          have lP := bP.lt
          have hrl0 : 0 < rl.length := by omega
          clear hw4 hp bN bX hPB
          by_cases hbig : 96 < d.size ∨ 20 < rl.length
          · have B4 := h4.bl
            have haw := awake10_any w4 (HH.out.below B4 hp0)
            by_cases hb1 : 96 < d.size
            · have d1 : decide ((96 : Int) < (d.size : Int)) = true := decide_eq_true (by omega)
              clear hbig hb1
              go_wp2_with fail
              rw [← HW.out, ← HPB.out]
              clear HW HPB c0 c1 hb2 hac hab0
              go_wp2_with fail
              refine haw.mono ?_
              rintro e w5 ⟨rfl, hb5⟩
              go_wp2_with fail
              go_ret
              exact ⟨rfl, B4.trans (hb5.mono B4.size)⟩
            · have d1 : decide ((96 : Int) < (d.size : Int)) = false := decide_eq_false (by omega)
              have d2 : decide ((20 : Int) < (rl.length : Int)) = true := decide_eq_true (by omega)
              clear hbig hb1
              go_wp2_with fail
              rw [← HW.out, ← HPB.out]
              clear HW HPB c0 c1 hb2 hac hab0
              go_wp2_with fail
              refine haw.mono ?_
              rintro e w5 ⟨rfl, hb5⟩
              go_wp2_with fail
              go_ret
              exact ⟨rfl, B4.trans (hb5.mono B4.size)⟩
          have hd96 : d.size ≤ 96 := by omega
          have d1 : decide ((96 : Int) < (d.size : Int)) = false := decide_eq_false (by omega)
          have d2 : decide ((20 : Int) < (rl.length : Int)) = false := decide_eq_false (by omega)
          obtain ⟨hw0, hit'⟩ := hit.write r hr6 d hd96
          have f4 := play_write h4 (50 + r) 8 d (by omega) (by omega)
          rw [hw0] at f4
          generalize (y.write (50 + r) 8 d).2 = y' at *
          have HD := Lib.hid hd96
          clear hbig hw0 h4 hd96
          go_wp2_with fail
          rw [← HW.out, ← HPB.out]
          clear HW HPB c0 c1 hb2 hac hab0
          go_wp2_with fail
          refine f4.mono ?_
          rintro e w5 ⟨rfl, F5, h5, g5⟩
          have bN5 := g5.blk bN4 hNF
          have bX5 := g5.blk bX4 hXF
          have bP5 := g5.blk bP hPF
          have hNF5 := g5.notin hNF bN4.lt
          have hXF5 := g5.notin hXF bX4.lt
          clear f4 bN4 bX4 bP g5 cP lP hac4 hab4
          have bX6 : Blk (w5.setCell ⟨X, r, none⟩ (.string (plusB d))) X 49 (wantArr (over (putAt g r d) f)) := by rw [over_put, ← wantArr_put _ r hr6]; exact bX5.set_ r _
          have bN6 : Blk (w5.setCell ⟨X, r, none⟩ (.string (plusB d))) N 49 (wantArr f) := bN5.far (p := ⟨X, r, none⟩) (fun e => hXN e.symm) _
          have h6 : Play w (w5.setCell ⟨X, r, none⟩ (.string (plusB d))) T F5 D y' B x := h5.farX (p := ⟨X, r, none⟩) hXF5 hp0 hXge _
          have hso' : Short (over (putAt g r d) f) := by rw [over_put]; exact hso.put r (by have := HD.out; omega)
          have f6 := reads10_any h6 hit' hdh hso'
          have cP := bP5.cells
          have lP := bP5.lt
          have cX := bX5.cells
          have lX := bX5.lt
          have fX := bX5.free
          have cX6 := bX6.cells
          have lX6 := bX6.lt
          have hXr : w5.cell? ⟨X, r, none⟩ = some (.string (wantS (over g f r))) := (bX5.cells r).trans (wantArr_at _ r hr6)
          obtain ⟨w6, hw6⟩ : ∃ w6, w6 = w5.setCell ⟨X, r, none⟩ (.string (plusB d)) := ⟨_, rfl⟩
          rw [← hw6] at bX6 bN6 h6 f6 cX6 lX6
          have hst : (Instr.storeAt 9 (.pointer (some ⟨X, r, none⟩)) (.string (⟨#[43]⟩ ++ d))).run Tryz.prog w5 = .ok () w6 := by
            rw [hw6]
            unfold plusB
            clear cX
            go_simp
          unfold wantArr at cX6 f6
          have hdx : d.size + 1 ≤ 1000 := by have := HD.out; omega
          have hac6 := HCELL.out w6 h6.bl
          have hab6 := HALT.out w6 h6.bl
          clear hw6 bX5 bN5 h5 cX bP5 lX fX hXr
          go_wp2_with (refine wpList_storeBy rfl _ _ _ rfl _ _ rfl rfl hst ?_)
          refine f6.mono ?_
          rintro e w7 ⟨rfl, hb7⟩
          have h7 := h6.below hb7
          have bN7 := bN6.belowAll hb7
          have bX7 := bX6.belowAll hb7
          clear f6 h6 bN6 bX6 hac6 hab6 cX6 lX6 cP lP
          go_wp2_with fail
          go_roundw
          case rel => exact ⟨k + 1, F5, y', putAt g r d, by omega, by go_num, h7, hit', hso', bN7, bX7, hNF5, hXF5⟩
          case measure => simp [intOf]; omega
        · obtain rfl : k = rl.length := by omega
          cases hq : ((ab / 2 ^ i).tmod 2 == 1)
          · obtain ⟨x', hcm, hl', hdh'⟩ := hit.commit (N := 1000 * (5 - (i + 1))) hus (hlv.mono (by omega)) hdh
            have f8 := play_commit hp hit.clean hit.state hcm
            go_wp2_with fail
            refine f8.mono ?_
            rintro e w8 ⟨rfl, B8, h8, g8⟩
            have bN8 := g8.blk bN hNF
            have bX8 := g8.blk bX hXF
            have hNF8 := g8.notin hNF bN.lt
            obtain ⟨w9, hw9⟩ : ∃ w9, w9 = w8.setRow N (wantArr (over g f)) := ⟨_, rfl⟩
            have hst := storeRow (ty := 49) (vs := wantArr (over g f)) bN8 rfl (wantArr_one _) (by kernel_rfl)
            rw [← hw9] at hst
            have h9 := h8.rowX (g := N) hNF8 hp0 hNge (wantArr (over g f))
            have bN9 : Blk (w8.setRow N (wantArr (over g f))) N 49 (wantArr (over g f)) := bN8.setRow
            rw [← hw9] at h9 bN9
            have hNF9 := hNF8
            have cX := bX8.cells
            have lX := bX8.lt
            unfold wantArr at cX hst
            clear f8 hp bN bX g8 h8 bN8 hw9
            go_wp2_with (refine wpList_storeBy rfl _ _ _ rfl _ _ rfl rfl hst ?_)
            clear hst cX lX bX8
            go_wp2_with fail
            refine (plain_any w9).mono ?_
            rintro e w10 ⟨rfl, hb10⟩
            have h10 := h9.below hb10
            have bN10 := bN9.belowAll hb10
            have f10 := play_begin h10 rg64 hl'
            clear h9 bN9 hb10
            go_wp2_with fail
            refine f10.mono ?_
            rintro e w11 ⟨U, FU, rfl, h11, g11⟩
            have bN11 := g11.blk bN10 hNF9
            have hNFU := g11.notin hNF9 bN10.lt
            have f11 := reads10_any h11 (InTx.begun us) hdh' (f := over g f) hso
            rw [over_none] at f11
            have cN := bN11.cells
            have lN := bN11.lt
            unfold wantArr at cN f11
            clear f10 h10 bN10 g11
            go_wp2_with fail
            refine f11.mono ?_
            rintro e w12 ⟨rfl, hb12⟩
            have h12 := h11.below hb12
            have bN12 := bN11.belowAll hb12
            clear f11 h11 bN11 hb12 cN lN
            go_wp2_with fail
            go_roundw
            case rel => exact ⟨i + 1, U, FU, us, B8, x', over g f, by omega, rfl, by go_num, h12, hus, hl'.mono (by omega), hdh', hso, bN12, hNFU⟩
            case measure => simp [intOf]; omega
          · have f8 := play_abort hp hit.en
            go_wp2_with fail
            refine f8.mono ?_
            rintro e w8 ⟨rfl, F8, h8, g8⟩
            have bN8 := g8.blk bN hNF
            have hNF8 := g8.notin hNF bN.lt
            clear f8 hp bN bX g8
            go_wp2_with fail
            refine (plain_any w8).mono ?_
            rintro e w9 ⟨rfl, hb9⟩
            have h9 := h8.below hb9
            have bN9 := bN8.belowAll hb9
            have f9 := play_begin h9 rg64 hlv
            clear h8 bN8 hb9
            go_wp2_with fail
            refine f9.mono ?_
            rintro e w10 ⟨U, FU, rfl, h10, g10⟩
            have bN10 := g10.blk bN9 hNF8
            have hNFU := g10.notin hNF8 bN9.lt
            have f10 := reads10_any h10 (InTx.begun us) hdh (f := f) hsh
            rw [over_none] at f10
            have cN := bN10.cells
            have lN := bN10.lt
            unfold wantArr at cN f10
            clear f9 h9 bN9 g10
            go_wp2_with fail
            refine f10.mono ?_
            rintro e w11 ⟨rfl, hb11⟩
            have h11 := h10.below hb11
            have bN11 := bN10.belowAll hb11
            clear f10 h10 bN10 hb11 cN lN
            go_wp2_with fail
            go_roundw
            case rel => exact ⟨i + 1, U, FU, us, B, x, f, by omega, rfl, by go_num, h11, hus, hlv.mono (by omega), hdh, hsh, bN11, hNFU⟩
            case measure => simp [intOf]; omega
    · obtain rfl : i = xs.length := by omega
      have BW := hp.bl
      have haw := awake10_any wr (HH.out.below BW hp0)
      clear hp bN
      go_wp2_with fail
      refine haw.mono ?_
      rintro e w3 ⟨rfl, hb3⟩
      go_wp2_with fail
      go_ret
      exact ⟨rfl, BW.trans (hb3.mono BW.size)⟩
end Go.Proofs.YtfgfdjaiamaelaaGreatDoor
/- P10.8: TxnReads: the row proved, and its tied card. -/
namespace Go.Proofs.YtfgfdjaiamaelaaGreatDoor
open Go.ChangeShapes Go.WideShapes Go.ChangeAt Go.RowKit Go.Joins Go.Deep

theorem Tryz.cellsPut : Tryz.prog.cellsOf 52 = 2 := by kernel_rfl
theorem Tryz.cellsPuts : Tryz.prog.cellsOf 50 = 1 := by kernel_rfl
section
variable {H : Type} {enc : TypeId × Value → H} {W : World}
set_option maxRecDepth 100000 in
theorem open_put_cells {fuel : Nat} {cs : List Value} (hsz : cs.length = 2) {x : DataW H × List MemPlace} (h : DataW.trod enc Tryz.prog W 0 (fun _ => true) true fuel 52 cs = some x) :
    ∃ a : PutV, cs = putL a ∧ (0 ≤ a.b ∧ a.b ≤ 255) ∧ a.d.size ≤ maxLen := by
  match cs, hsz with
  | [c0, c1], _ =>
    obtain ⟨xs, n, _, _, _, hlen, hg⟩ := DataW.trod_struct Tryz.underlying52 h
    have g0 : DataW.trod enc Tryz.prog W 0 (fun _ => true) true n 5 [c0] = xs[0]? := by have := hg 0 _ rfl; simpa [Tryz.cellsU8, Value.cells] using this
    have g1 : DataW.trod enc Tryz.prog W 0 (fun _ => true) true n 9 [c1] = xs[1]? := by have := hg 1 _ rfl; simpa [Tryz.cellsStr, Value.cells] using this
    clear hg
    match xs, hlen with
    | [y0, y1], _ =>
      simp only [List.getElem?_cons_zero, List.getElem?_cons_succ] at g0 g1
      obtain ⟨a0, e0, _, w0⟩ := DataW.trod_int Tryz.underlying5 g0
      obtain ⟨s, e1, _, w1⟩ := DataW.trod_string Tryz.underlying9 g1
      simp at e0 e1
      subst e0 e1
      exact ⟨⟨a0, s⟩, rfl, wf_u8_iff w0, w1⟩
set_option maxRecDepth 100000 in
theorem open_puts {fuel : Nat} {v : Value} {x : DataW H × List MemPlace} (h : DataW.trod enc Tryz.prog W 0 (fun _ => true) true fuel 50 [v] = some x) :
    ∃ r : PutsV, v = putsV r ∧ PutsOk W r := by
  obtain ⟨A, n, c, xs, h1, h2, h3, h4, h5, h6, -⟩ := open_rows putL (fun a => (0 ≤ a.b ∧ a.b ≤ 255) ∧ a.d.size ≤ maxLen) 2 (by omega) Tryz.underlying50 Tryz.cellsPut (fun n cs x hsz hx => open_put_cells hsz hx) h
  subst h2
  exact ⟨⟨A, c, xs⟩, h1, h3, fun a ha => (h4 a ha).2, by show xs.length ≤ maxLen; omega⟩
set_option maxRecDepth 100000 in
theorem open_putss {r : Reach} {b0 : Nat} {v : Value} {d : DataW H} {p : List MemPlace} (hv : Value.okWide Tryz.prog W r b0 48 v) (h : DataW.Trod enc Tryz.prog W 0 (fun _ => true) true 48 v d p) :
    ∃ (A : Option Addr) (c : Nat) (xs : List PutsV), v = .slice A xs.length c ∧ Reads W A (xs.map putsV) ∧ (∀ r ∈ xs, PutsOk W r) ∧ xs.length ≤ maxLen := by
  obtain ⟨a0, l0, c0, rfl⟩ := okWide_slice Tryz.underlying48 hv
  obtain ⟨fuel, hf⟩ := h
  have hel : ∀ (n : Nat) (cs : List Value) (x : DataW H × List MemPlace), cs.length = 1 → DataW.trod enc Tryz.prog W 0 (fun _ => true) true n 50 cs = some x → ∃ r : PutsV, cs = [putsV r] ∧ PutsOk W r := by
    intro n cs x hsz hx
    match cs, hsz, hx with
    | [c0], _, hx =>
      obtain ⟨r, rfl, hr⟩ := open_puts hx
      exact ⟨r, rfl, hr⟩
  obtain ⟨A, n, c, xs, h1, h2, h3, h4, h5, h6, -⟩ := open_rows (fun r => [putsV r]) (PutsOk W) 1 (by omega) Tryz.underlying48 Tryz.cellsPuts hel (v := .slice a0 l0 c0) (by simpa [Value.cells] using hf)
  subst h2
  have hfm : ∀ l : List PutsV, l.flatMap (fun r => [putsV r]) = l.map putsV := fun l => by
    induction l with
    | nil => rfl
    | cons y t ih => rw [List.flatMap_cons, ih]; rfl
  rw [hfm] at h3
  exact ⟨A, c, xs, h1, h3, fun r hr => (h4 r hr).2, by omega⟩
end

set_option maxRecDepth 100000 in
theorem reads_lifted (os : Os) (started : os.Started) (H : Type) (enc : TypeId × Value → H) :
    ReturnsInHanded {} Tryz.checked os 4 .any (fun w args => (Rows.txnReadsSpec.pre enc Tryz.prog Tryz.f4 [] false w args ∧ laidMetH Tryz.prog half1 w) ∧ sizedMet enc Tryz.prog Tryz.f4 (OpenSpec.ofChange Rows.txnReadsSpec) false w args)
      (Rows.txnReadsSpec.post enc Tryz.prog Tryz.f4 false true false false) := by
  refine returnsInHanded_of_change_and (C := Tryz.checked) (X := fun w _ => laidMetH Tryz.prog half1 w) (fun _ _ _ hh h => h.of_heap hh) Tryz.own started (by kernel_rfl) Tryz.func4
    (ChangeSpec.witness_shaped (enc := enc) (C := Tryz.checked) (os := os) (X := fun w _ => laidMetH Tryz.prog half1 w) false (World.doorLaid Tryz.prog 400 os) #[.slice none 0 0, .int .u8 0] 8 rfl (World.shaped_of_RefB (by kernel_rfl) (by kernel_rfl)) (by kernel_rfl) (by kernel_rfl) (by kernel_rfl) (door_met os _)) ?_
  intro W base args ds gs before hval0 hW _ _ hL _
  have hval : ∀ (j : Nat) t v, Tryz.f4.params[j]? = some t → args[j]? = some v → Value.okWide Tryz.prog W .any base t v := hval0
  have hW' := hW
  obtain ⟨p, q, hA0, hV, rfl, hfz, hnd⟩ := hW
  have hA : DataW.TrodAll enc Tryz.prog W 0 (fun _ => true) true Tryz.f4.params.toList args.toList ds p := hA0
  rw [Tryz.params4] at hA hval
  obtain ⟨v0, v1, d0, d1, p0, p1, rfl, rfl, rfl, h0, h1⟩ := trodAll_two hA
  obtain ⟨rfl, rfl⟩ := trodVars_none hV
  have hH := half_of_laid hL
  have h0k := h0
  have h1k := h1
  clear hA0 hval0
  simp only [List.append_nil] at hW'
  have hlt0 : ∀ x ∈ p0, x.block < W.heap.size := fun x hx => by simpa using hW'.lt x (by simp [hx])
  have hlt1 : ∀ x ∈ p1, x.block < W.heap.size := fun x hx => by simpa using hW'.lt x (by simp [hx])
  obtain ⟨A, c, xs, rfl, hR, hok, hl⟩ := open_putss (hval 0 48 v0 rfl rfl) h0
  obtain ⟨ab, rfl, rfl, _, hw1⟩ := open_int Tryz.underlying5 (hval 1 5 v1 rfl rfl) h1
  refine (txnReads_any A c xs ab (wf_u8_iff hw1) hl W hok hH hR).mono fun e W' ⟨he, hnx⟩ => ?_
  subst he
  refine ⟨_, rfl, _, _, _, [], p0 ++ p1, [], hW', ?_, ?_, rfl, hnx.frame _, fun h => by cases h⟩
  · exact trodAll_mk1 (shut_bool Tryz.underlying4 true)
  · exact trodAll_mk2 (Below.trod Tryz.laidOut (by kernel_rfl) (of_decide_eq_true (by kernel_rfl)) h0k hnx hlt0) (Below.trod Tryz.laidOut (by kernel_rfl) (of_decide_eq_true (by kernel_rfl)) h1k hnx hlt1)

theorem txnReads_holds : Rows.TxnReadsSaid :=
  OpenClaim.holds_of_wide 4 Tryz.f4 rfl rfl rfl rfl rfl rfl rfl ⟨rfl, rfl, rfl, rfl, rfl⟩ rfl rfl rfl rfl rfl (by kernel_rfl) Tryz.func4 (by kernel_rfl)
    (of_decide_eq_true (by kernel_rfl)) (by unfold Func.isWrapper; first | (rw [if_pos (by decide +kernel)]; kernel_rfl) | (rw [if_neg (by decide +kernel)]; exact ⟨rfl, rfl⟩))
    (fun os started H enc _ => reads_lifted os started H enc)

theorem txnReadsCard_holds : Rows.TxnReadsCardSaid :=
  Claim7.holds_tied_plain_at .later [] [.data] true (true, "b7afe181b4b591abc8eba0f6329cadd95c6e57db5f0b149c0081f6ae433a3486") false
    txnReads_holds (fun _ h => by cases h) (by kernel_rfl) (fun _ h => by cases h) txnReads_row_tie rfl ⟨rfl, rfl⟩ (by kernel_rfl) rfl
    (fun f fn hf hfn => by
      obtain rfl : f = 4 := Option.some.inj ((show Tryz.prog.funcNamed "limewash/limewashlaw10.TxnReads" = some 4 by kernel_rfl).symm.trans hf) |>.symm
      obtain rfl : fn = Tryz.f4 := (Option.some.inj (Tryz.func4.symm.trans hfn)).symm
      exact ⟨by kernel_rfl, fun j t ht => by
        rw [Tryz.params4] at ht
        have hm : t ∈ [48, 5] := by simpa using Array.mem_of_getElem? ht
        have hall : ([48, 5].all fun u => !Tryz.prog.wantsStandIn u) = true := by kernel_rfl
        exact (show Tryz.prog.wantsStandIn t = false by simpa using List.all_eq_true.1 hall t hm)⟩)
    (by kernel_rfl)

#print axioms txnReadsCard_holds
end Go.Proofs.YtfgfdjaiamaelaaGreatDoor
