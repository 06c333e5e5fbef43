/- Parts of the proof, put together by program: R5, E2, E3. -/
import Derived.Test.YtloddiipepiocaaGreatDoorPart29
import Derived.Test.YtloddiipepiocaaGreatDoorPart03
set_option linter.unusedVariables false
set_option linter.unusedSimpArgs false
/- The reference's Alloc: it returns what Alloc returns. -/
namespace Go.Proofs.YtloddiipepiocaaGreatDoor
open Go.RowKit

theorem goRound_len (us : List Bool) (near k : Nat) : (goRound us near k).length = (List.range k).countP fun i => us[(near + i) % us.length]? == some false := by
  unfold goRound; rw [List.length_map, List.countP_eq_length_filter]
theorem countP_range_get (us : List Bool) (a m : Nat) (h : a + m ≤ us.length) : ((List.range m).countP fun i => us[a + i]? == some false) = nfree ((us.drop a).take m) := by
  induction m with
  | zero => simp [nfree]
  | succ m ih =>
    rw [List.range_succ, List.countP_append, ih (by omega)]
    have hl : m < (us.drop a).length := by simp; omega
    unfold nfree
    rw [List.take_succ_eq_append_getElem hl, List.countP_append]
    congr 1
    have hg : us[a + m]? = some (us.drop a)[m] := by rw [List.getElem_drop, List.getElem?_eq_getElem (by omega)]
    simp only [List.countP_cons, List.countP_nil, hg]
    cases (us.drop a)[m] <;> simp
/-- As many blocks are met as are free, wherever one begins. -/
theorem frees_len {us : List Bool} {near : Nat} (h : near < us.length) : (frees us near).length = nfree us := by
  unfold frees
  rw [goRound_len]
  have hsplit : List.range us.length = List.range (us.length - near) ++ (List.range near).map (us.length - near + ·) := by
    rw [← List.range_add]; congr 1; omega
  rw [hsplit, List.countP_append, List.countP_map]
  have h1 : ((List.range (us.length - near)).countP fun i => us[(near + i) % us.length]? == some false) = nfree ((us.drop near).take (us.length - near)) := by
    rw [← countP_range_get us near (us.length - near) (by omega)]
    apply List.countP_congr
    intro i hi
    simp only [List.mem_range] at hi
    rw [Nat.mod_eq_of_lt (by omega)]
  have h2 : ((List.range near).countP ((fun i => us[(near + i) % us.length]? == some false) ∘ (us.length - near + ·))) = nfree ((us.drop 0).take near) := by
    rw [← countP_range_get us 0 near (by omega)]
    apply List.countP_congr
    intro i hi
    simp only [List.mem_range] at hi
    have : (near + (us.length - near + i)) % us.length = 0 + i := by
      rw [show near + (us.length - near + i) = i + us.length from by omega, Nat.add_mod_right, Nat.mod_eq_of_lt (by omega)]; omega
    simp only [Function.comp, this]
  rw [h1, h2]
  unfold nfree
  have : us.countP (!·) = (us.take near ++ us.drop near).countP (!·) := by rw [List.take_append_drop]
  rw [this, List.countP_append, List.drop_zero, List.take_of_length_le (by simp)]
  omega

end Go.Proofs.YtloddiipepiocaaGreatDoor
/- The reference's Encode, Decode, Count. -/
namespace Go.Proofs.YtloddiipepiocaaGreatDoor
open Go.RowKit

theorem Tryz.info5 : (Tryz.prog.info? 5).map (fun i => (i.zero, i.size, i.bytes)) = some (some (.int .u8 0), 1, 1) := by kernel_rfl
theorem addv_tab : ∀ x : Fin 256, ∀ m : Fin 8, bitOf (x.val : Int) m.val = false → (x.val : Int) + 2 ^ m.val % 256 ≤ 255 ∧ orv (x.val : Int) m.val = (x.val : Int) + 2 ^ m.val % 256 := by decide +kernel
theorem addv_of {x : Int} (h : 0 ≤ x ∧ x < 256) {m : Nat} (hm : m < 8) (hb : bitOf x m = false) : x + 2 ^ m % 256 ≤ 255 ∧ orv x m = x + 2 ^ m % 256 := by
  obtain ⟨y, rfl⟩ := fin_of h
  exact addv_tab y ⟨m, hm⟩ hb

set_option maxRecDepth 100000 in
set_option maxHeartbeats 1000000 in
theorem encodeR_ok (s j i : Int) (A : Option Addr) (c : Nat) (us : List Bool) (hus : us.length ≤ 1000) (w : World) (hR : Reads w A (us.map .bool)) (hE : CkE s j i us.length = 0) :
    Calls Tryz.prog 64 #[.agg #[.int .i64 s, .int .i64 j, .int .i64 i, .slice A us.length c]] w (EncPost s j i us w) := by
  have hus' := (ckE_len hE).2.2
  have hE' : (CkE s j i us.length != 0) = false := by simpa using hE
  have HE := Lib.hid hE
  clear hE
  obtain ⟨i0, hi, hz0, hz1, hz2⟩ := info_parts Tryz.info5
  have hmk : ∀ w : World, (Instr.makeSlice 27 (.int .i64 96) (.int .i64 96)).run Tryz.prog w = .ok (.slice (some ⟨w.heap.size, 0, none⟩) 96 96) (w.alloc (.cells (fill (.int .u8 0) 96) 5)) := by
    intro w
    have := run_make (P := Tryz.prog) w 27 5 i0 (.int .u8 0) Tryz.underlying27 hi hz0 .i64 .i64 96 96 (by omega) (Int.le_refl _) (by rw [hz2]; omega) (by omega)
    rw [this, hz1]; simp [fill, Value.cells]
  clear hi hz0 hz1 hz2
  go_enter Tryz.func64, Tryz.ntmps64
  go_wp2_with fail
  refine (checkR_any s j i A us.length c _ (by unfold maxLen; omega)).mono ?_
  rintro e w1 ⟨rfl, hb1⟩
  have bS : Blk w1 w.heap.size 53 #[.int .i64 s, .int .i64 j, .int .i64 i, .slice A us.length c] := Blk.belowAll (by (repeat' (first | (with_reducible assumption) | exact Blk.new' (by simp) | refine Blk.alloc ?_ _))) hb1
  replace hb1 : Below w.heap.size w w1 := below1 hb1
  have cS := bS.cells
  have hbS := bS.lt
  go_wp2_with fail
  obtain ⟨W1, hW1⟩ : ∃ W1, W1 = w1.alloc (.cells (fill (.int .u8 0) 96) 5) := ⟨_, rfl⟩
  rw [← hW1]
  have bO : Blk W1 w1.heap.size 5 (fill (.int .u8 0) 96) := by rw [hW1]; exact Blk.new _ _ _
  have bS1 : Blk W1 w.heap.size 53 #[.int .i64 s, .int .i64 j, .int .i64 i, .slice A us.length c] := by rw [hW1]; exact bS.alloc _
  have hB1 : Below w.heap.size w W1 := by rw [hW1]; exact hb1.alloc hb1.size _
  have hs1 : W1.heap.size = w1.heap.size + 1 := by rw [hW1]; simp
  clear hW1 bS cS hb1 hmk
  go_loopw [6] (fun q wr => ∃ k : Nat, k ≤ us.length ∧ q = .int .i64 k ∧ Blk wr w1.heap.size 5 (bytesV (encL us k)) ∧ Below w1.heap.size W1 wr) (fun q _ => us.length - (intOf q).toNat)
  case atStart => exact ⟨0, Nat.zero_le _, rfl, by rw [show encL us 0 = List.replicate 96 0 from rfl, bytesV_rep]; exact bO, Below.refl _ _⟩
  case round =>
    obtain ⟨k, hk, rfl, bO, hnx⟩ := hrel
    have fO := bO.free
    have bS2 := bS1.below hnx hbS
    have cS := bS2.cells
    by_cases hlt : k < us.length
    · obtain ⟨b, off, rfl, hb, hc⟩ := (hR.below (hB1.trans (hnx.mono (by omega)))).at_ (k := k) (by simpa using hlt)
      rw [List.getElem_map] at hc
      have hd8 : k / 8 < 96 := by omega
      have hcO : wr.cell? ⟨w1.heap.size, k / 8, none⟩ = some (.int .u8 ((encL us k).getD (k / 8) 0)) := by rw [bO.cells]; exact bytesV_get (by rw [encL_length]; exact hd8)
      cases hu : us[k] <;> rw [hu] at hc
      · have hs := Lib.hid (encL_miss (us := us) (k := k) (by rw [List.getElem?_eq_getElem hlt, hu]))
        clear hu hcO
        go_wp2
        go_roundw
        case rel => exact ⟨k + 1, by omega, by go_num, by rw [hs.out]; exact bO, hnx⟩
        case measure => simp [intOf]; omega
      · have hs := Lib.hid (encL_hit (us := us) (k := k) (by rw [List.getElem?_eq_getElem hlt, hu]))
        have hx0 := getD_bytes (encL_bytes us k) (k / 8)
        have hbit : bitOf ((encL us k).getD (k / 8) 0) (k % 8) = false := by
          have := bitAt_encL (us := us) (by omega) (k := k) (by omega) k
          simpa [bitAt] using this
        obtain ⟨hx1, hx2⟩ := addv_of hx0 (Nat.mod_lt k (by omega : 0 < 8)) hbit
        clear hu hbit
        have HX := Lib.hid hx2
        clear hx2
        generalize hx : (encL us k).getD (k / 8) 0 = x at hcO hs hx0 hx1 HX
        clear hx
        have hpw : 0 ≤ (2 : Int) ^ (k % 8) % 256 := Int.emod_nonneg _ (by omega)
        go_wp2
        go_region
        all_goals go_wp2
        go_roundw
        case rel => exact ⟨k + 1, by omega, by go_num, by rw [hs.out, HX.out, ← bytesV_set]; exact (bO.set_ _ _).drew, (hnx.setCell (p := ⟨w1.heap.size, k / 8, none⟩) (Nat.le_refl _) _).drew⟩
        case measure => simp [intOf]; omega
    · obtain rfl : k = us.length := by omega
      have hB2 : Below w.heap.size w wr := hB1.trans (hnx.mono (by omega))
      go_wp2
      go_ret2
      exact ⟨by (repeat' (first | (with_reducible exact Below.refl _ _) | (with_reducible assumption) | (with_reducible refine Below.alloc ?_ ?_ _) | (with_reducible refine Below.drew ?_) | (with_reducible refine below_drewN' ?_ _) | (with_reducible refine Below.setCell ?_ ?_ _) | (with_reducible exact Nat.le_refl _) | omega | (simp; done) | (simp; omega))), .inr ⟨HE.out, w1.heap.size, rfl, by omega, reads_bytes bO⟩⟩

set_option maxHeartbeats 400000 in
theorem encodeR_any (s j i : Int) (A : Option Addr) (c : Nat) (us : List Bool) (hus : us.length ≤ 1000) (w : World) (hR : Reads w A (us.map .bool)) :
    Calls Tryz.prog 64 #[.agg #[.int .i64 s, .int .i64 j, .int .i64 i, .slice A us.length c]] w (EncPost s j i us w) := by
  by_cases hE : CkE s j i us.length = 0
  · exact encodeR_ok s j i A c us hus w hR hE
  · have hE' : (CkE s j i us.length != 0) = true := by simpa using hE
    have HE := Lib.hid hE
    clear hE
    go_enter Tryz.func64, Tryz.ntmps64
    go_wp2_with fail
    refine (checkR_any s j i A us.length c _ (by unfold maxLen; omega)).mono ?_
    rintro e w1 ⟨rfl, hb1⟩
    replace hb1 : Below w.heap.size w w1 := below1 hb1
    go_wp2_with fail
    go_ret2
    exact ⟨hb1, .inl ⟨HE.out, rfl⟩⟩

set_option maxHeartbeats 400000 in
theorem countR_any (s j i : Int) (A : Option Addr) (c : Nat) (us : List Bool) (hus : us.length ≤ 1000) (w : World) (hR : Reads w A (us.map .bool)) :
    Calls Tryz.prog 142 #[.agg #[.int .i64 s, .int .i64 j, .int .i64 i, .slice A us.length c]] w fun e w' =>
      e = .returned (.tuple #[.int .i64 (CountN s j i us), .int .i64 (CkE s j i us.length)]) ∧ Below w.heap.size w w' := by
  by_cases hE : CkE s j i us.length = 0
  · have hN : CountN s j i us = (nfree us : Int) := by unfold CountN; rw [if_pos hE, frees_len (by have := (ckE_len hE).2.2.1; omega)]
    have hE' : (CkE s j i us.length != 0) = false := by simpa using hE
    have HE := Lib.hid hE
    have HN := Lib.hid hN
    clear hE hN
    go_enter Tryz.func142, Tryz.ntmps142
    go_wp2_with fail
    refine (checkR_any s j i A us.length c _ (by unfold maxLen; omega)).mono ?_
    rintro e w1 ⟨rfl, hb1⟩
    have bS : Blk w1 w.heap.size 53 #[.int .i64 s, .int .i64 j, .int .i64 i, .slice A us.length c] := Blk.belowAll (by (repeat' (first | (with_reducible assumption) | exact Blk.new' (by simp) | refine Blk.alloc ?_ _))) hb1
    replace hb1 : Below w.heap.size w w1 := below1 hb1
    have cS := bS.cells
    go_wp2_with fail
    refine (rfree_any s j i A c us _ (hR.below hb1) hus).mono ?_
    rintro e w2 ⟨rfl, hb2⟩
    have B2 := hb1.trans (hb2.mono hb1.size)
    go_wp2_with fail
    go_ret2
    exact ⟨by rw [HN.out, HE.out]; rfl, B2⟩
  · have hN : CountN s j i us = 0 := by simp only [CountN, if_neg hE]
    have hE' : (CkE s j i us.length != 0) = true := by simpa using hE
    have HE := Lib.hid hE
    have HN := Lib.hid hN
    clear hE hN
    go_enter Tryz.func142, Tryz.ntmps142
    go_wp2_with fail
    refine (checkR_any s j i A us.length c _ (by unfold maxLen; omega)).mono ?_
    rintro e w1 ⟨rfl, hb1⟩
    replace hb1 : Below w.heap.size w w1 := below1 hb1
    go_wp2_with fail
    go_ret2
    exact ⟨by rw [HN.out]; rfl, hb1⟩

end Go.Proofs.YtloddiipepiocaaGreatDoor
/- The reference's Decode. -/
namespace Go.Proofs.YtloddiipepiocaaGreatDoor
open Go.RowKit

theorem bit2_tab : ∀ x : Fin 256, ∀ m : Fin 8, bitOf (x.val : Int) m.val = (((x.val : Int) / 2 ^ m.val).tmod 2 == 1) := by decide +kernel
theorem bit2_of {x : Int} (h : 0 ≤ x ∧ x < 256) {m : Nat} (hm : m < 8) : bitOf x m = ((x / 2 ^ m).tmod 2 == 1) := by
  obtain ⟨y, rfl⟩ := fin_of h
  exact bit2_tab y ⟨m, hm⟩

def DecFail (s j i : Int) (xs : List Int) (E : Int) : Prop :=
  E ≠ 0 ∧ ((rgE s j i ≠ 0 ∧ E = rgE s j i) ∨ (rgE s j i = 0 ∧ xs.length ≠ 96 ∧ E = 3) ∨ (rgE s j i = 0 ∧ xs.length = 96 ∧ ¬ noneAfter xs (rgB s j i).toNat 768 ∧ E = 6))
def DecGoing (s j i : Int) (xs : List Int) (B B0 k : Nat) (wr : World) : Prop :=
  rgE s j i = 0 ∧ xs.length = 96 ∧ noneAfter xs (rgB s j i).toNat k ∧ ∃ g, B0 ≤ g ∧ g ≠ B ∧ Blk wr g 4 (boolsV (decS xs (rgB s j i).toNat k)) ∧ Blk wr B 53 #[.int .i64 s, .int .i64 j, .int .i64 i, .slice (some ⟨g, 0, none⟩) (rgB s j i).toNat (rgB s j i).toNat]
theorem DecFail.post {s j i : Int} {xs : List Int} {E : Int} {w w' : World} (h : DecFail s j i xs E) (hb : Below w.heap.size w w') :
    DecPost s j i xs w (.returned (.tuple #[.agg #[.int .i64 0, .int .i64 0, .int .i64 0, .slice none 0 0], .int .i64 E])) w' := by
  rcases h.2 with ⟨h1, rfl⟩ | ⟨h1, h2, rfl⟩ | ⟨h1, h2, h3, rfl⟩
  · exact ⟨hb, .inl ⟨h1, rfl⟩⟩
  · exact ⟨hb, .inr (.inl ⟨h1, h2, rfl⟩)⟩
  · exact ⟨hb, .inr (.inr (.inl ⟨h1, h2, h3, rfl⟩))⟩

set_option maxRecDepth 100000 in
set_option maxHeartbeats 4000000 in
theorem decodeR_any (s j i : Int) (A : Option Addr) (c : Nat) (xs : List Int) (hml : xs.length ≤ 1000) (hbx : Bytes xs) (w : World) (hR : Reads w A (xs.map (.int .u8))) :
    Calls Tryz.prog 47 #[.agg #[.int .i64 s, .int .i64 j, .int .i64 i], .slice A xs.length c] w (DecPost s j i xs w) := by
  go_enter Tryz.func47, Tryz.ntmps47
  go_wp2_with fail
  refine (newR_any s j i _).mono ?_
  rintro e w1 ⟨hb1, ⟨hE, rfl⟩ | ⟨hE, g, rfl, hg, hrow⟩⟩
  focus
    have hE' : (rgE s j i == 0) = false := by simpa using hE
    have ST : Hid (∀ wr : World, ∀ B B0 : Nat, DecFail s j i xs (rgE s j i) ∨ (rgE s j i = 0 ∧ DecGoing s j i xs B B0 0 wr)) := Lib.hid (fun _ _ _ => .inl ⟨hE, .inl ⟨hE, rfl⟩⟩)
    have HE := Lib.hid hE
    clear hE
    have bR : Blk w1 (w.heap.size + 1) 53 #[.int .i64 0, .int .i64 0, .int .i64 0, .slice none 0 0] := Blk.belowAll (by (repeat' (first | (with_reducible assumption) | exact Blk.new' (by simp) | refine Blk.alloc ?_ _))) hb1
    have B1 : Below w.heap.size w w1 := below2 hb1
    clear hb1
    have lR := bR.lt
    go_wp2_with fail
    have bR1 := bR.alloc (.cells #[.int .i64 0, .int .i64 0, .int .i64 0, .slice none 0 0] 53)
    have B2 := B1.alloc B1.size (.cells #[.int .i64 0, .int .i64 0, .int .i64 0, .slice none 0 0] 53)
    have ST1 := Lib.hid (ST.out (w1.alloc (.cells #[.int .i64 0, .int .i64 0, .int .i64 0, .slice none 0 0] 53)) w1.heap.size (w.heap.size + 2))
    clear ST bR B1
  rotate_left
  focus
    have bR : Blk w1 (w.heap.size + 1) 53 #[.int .i64 0, .int .i64 0, .int .i64 0, .slice none 0 0] := Blk.belowAll (by (repeat' (first | (with_reducible assumption) | exact Blk.new' (by simp) | refine Blk.alloc ?_ _))) hb1
    have bQ0 : Blk w1 g 4 (fill (.bool false) (rgB s j i).toNat) := hrow
    have B1 : Below w.heap.size w w1 := below2 hb1
    clear hb1 hrow
    have lR := bR.lt
    have hg2 : w.heap.size + 2 ≤ g := by simpa using hg
    have hgl : g < w1.heap.size := bQ0.lt
    have hE' : (rgE s j i == 0) = true := by simpa using hE
    have bR1 := bR.alloc (.cells #[.int .i64 s, .int .i64 j, .int .i64 i, .slice (some ⟨g, 0, none⟩) (rgB s j i).toNat (rgB s j i).toNat] 53)
    have B2 := B1.alloc B1.size (.cells #[.int .i64 s, .int .i64 j, .int .i64 i, .slice (some ⟨g, 0, none⟩) (rgB s j i).toNat (rgB s j i).toNat] 53)
    by_cases h96 : xs.length = 96
    focus
      have hn : ((xs.length : Int) != 96) = false := by rw [h96]; rfl
      have ST1 : Hid (DecFail s j i xs 0 ∨ (0 = (0 : Int) ∧ DecGoing s j i xs w1.heap.size (w.heap.size + 2) 0 (w1.alloc (.cells #[.int .i64 s, .int .i64 j, .int .i64 i, .slice (some ⟨g, 0, none⟩) (rgB s j i).toNat (rgB s j i).toNat] 53)))) :=
        Lib.hid (.inr ⟨rfl, hE, h96, fun b _ h => absurd h (by omega), g, hg2, by omega, by rw [show decS xs (rgB s j i).toNat 0 = List.replicate _ false from rfl, boolsV_rep]; exact bQ0.alloc _, Blk.new _ _ _⟩)
      have HE := Lib.hid hE
      clear hE bQ0 hg2 hg hgl bR B1
      go_wp2_with fail
    rotate_left
    focus
      have hn : ((xs.length : Int) != 96) = true := by simp; omega
      have ST1 : Hid (DecFail s j i xs 3 ∨ (3 = (0 : Int) ∧ DecGoing s j i xs w1.heap.size (w.heap.size + 2) 0 (w1.alloc (.cells #[.int .i64 s, .int .i64 j, .int .i64 i, .slice (some ⟨g, 0, none⟩) (rgB s j i).toNat (rgB s j i).toNat] 53)))) :=
        Lib.hid (.inl ⟨by decide, .inr (.inl ⟨hE, h96, rfl⟩)⟩)
      have HE := Lib.hid hE
      clear hE bQ0 hg2 hg hgl bR B1
      go_wp2_with fail
    rotate_left
  all_goals
    go_loopw [7, 8, 9] (fun v q _ wr => ∃ (k : Nat) (E : Int), k ≤ 768 ∧ v = .int .i64 E ∧ q = .int .i64 k ∧ (DecFail s j i xs E ∨ (E = 0 ∧ DecGoing s j i xs w1.heap.size (w.heap.size + 2) k wr)) ∧ Blk wr (w.heap.size + 1) 53 #[.int .i64 0, .int .i64 0, .int .i64 0, .slice none 0 0] ∧ Below w.heap.size w wr) (fun _ q _ _ => 768 - (intOf q).toNat)
    case atStart => exact ⟨0, _, Nat.zero_le _, rfl, rfl, (by simpa using ST1.out), bR1, B2⟩
    case round =>
      obtain ⟨k, E, hk, rfl, rfl, hD, bR, hnx⟩ := hrel
      have cR := bR.cells
      have fR := bR.free
      have lR := bR.lt
      rcases hD with hD | ⟨rfl, hrg, hl96, hno, g2, hgB, hgne, bQ, bW⟩
      · have hEE : (E == 0) = false := by simpa using hD.1
        have hEE' : (E != 0) = true := by simpa using hD.1
        have HD := Lib.hid hD
        clear hD
        by_cases hlt : k < 768
        all_goals
          go_wp2_with fail
          refine bodyPost_ret (v := .tuple #[.agg #[.int .i64 0, .int .i64 0, .int .i64 0, .slice none 0 0], .int .i64 E]) (by simp [results, Tryz.results47, go_sem, cR, lR]) rfl ?_
          exact HD.out.post (by (repeat' (first | (with_reducible exact Below.refl _ _) | (with_reducible assumption) | (with_reducible refine Below.alloc ?_ ?_ _) | (with_reducible refine Below.drew ?_) | (with_reducible refine below_drewN' ?_ _) | (with_reducible refine Below.setCell ?_ ?_ _) | (with_reducible exact Nat.le_refl _) | omega | (simp; done) | (simp; omega))))
      · first
        | exact absurd hl96 (by assumption)
        | exact absurd hrg HE.out
        | (skip
           unfold DecPost
           generalize hNN : (rgB s j i).toNat = n at *
           have NN := Lib.hid hNN
           clear hNN
           have HRG := Lib.hid hrg
           clear hrg
           have fQ := bQ.free
           have cW := bW.cells
           have fW := bW.free
           have lW := bW.lt
           have lQ := bQ.lt
           by_cases hlt : k < 768
           · have hk8 : k / 8 < xs.length := by omega
             obtain ⟨b, off, rfl, hb, hc⟩ := (hR.below hnx).at_ (k := k / 8) (by simpa using hk8)
             rw [List.getElem_map] at hc
             have hq8 : 0 ≤ (k : Int) / 8 ∧ (k : Int) / 8 < 96 := by omega
             have hbit : bitAt xs k = bitOf xs[k / 8] (k % 8) := by unfold bitAt; simp [hk8]
             have HB := Lib.hid hbit
             clear hbit
             have hx0 := hbx _ (List.getElem_mem hk8)
             generalize xs[k / 8] = x at hc HB hx0
             have hb2 := bit2_of hx0 (Nat.mod_lt k (by omega : 0 < 8))
             by_cases hkn : k < n
             · have hd := decide_eq_true hkn
               have hcQ : wr.cell? ⟨g2, k, none⟩ = some (.bool ((decS xs n k).getD k false)) := by rw [bQ.cells]; exact boolsV_get (by rw [decS_length]; exact hkn)
               have hs := Lib.hid (decS_in (xs := xs) hkn)
               have HB2 := Lib.hid hb2
               clear hb2
               go_wp2_with fail
               go_roundw
               case rel => exact ⟨k + 1, 0, by omega, rfl, by go_num, .inr ⟨rfl, HRG.out, hl96, fun b h1 h2 => by rw [NN.out] at h1; exact hno b h1 (by omega), g2, hgB, hgne, by rw [NN.out, hs.out, HB.out, HB2.out, ← boolsV_set]; exact bQ.set_ _ _, by rw [NN.out]; exact bW.far (by simp; omega) _⟩, bR.far (by simp; omega) _, by (repeat' (first | (with_reducible exact Below.refl _ _) | (with_reducible assumption) | (with_reducible refine Below.alloc ?_ ?_ _) | (with_reducible refine Below.drew ?_) | (with_reducible refine below_drewN' ?_ _) | (with_reducible refine Below.setCell ?_ ?_ _) | (with_reducible exact Nat.le_refl _) | omega | (simp; done) | (simp; omega)))⟩
               case measure => simp [intOf]; omega
             · have hd := decide_eq_false hkn
               have hs := Lib.hid (decS_out (xs := xs) hkn)
               cases hbt : bitOf x (k % 8)
               · have hbt' : ((x / 2 ^ (k % 8)).tmod 2 == 1) = false := by rw [← hb2]; exact hbt
                 have HT := Lib.hid hbt
                 clear hbt hb2
                 go_wp2_with fail
                 go_roundw
                 case rel => exact ⟨k + 1, 0, by omega, rfl, by go_num, .inr ⟨rfl, HRG.out, hl96, fun b h1 h2 => by
                   rw [NN.out] at h1
                   by_cases hbk : b = k
                   · subst hbk; rw [HB.out, HT.out]
                   · exact hno b h1 (by omega), g2, hgB, hgne, by rw [NN.out, hs.out]; exact bQ, by rw [NN.out]; exact bW⟩, bR, hnx⟩
                 case measure => simp [intOf]; omega
               · have hbt' : ((x / 2 ^ (k % 8)).tmod 2 == 1) = true := by rw [← hb2]; exact hbt
                 have HT := Lib.hid hbt
                 clear hbt hb2
                 go_wp2_with fail
                 go_roundw
                 case rel => exact ⟨k + 1, 6, by omega, rfl, by go_num, .inl ⟨by decide, .inr (.inr ⟨HRG.out, hl96, fun h => (by rw [NN.out] at h; have := h k (by omega) hlt; rw [HB.out, HT.out] at this; cases this), rfl⟩)⟩, bR, hnx⟩
                 case measure => simp [intOf]; omega
           · obtain rfl : k = 768 := by omega
             go_wp2_with fail
             refine bodyPost_ret (v := .tuple #[.agg #[.int .i64 s, .int .i64 j, .int .i64 i, .slice (some ⟨g2, 0, none⟩) n n], .int .i64 0]) (by simp [results, Tryz.results47, go_sem, cR, lR]) rfl ?_
             have hnn : noneAfter xs (rgB s j i).toNat 768 := by rw [NN.out]; exact hno
             refine ⟨by (repeat' (first | (with_reducible exact Below.refl _ _) | (with_reducible assumption) | (with_reducible refine Below.alloc ?_ ?_ _) | (with_reducible refine Below.drew ?_) | (with_reducible refine below_drewN' ?_ _) | (with_reducible refine Below.setCell ?_ ?_ _) | (with_reducible exact Nat.le_refl _) | omega | (simp; done) | (simp; omega))), .inr (.inr (.inr ⟨HRG.out, hl96, hnn, g2, by rw [NN.out], by omega, ?_⟩))⟩
             rw [NN.out]
             exact reads_bools (t := 4) (by (repeat' (first | (with_reducible exact bQ) | refine Blk.far ?_ (by simp; omega) _))))

end Go.Proofs.YtloddiipepiocaaGreatDoor
