/- Parts of the proof, put together by program: Z3, Z4. -/
import Derived.Test.YtfmobeeddlnhcaaGreatDoorPart02
import Derived.Test.YtfmobeeddlnhcaaGreatDoorPart33
import Derived.Test.YtfmobeeddlnhcaaGreatDoorPart34
import Derived.Test.YtfmobeeddlnhcaaGreatDoorPart14
/- Layer 8: Sector. slices.Clone over a slice of ints. -/
namespace Go.Proofs.YtfmobeeddlnhcaaGreatDoor
open Go.RowKit

theorem rgD_bds (s j i : Int) : 0 ≤ rgD s j i ∧ rgD s j i ≤ 256 := by
  unfold rgD; split
  · rename_i h; have := rg_bds h; omega
  · omega

def SecE (s j i b : Int) : Int := if rgE s j i = 0 then (if b < 0 ∨ rgB s j i - 1 < b then 7 else 0) else rgE s j i
def SecV (s j i b : Int) : Int := if SecE s j i b = 0 then rgD s j i + b else 0
def SecPost (s j i b : Int) (w : World) (e : Ending) (w' : World) : Prop := e = .returned (.tuple #[.int .i64 (SecV s j i b), .int .i64 (SecE s j i b)]) ∧ Below w.heap.size w w'
theorem ret_two {a b a' b' : Int} (h : a = a') (h2 : b = b') : Ending.returned (.tuple #[.int .i64 a, .int .i64 b]) = .returned (.tuple #[.int .i64 a', .int .i64 b']) := by rw [h, h2]

set_option maxHeartbeats 1000000 in
theorem sector_any (s j i b : Int) (w : World) :
    Calls Tryz.prog 177 #[.agg #[.int .i64 s, .int .i64 j, .int .i64 i], .int .i64 b] w (SecPost s j i b w) := by
  have hBd := rgB_bds s j i
  have hDd := rgD_bds s j i
  by_cases hE : rgE s j i = 0
  · have hE1 : (rgE s j i == 0) = true := by simpa using hE
    have hE2 : (rgE s j i != 0) = false := by simpa using hE
    by_cases ho : b < 0 ∨ rgB s j i - 1 < b
    all_goals
      first | have hO := outB_yes ho | have hO := outB_no ho
      first | (have hse : SecE s j i b = 7 := by simp only [SecE, if_pos hE, if_pos ho]) | (have hse : SecE s j i b = 0 := by simp only [SecE, if_pos hE, if_neg ho])
      first | (have hsv : SecV s j i b = 0 := by simp only [SecV, hse]; rfl) | (have hsv : SecV s j i b = rgD s j i + b := by simp only [SecV, hse, if_true])
      have HSE := Lib.hid hse
      have HSV := Lib.hid hsv
      have HE := Lib.hid hE
      clear hse hsv hE
      first | (have hbd : 0 ≤ b ∧ b ≤ 256 := by omega) | skip
      go_enter Tryz.func177, Tryz.ntmps177
      go_wp2_with fail
      refine (regions_any _ _ _ _).mono ?_
      rintro e w1 ⟨rfl, hb1⟩
      have hb2 := below1 hb1
      have hzz := hb2.size
      unfold rgV
      go_wp2_with (go_at_call 186; refine (outside_out _ _ _ _).mono ?_; rintro e w' ⟨rfl, rfl⟩)
      go_ret2
      exact ⟨ret_two HSV.out.symm HSE.out.symm, by (repeat' (first | (with_reducible exact Below.refl _ _) | (with_reducible assumption) | (with_reducible refine Below.alloc ?_ ?_ _) | (with_reducible refine Below.drew ?_) | (with_reducible refine below_drewN' ?_ _) | (with_reducible refine Below.setCell ?_ ?_ _) | (with_reducible exact Nat.le_refl _) | omega | (simp; done) | (simp; omega)))⟩
  · have hE1 : (rgE s j i == 0) = false := by simpa using hE
    have hE2 : (rgE s j i != 0) = true := by simpa using hE
    have hse : SecE s j i b = rgE s j i := by simp only [SecE, if_neg hE]
    have hsv : SecV s j i b = 0 := by simp only [SecV, hse, if_neg hE]
    have HSE := Lib.hid hse
    have HSV := Lib.hid hsv
    have HE := Lib.hid hE
    clear hse hsv hE
    go_enter Tryz.func177, Tryz.ntmps177
    go_wp2_with fail
    refine (regions_any _ _ _ _).mono ?_
    rintro e w1 ⟨rfl, hb1⟩
    have hb2 := below1 hb1
    have hzz := hb2.size
    unfold rgV
    go_wp2_with fail
    go_ret2
    exact ⟨ret_two HSV.out.symm HSE.out.symm, by (repeat' (first | (with_reducible exact Below.refl _ _) | (with_reducible assumption) | (with_reducible refine Below.alloc ?_ ?_ _) | (with_reducible refine Below.drew ?_) | (with_reducible refine below_drewN' ?_ _) | (with_reducible refine Below.setCell ?_ ?_ _) | (with_reducible exact Nat.le_refl _) | omega | (simp; done) | (simp; omega)))⟩

set_option maxHeartbeats 1000000 in
theorem sectorR_any (s j i b : Int) (w : World) :
    Calls Tryz.prog 158 #[.agg #[.int .i64 s, .int .i64 j, .int .i64 i], .int .i64 b] w (SecPost s j i b w) := by
  have hBd := rgB_bds s j i
  have hDd := rgD_bds s j i
  by_cases hE : rgE s j i = 0
  · have hE1 : (rgE s j i == 0) = true := by simpa using hE
    have hE2 : (rgE s j i != 0) = false := by simpa using hE
    by_cases ho : b < 0 ∨ rgB s j i - 1 < b
    all_goals
      first | have hO := outB_yes ho | have hO := outB_no ho
      first | (have hse : SecE s j i b = 7 := by simp only [SecE, if_pos hE, if_pos ho]) | (have hse : SecE s j i b = 0 := by simp only [SecE, if_pos hE, if_neg ho])
      first | (have hsv : SecV s j i b = 0 := by simp only [SecV, hse]; rfl) | (have hsv : SecV s j i b = rgD s j i + b := by simp only [SecV, hse, if_true])
      have HSE := Lib.hid hse
      have HSV := Lib.hid hsv
      have HE := Lib.hid hE
      clear hse hsv hE
      first | (have hbd : 0 ≤ b ∧ b ≤ 256 := by omega) | skip
      go_enter Tryz.func158, Tryz.ntmps158
      go_wp2_with fail
      refine (regionsR_any _ _ _ _).mono ?_
      rintro e w1 ⟨rfl, hb1⟩
      have hb2 := below1 hb1
      have hzz := hb2.size
      unfold rgV
      go_wp2_with (go_at_call 196; refine (within_out _ _ _ _).mono ?_; rintro e w' ⟨rfl, rfl⟩)
      go_ret2
      exact ⟨ret_two HSV.out.symm HSE.out.symm, by (repeat' (first | (with_reducible exact Below.refl _ _) | (with_reducible assumption) | (with_reducible refine Below.alloc ?_ ?_ _) | (with_reducible refine Below.drew ?_) | (with_reducible refine below_drewN' ?_ _) | (with_reducible refine Below.setCell ?_ ?_ _) | (with_reducible exact Nat.le_refl _) | omega | (simp; done) | (simp; omega)))⟩
  · have hE1 : (rgE s j i == 0) = false := by simpa using hE
    have hE2 : (rgE s j i != 0) = true := by simpa using hE
    have hse : SecE s j i b = rgE s j i := by simp only [SecE, if_neg hE]
    have hsv : SecV s j i b = 0 := by simp only [SecV, hse, if_neg hE]
    have HSE := Lib.hid hse
    have HSV := Lib.hid hsv
    have HE := Lib.hid hE
    clear hse hsv hE
    go_enter Tryz.func158, Tryz.ntmps158
    go_wp2_with fail
    refine (regionsR_any _ _ _ _).mono ?_
    rintro e w1 ⟨rfl, hb1⟩
    have hb2 := below1 hb1
    have hzz := hb2.size
    unfold rgV
    go_wp2_with fail
    go_ret2
    exact ⟨ret_two HSV.out.symm HSE.out.symm, by (repeat' (first | (with_reducible exact Below.refl _ _) | (with_reducible assumption) | (with_reducible refine Below.alloc ?_ ?_ _) | (with_reducible refine Below.drew ?_) | (with_reducible refine below_drewN' ?_ _) | (with_reducible refine Below.setCell ?_ ?_ _) | (with_reducible exact Nat.le_refl _) | omega | (simp; done) | (simp; omega)))⟩


theorem oneCell_ints (us : List Int) : ∀ u ∈ us.map (Value.int .i64), u.oneCell' = true := by
  intro u hu; obtain ⟨x, -, rfl⟩ := List.mem_map.1 hu; rfl
theorem Tryz.infoInt : (Tryz.prog.info? 3).map (fun i => (i.zero, i.size, i.bytes)) = some (some (.int .i64 0), 1, 8) := by kernel_rfl

set_option maxHeartbeats 400000 in
/-- A list of ints that may be nil: its clone reads alike, and is new. -/
theorem clone_ints (A : Option Addr) (c : Nat) (us : List Int) (w : World) (hR : Reads w A (us.map (.int .i64))) (hA : A = none → us = [] ∧ c = 0) (hn : us.length ≤ 100000) :
    Calls Tryz.prog 126 #[.slice A us.length c] w fun e w' => ∃ v, e = .returned v ∧ w'.ownsRow w.heap.size 3 1 v us.length (us.map (.int .i64)) ∧ Below w.heap.size w w' := by
  cases A with
  | none =>
    obtain ⟨rfl, rfl⟩ := hA rfl
    have hnil := Lib.run_eql_slice_nil (P := Tryz.prog) w 40 3 none 0 0 0 0 Tryz.underlying40
    clear hA hR
    go_enter Tryz.func126, Tryz.ntmps126
    go_wp2_with fail
    go_ret
    exact ⟨_, rfl, World.ownsRow_nil _ _ _ _, Below.refl _ _⟩
  | some ad =>
    obtain ⟨i0, hi, hz0, hz1, hz2⟩ := info_parts Tryz.infoInt
    have hm := oneCell_ints us
    have hnil := fun (w : World) => Lib.run_eql_slice_nil (P := Tryz.prog) w 40 3 (some ad) us.length c 0 0 Tryz.underlying40
    clear hA
    go_enter Tryz.func126, Tryz.ntmps126
    go_wp2_with (at_builtin; refine wpList_append_any _ rfl (.tmp 5) (.tmp 6) _ rfl w.heap.size 3 i0 (.int .i64 0) 8 Tryz.underlying40 hi hz0 hz1 hz2 rfl (.slice (some ⟨w.heap.size, 0, none⟩) 0 0) 0 [] rfl (World.ownsRow_made w #[] 0 (Nat.le_refl _) (by simp) rfl) (some ad) us.length c (us.map (.int .i64)) rfl (by simp) (by simp) (hR.alloc _) hm (by simp only [maxLen]; omega) (by omega) (by simp) ?_; intro v1 w1 hown1 hg1 hat1)
    go_ret
    refine ⟨v1, rfl, by simpa using hown1, ((Below.refl _ _).alloc (Nat.le_refl _) _).grown hg1 (by simp) (fun k hk => ?_)⟩
    simp [Value.ownBlock] at hk; omega

end Go.Proofs.YtfmobeeddlnhcaaGreatDoor
/- Layer 12: open. -/
namespace Go.Proofs.YtfmobeeddlnhcaaGreatDoor
open Go.RowKit Go.Maps

/-- A slice of ints that came in, or none. -/
structure SlI (w : World) (A : Option Addr) (c : Nat) (l : List Int) : Prop where
  reads : Reads w A (l.map (.int .i64))
  nil : A = none → l = [] ∧ c = 0
  cap : l.length ≤ c
theorem SlI.below {w w' : World} {A : Option Addr} {c : Nat} {l : List Int} (h : SlI w A c l) (hb : Below w.heap.size w w') : SlI w' A c l := ⟨h.reads.below hb, h.nil, h.cap⟩
theorem SlI.of_own {w : World} {base : Nat} {v : Value} {l : List Int} (h : w.ownsRow base 3 1 v l.length (l.map (.int .i64))) : ∃ A c, v = .slice A l.length c ∧ SlI w A c l := by
  rcases h.2 with ⟨rfl, h0⟩ | ⟨g, cap, cur, rfl, -, -, hn, -⟩
  · obtain rfl := List.length_eq_zero_iff.1 h0
    exact ⟨none, 0, rfl, .inl rfl, fun _ => ⟨rfl, rfl⟩, Nat.le_refl _⟩
  · exact ⟨_, cap, rfl, Reads.of_own h, (fun e => by cases e), hn⟩

def dopenE (y : TxS) (l : List Int) : Int := if y.stateE ≠ 0 then y.stateE else if 8 < l.length then 3 else LsE y.now.length l l.length
abbrev lsC (T : Nat) (s j i k : Int) (v : Value) : Array Value := #[.pointer (some ⟨T, 0, none⟩), .int .i64 s, .int .i64 j, .int .i64 i, .int .i64 k, v]
abbrev ls0 : Array Value := #[.pointer none, .int .i64 0, .int .i64 0, .int .i64 0, .int .i64 0, .slice none 0 0]
def DopenPost (w : World) (T : Nat) (y : TxS) (k : Int) (l : List Int) (e : Ending) (w' : World) : Prop :=
  Below w.heap.size w w' ∧ ((dopenE y l ≠ 0 ∧ e = .returned (.tuple #[.agg ls0, .int .i64 (dopenE y l)])) ∨
    (dopenE y l = 0 ∧ ∃ v, e = .returned (.tuple #[.agg (lsC T y.s y.j y.i k v), .int .i64 0]) ∧ w'.ownsRow w.heap.size 3 1 v l.length (l.map (.int .i64))))

set_option maxRecDepth 100000 in
set_option maxHeartbeats 2000000 in
theorem dopen_bad (tv : Value) (E k : Int) (sv : Value) (w : World) (h : StE w tv E) (hE : E ≠ 0) :
    Calls Tryz.prog 74 #[tv, .int .i64 k, sv] w fun e w' => e = .returned (.tuple #[.agg ls0, .int .i64 E]) ∧ Below w.heap.size w w' := by
  obtain ⟨wA, hA⟩ : ∃ wA, wA = w.alloc (.cells ls0 117) := ⟨_, rfl⟩
  have bR : Blk wA w.heap.size 117 ls0 := by rw [hA]; exact (by (repeat' (first | (with_reducible assumption) | exact Blk.new' (by simp) | refine Blk.alloc ?_ _)))
  have BA : Below w.heap.size w wA := by rw [hA]; (repeat' (first | (with_reducible exact Below.refl _ _) | (with_reducible assumption) | (with_reducible refine Below.alloc ?_ ?_ _) | (with_reducible refine Below.drew ?_) | (with_reducible refine below_drewN' ?_ _) | (with_reducible refine Below.setCell ?_ ?_ _) | (with_reducible exact Nat.le_refl _) | omega | (simp; done) | (simp; omega)))
  have hbl := blocks_bad tv E wA (h.below BA) hE
  have hE' : (E != 0) = true := by simpa using hE
  clear hE
  go_enter Tryz.func74, Tryz.ntmps74
  go_wp2_with fail
  rw [← hA]
  go_wp2_with fail
  refine hbl.mono ?_
  rintro e w1 ⟨rfl, hb1⟩
  obtain ⟨w2, hw2⟩ : ∃ w2, w2 = w1.alloc (.cells #[.int .i64 0, .int .i64 0, .int .i64 0, .slice none 0 0] 66) := ⟨_, rfl⟩
  have bR2 : Blk w2 w.heap.size 117 ls0 := by rw [hw2]; exact (bR.belowAll hb1).alloc _
  have B2 : Below w.heap.size w w2 := by rw [hw2]; have B1 := BA.trans (hb1.mono BA.size); exact B1.alloc B1.size _
  clear hA hbl bR BA
  have hst := storeRow (ty := 117) (vs := ls0) bR2 rfl (by simp [Value.oneCell']) (by kernel_rfl)
  rw [hw2] at hst
  have lR := bR2.lt
  rw [hw2] at lR
  have HW2 := Lib.hid hw2
  clear hw2 hb1
  go_wp2_with (refine wpList_storeBy rfl _ _ _ rfl _ _ rfl rfl hst ?_)
  rw [← HW2.out]
  have cF := (bR2.setRow (cs' := ls0)).cells
  refine bodyPost_ret (v := .tuple #[.agg ls0, .int .i64 E]) (by simp [results, Tryz.results74, go_sem, cF]) rfl ?_
  exact ⟨rfl, Below.setRow B2 (Nat.le_refl _) _⟩

theorem dopen_ok {y : TxS} {l : List Int} (hs : y.stateE = 0) (h8 : l.length ≤ 8) : dopenE y l = LsE y.now.length l l.length := by unfold dopenE; rw [if_neg (by simpa using hs), if_neg (by omega)]
theorem mem_slI {w : World} {A : Option Addr} {c : Nat} {l : List Int} (h : SlI w A c l) (k : Nat) : Reads w A ((l.take k).map (.int .i64)) := by
  rw [List.map_take]; exact h.reads.take k

set_option maxRecDepth 100000 in
set_option maxHeartbeats 8000000 in
theorem dopen_in (T : Nat) (F : List Nat) (D : Nat) (y : TxS) (kd : Int) (A : Option Addr) (c : Nat) (l : List Int) (hl : l.length ≤ 1000) (w : World) (h : TxAt w T F D y) (hE : y.stateE = 0) (hA : SlI w A c l) :
    Calls Tryz.prog 74 #[.pointer (some ⟨T, 0, none⟩), .int .i64 kd, .slice A l.length c] w (DopenPost w T y kd l) := by
  obtain ⟨wA, hWA⟩ : ∃ wA, wA = w.alloc (.cells ls0 117) := ⟨_, rfl⟩
  have bR : Blk wA w.heap.size 117 ls0 := by rw [hWA]; exact (by (repeat' (first | (with_reducible assumption) | exact Blk.new' (by simp) | refine Blk.alloc ?_ _)))
  have BA : Below w.heap.size w wA := by rw [hWA]; (repeat' (first | (with_reducible exact Below.refl _ _) | (with_reducible assumption) | (with_reducible refine Below.alloc ?_ ?_ _) | (with_reducible refine Below.drew ?_) | (with_reducible refine below_drewN' ?_ _) | (with_reducible refine Below.setCell ?_ ?_ _) | (with_reducible exact Nat.le_refl _) | omega | (simp; done) | (simp; omega)))
  have hbl := blocks_tx T F D y wA (h.below BA) hE
  have hNL : y.now.length ≤ 1000 := by have := h.ok.bds; omega
  have HS := Lib.hid hE
  clear hE
  go_enter Tryz.func74, Tryz.ntmps74
  go_wp2_with fail
  rw [← hWA]
  go_wp2_with fail
  refine hbl.mono ?_
  rintro e w1 ⟨v, rfl, hov, hb1⟩
  obtain ⟨g, cg, rfl⟩ := own_slice hov
  obtain ⟨w2, hw2⟩ : ∃ w2, w2 = w1.alloc (.cells #[.int .i64 y.s, .int .i64 y.j, .int .i64 y.i, .slice g y.now.length cg] 66) := ⟨_, rfl⟩
  have bR2 : Blk w2 w.heap.size 117 ls0 := by rw [hw2]; exact (bR.belowAll hb1).alloc _
  have B1 := BA.trans (hb1.mono BA.size)
  have B2 : Below w.heap.size w w2 := by rw [hw2]; exact B1.alloc B1.size _
  have bS2 : Blk w2 w1.heap.size 66 #[.int .i64 y.s, .int .i64 y.j, .int .i64 y.i, .slice g y.now.length cg] := by rw [hw2]; exact Blk.new _ _ _
  have hA2 := hA.below B2
  have z2 := B2.size
  clear hWA hbl bR BA hov h
  by_cases h8 : 8 < l.length
  · have HX : Hid (dopenE y l = 3) := Lib.hid (by unfold dopenE; rw [if_neg (by simpa using HS.out), if_pos h8])
    have hst := storeRow (ty := 117) (vs := ls0) bR2 rfl (by simp [Value.oneCell']) (by kernel_rfl)
    rw [hw2] at hst
    have lR := bR2.lt
    rw [hw2] at lR
    have HW2 := Lib.hid hw2
    clear hw2 hb1
    have h8' : (8 : Int) < (l.length : Int) := by omega
    clear h8
    go_wp2_with (refine wpList_storeBy rfl _ _ _ rfl _ _ rfl rfl hst ?_)
    rw [← HW2.out]
    have cF := (bR2.setRow (cs' := ls0)).cells
    refine bodyPost_ret (v := .tuple #[.agg ls0, .int .i64 3]) (by simp [results, Tryz.results74, go_sem, cF]) rfl ?_
    exact ⟨Below.setRow B2 (Nat.le_refl _) _, .inl ⟨by rw [HX.out]; decide, by rw [HX.out]⟩⟩
  have HX := Lib.hid (dopen_ok HS.out (by omega : l.length ≤ 8))
  have h8' : ¬ (8 : Int) < (l.length : Int) := by omega
  have c3 : w2.cell? ⟨w1.heap.size, 3, none⟩ = some (.slice g y.now.length cg) := (bS2.cells 3).trans rfl
  have lS2 := bS2.lt
  have lR2 := bR2.lt
  have HW2 := Lib.hid hw2
  rw [hw2] at lR2
  clear hw2 hb1 h8
  go_wp2_with fail
  rw [← HW2.out]
  rw [← HW2.out] at lR2
  have hst := storeRow (ty := 117) (vs := ls0) bR2 rfl (by simp [Value.oneCell']) (by kernel_rfl)
  have HST := Lib.hid hst
  clear hst
  go_loop [27] (fun q => ∃ k : Nat, k ≤ l.length ∧ q = .int .i64 k ∧ LsE y.now.length l k = 0) (fun q => l.length - (intOf q).toNat)
  case atStart => exact ⟨0, Nat.zero_le _, rfl, rfl⟩
  case round =>
    obtain ⟨k, hk, rfl, hLk⟩ := hrel
    by_cases hlt : k < l.length
    · obtain ⟨b, off, rfl, hb, hcx⟩ := hA2.reads.at_ (k := k) (by simpa using hlt)
      rw [List.getElem_map] at hcx
      have hgd : l.getD k 0 = l[k] := by rw [List.getD_eq_getElem?_getD, List.getElem?_eq_getElem hlt]; rfl
      have hstep : LsE y.now.length l (k + 1) = if l[k] < 0 ∨ (y.now.length : Int) - 1 < l[k] then 7 else if l[k] ∈ l.take k then 8 else 0 := by
        rw [LsE_step hLk]; unfold stepE; rw [hgd]
      have hall : LsE y.now.length l (k + 1) ≠ 0 → LsE y.now.length l l.length = LsE y.now.length l (k + 1) := fun h => LsE_stay h (by omega)
      have hin : Hid (Calls Tryz.prog 125 #[.slice (some ⟨b, off, none⟩) k c, .int .i64 l[k]] w2 fun e w' => e = .returned (.bool (decide (l[k] ∈ l.take k))) ∧ w' = w2) := Lib.hid (by
        have h := contains_int (some ⟨b, off, none⟩) c (l.take k) (by rw [List.length_take]; omega) l[k] w2 (mem_slI hA2 k)
        rwa [List.length_take, Nat.min_eq_left hk] at h)
      have HAL := Lib.hid hall
      have HCP : k ≤ c := Nat.le_trans hk hA2.cap
      have HLT := Lib.hid (List.take_subset k l)
      generalize l[k] = x at *
      clear hgd hLk hall
      by_cases p7 : x < 0 ∨ (y.now.length : Int) - 1 < x
      · rw [if_pos p7] at hstep
        have HX7 : Hid (dopenE y l = 7) := Lib.hid (by rw [HX.out, HAL.out (by rw [hstep]; decide), hstep])
        have hst := HST.out
        have h7 : (decide (x < 0) = true) ∨ (decide (x < 0) = false ∧ decide ((y.now.length : Int) ≤ x) = true) := by
          by_cases e : x < 0
          · exact .inl (by simpa using e)
          · exact .inr ⟨by simpa using e, by simp; omega⟩
        clear p7 hstep
        rcases h7 with h7 | ⟨h7, h7'⟩
        all_goals
          go_wp2_with (refine wpList_storeBy rfl _ _ _ rfl _ _ rfl rfl hst ?_)
          have cF := (bR2.setRow (cs' := ls0)).cells
          refine bodyPost_ret (v := .tuple #[.agg ls0, .int .i64 7]) (by simp [results, Tryz.results74, go_sem, cF]) rfl ?_
          exact ⟨Below.setRow B2 (Nat.le_refl _) _, .inl ⟨by rw [HX7.out]; decide, by rw [HX7.out]⟩⟩
      · rw [if_neg p7] at hstep
        have h7 : decide (x < 0) = false := by simp; omega
        have h7' : decide ((y.now.length : Int) ≤ x) = false := by simp; omega
        by_cases p8 : x ∈ l.take k
        · rw [if_pos p8] at hstep
          have HX8 : Hid (dopenE y l = 8) := Lib.hid (by rw [HX.out, HAL.out (by rw [hstep]; decide), hstep])
          have hin := hin.out
          rw [decide_eq_true p8] at hin
          have HST := HST.out
          clear p7 hstep p8
          go_wp2_with fail
          refine hin.mono ?_
          rintro e w' ⟨rfl, rfl⟩
          go_wp2_with (refine wpList_storeBy rfl _ _ _ rfl _ _ rfl rfl HST ?_)
          have cF := (bR2.setRow (cs' := ls0)).cells
          refine bodyPost_ret (v := .tuple #[.agg ls0, .int .i64 8]) (by simp [results, Tryz.results74, go_sem, cF]) rfl ?_
          exact ⟨Below.setRow B2 (Nat.le_refl _) _, .inl ⟨by rw [HX8.out]; decide, by rw [HX8.out]⟩⟩
        · rw [if_neg p8] at hstep
          have hin := hin.out
          rw [decide_eq_false p8] at hin
          have HSP := Lib.hid hstep
          clear p7 hstep p8
          go_wp2_with fail
          refine hin.mono ?_
          rintro e w' ⟨rfl, rfl⟩
          go_wp2_with fail
          go_round
          case rel => exact ⟨k + 1, by omega, by go_num, HSP.out⟩
          case measure => simp [intOf]; omega
    · obtain rfl : k = l.length := by omega
      have HX0 : Hid (dopenE y l = 0) := Lib.hid (by rw [HX.out, hLk])
      have hS : ∀ V, Below w2.heap.size w2 V → V.cell? ⟨w1.heap.size, 0, none⟩ = some (.int .i64 y.s) ∧ V.cell? ⟨w1.heap.size, 1, none⟩ = some (.int .i64 y.j) ∧ V.cell? ⟨w1.heap.size, 2, none⟩ = some (.int .i64 y.i) := fun V hb =>
        ⟨(hb.cell (p := ⟨w1.heap.size, 0, none⟩) lS2).trans ((bS2.cells 0).trans rfl), (hb.cell (p := ⟨w1.heap.size, 1, none⟩) lS2).trans ((bS2.cells 1).trans rfl), (hb.cell (p := ⟨w1.heap.size, 2, none⟩) lS2).trans ((bS2.cells 2).trans rfl)⟩
      have HSS := Lib.hid hS
      clear hS hLk
      go_wp2_with fail
      refine wp_region_mix [.take 0, .take 1, .take 2, .take 3, .take 4, .one 5, .one 6, .one 7, .one 8] 7 (fun V => V.cell? ⟨w1.heap.size, 0, none⟩ = some (.int .i64 y.s) ∧ V.cell? ⟨w1.heap.size, 1, none⟩ = some (.int .i64 y.j) ∧ V.cell? ⟨w1.heap.size, 2, none⟩ = some (.int .i64 y.i)) (by kernel_rfl) (by kernel_rfl) (fun _ _ _ _ _ h => h) (HSS.out _ (Below.refl _ _).drew) ?_
      simp only [List.map_cons, List.map_nil, Ms.fill, List.getD_cons_zero, List.getD_cons_succ]
      iterate 5 (refine mixT_take (by rfl) ?_ (fun w' hw' => ?_) ?_; rotate_left; (focus (go_simp; (try with_reducible rfl))); (try simp only [Act.put, List.setIfInBounds_toArray, List.set_cons_zero, List.set_cons_succ]))
      refine mixT_step (by rfl) fun K hK => ?_
      go_simp
      refine (clone_ints A c l w2.drew (hA2.reads.below (Below.refl _ _).drew) hA2.nil (by omega)).mono ?_
      rintro e w3 ⟨v3, rfl, ho3, hb3⟩
      obtain ⟨a3, c3', rfl⟩ := own_slice ho3
      have B23 : Below w2.heap.size w2 w3 := (Below.refl _ _).drew.trans hb3
      refine hK _ _ (fun _ => HSS.out _ B23) ?_
      clear hK K
      refine mixT_step (by rfl) fun K hK => ?_
      go_simp
      refine hK _ _ (fun _ => HSS.out _ B23) ?_
      clear hK K
      have bR3 := bR2.belowAll B23
      have B3 := B2.trans (B23.mono z2)
      refine mixT_step (by rfl) fun K hK => ?_
      have hst := storeRow (ty := 117) (vs := lsC T y.s y.j y.i kd (.slice a3 l.length c3')) bR3 rfl (by simp [Value.oneCell']) (by kernel_rfl)
      refine op_storeBy _ _ _ rfl _ _ rfl rfl hst ?_
      refine hK _ _ (fun h => absurd h (by decide)) ?_
      clear hK K
      refine mixT_step (by rfl) fun K hK => ?_
      go_simp
      refine hK _ _ (fun h => absurd h (by decide)) ?_
      clear hK K
      refine mixT_nil ?_
      go_wp2_with fail
      have cF := (bR3.setRow (cs' := lsC T y.s y.j y.i kd (.slice a3 l.length c3'))).cells
      refine bodyPost_ret (v := .tuple #[.agg (lsC T y.s y.j y.i kd (.slice a3 l.length c3')), .int .i64 0]) (by simp [results, Tryz.results74, go_sem, cF]) rfl ?_
      refine ⟨Below.setRow B3 (Nat.le_refl _) _, .inr ⟨HX0.out, _, rfl, ?_⟩⟩
      have hb : w.heap.size < w2.heap.size := bR2.lt
      exact own_base (own_block ho3 fun q hq => setRow_other _ _ _ _ (fun e => by have h9 := (ho3.lt q hq).1; rw [e] at h9; exact absurd h9 (by show ¬ w2.heap.size ≤ w.heap.size; omega))) (by show w.heap.size ≤ w2.heap.size; omega)

theorem dopen_tx (T : Nat) (F : List Nat) (D : Nat) (y : TxS) (kd : Int) (A : Option Addr) (c : Nat) (l : List Int) (hl : l.length ≤ 1000) (w : World) (h : TxAt w T F D y) (hA : SlI w A c l) :
    Calls Tryz.prog 74 #[.pointer (some ⟨T, 0, none⟩), .int .i64 kd, .slice A l.length c] w (DopenPost w T y kd l) := by
  by_cases hE : y.stateE = 0
  · exact dopen_in T F D y kd A c l hl w h hE hA
  · refine (dopen_bad _ _ kd _ w h.st hE).mono ?_
    rintro e w' ⟨rfl, hb⟩
    have e1 : dopenE y l = y.stateE := by unfold dopenE; rw [if_pos (by simpa using hE)]
    exact ⟨hb, .inl ⟨by rw [e1]; exact hE, by rw [e1]⟩⟩

end Go.Proofs.YtfmobeeddlnhcaaGreatDoor
