/- Parts of the proof, put together by program: G1, G2, G5. -/
import Derived.Test.YtfgfdjaiamaelaaGreatDoorPart16
import Derived.Test.YtfgfdjaiamaelaaGreatDoorPart03
import Derived.Test.YtfgfdjaiamaelaaGreatDoorPart02
import Derived.Test.YtfgfdjaiamaelaaGreatDoorPart15
/- Layer 10: where things are: find, journal, bitmap. -/
namespace Go.Proofs.YtfgfdjaiamaelaaGreatDoor
open Go.RowKit Go.Maps

/-- A place: a device with a layout, and its regions. -/
def placeL (dv : Option Addr) (s j i J M T D B : Int) : List Value := [.pointer dv, .int .i64 s, .int .i64 j, .int .i64 i, .int .i64 J, .int .i64 M, .int .i64 T, .int .i64 D, .int .i64 B]
def noPlace : List Value := placeL none 0 0 0 0 0 0 0 0
def placeR (D : Nat) (s j i : Int) : List Value := placeL (some ⟨D, 0, none⟩) s j i (rgJ s j i) (rgM s j i) (rgT s j i) (rgD s j i) (rgB s j i)
def findE (n s j i : Int) : Int := if rgE s j i ≠ 0 then rgE s j i else if n = 0 then 1 else if n ≠ s then 6 else 0

def findV (D : Nat) (n s j i : Int) : Array Value := if findE n s j i = 0 then (placeR D s j i).toArray else noPlace.toArray

theorem storeRow {W : World} {g : Nat} {t ty : TypeId} {cur : Array Value} {vs : Array Value} (b : Blk W g t cur) (hl : cur.size = vs.size) (h1 : vs.all (·.oneCell') = true) (hsz : (sizeOf ty).run Tryz.prog W = .ok vs.size W) :
    (Instr.storeAt ty (.pointer (some ⟨g, 0, none⟩)) (.agg vs)).run Tryz.prog W = .ok () (W.setRow g vs) := by
  have h := run_storeAt_row (P := Tryz.prog) (w := W) (ty := ty) (t := t) (g := g) (o := 0) (cur := cur) (vs := vs.toList) b (by simp; omega) (fun v hv => by
    have := Array.all_eq_true'.1 h1 v (by simpa using hv)
    exact this) (by simpa using hsz)
  have e : (cur.toList.take 0 ++ vs.toList ++ cur.toList.drop (0 + vs.toList.length)).toArray = vs := by
    rw [List.take_zero, List.nil_append, List.drop_of_length_le (by simp; omega), List.append_nil]
  rw [e] at h
  simpa using h
abbrev PV (dv : Option Addr) (s j i J M T D B : Int) : Array Value := #[.pointer dv, .int .i64 s, .int .i64 j, .int .i64 i, .int .i64 J, .int .i64 M, .int .i64 T, .int .i64 D, .int .i64 B]

set_option maxRecDepth 100000 in
set_option maxHeartbeats 1000000 in
theorem find_dev (D : Nat) (s j i : Int) (B : List Nat) (x : DevS) (w : World) (h : DevAt w D B x) :
    Calls Tryz.prog 55 #[.pointer (some ⟨D, 0, none⟩), .agg #[.int .i64 s, .int .i64 j, .int .i64 i]] w fun e w' => e = .returned (.tuple #[.agg (findV D x.stable.length s j i), .int .i64 (findE x.stable.length s j i)]) ∧ Below w.heap.size w w' := by
  have hlo := h.ok.lo
  have hhi := h.ok.hi
  obtain ⟨wA, hA⟩ : ∃ wA, wA = (w.alloc (.cells #[.int .i64 s, .int .i64 j, .int .i64 i] 45)).alloc (.cells noPlace.toArray 100) := ⟨_, rfl⟩
  have bL : Blk wA w.heap.size 45 #[.int .i64 s, .int .i64 j, .int .i64 i] := by rw [hA]; exact (by (repeat' (first | (with_reducible assumption) | exact Blk.new' (by simp) | refine Blk.alloc ?_ _)))
  have bP : Blk wA (w.heap.size + 1) 100 noPlace.toArray := by rw [hA]; exact (by (repeat' (first | (with_reducible assumption) | exact Blk.new' (by simp) | refine Blk.alloc ?_ _)))
  have BA : Below w.heap.size w wA := by rw [hA]; (repeat' (first | (with_reducible exact Below.refl _ _) | (with_reducible assumption) | (with_reducible refine Below.alloc ?_ ?_ _) | (with_reducible refine Below.drew ?_) | (with_reducible refine below_drewN' ?_ _) | (with_reducible refine Below.setCell ?_ ?_ _) | (with_reducible exact Nat.le_refl _) | omega | (simp; done) | (simp; omega)))
  have hrg := regions_any s j i wA
  have hz : noPlace.toArray = #[.pointer none, .int .i64 0, .int .i64 0, .int .i64 0, .int .i64 0, .int .i64 0, .int .i64 0, .int .i64 0, .int .i64 0] := rfl
  unfold RgPost rgV at hrg
  rw [hz] at hA bP
  clear hz
  have cL := bL.cells
  have lL := bL.lt
  go_enter Tryz.func55, Tryz.ntmps55
  go_wp2_with fail
  rw [← hA]
  clear hA
  go_wp2_with fail
  refine hrg.mono ?_
  rintro e w1 ⟨rfl, hb1⟩
  have B1 := BA.trans (hb1.mono BA.size)
  have bL1 := bL.belowAll hb1
  have bP1 := bP.belowAll hb1
  have bR1 : Blk (w1.alloc (.cells #[.int .i64 (rgJ s j i), .int .i64 (rgM s j i), .int .i64 (rgT s j i), .int .i64 (rgD s j i), .int .i64 (rgB s j i)] 98)) w1.heap.size 98 #[.int .i64 (rgJ s j i), .int .i64 (rgM s j i), .int .i64 (rgT s j i), .int .i64 (rgD s j i), .int .i64 (rgB s j i)] := Blk.new _ _ _
  clear hb1 hrg cL lL bL bP BA
  by_cases hE : rgE s j i = 0
  rotate_left
  · have HE : Hid (findE x.stable.length s j i = rgE s j i) := Lib.hid (by unfold findE; rw [if_pos hE])
    have HN := Lib.hid hE
    obtain ⟨E, hEE⟩ : ∃ E, rgE s j i = E := ⟨_, rfl⟩
    rw [hEE] at hE HE HN ⊢
    have hE' : (E != 0) = true := by simpa using hE
    clear hE hEE
    have bP2 := bP1.alloc (.cells #[.int .i64 (rgJ s j i), .int .i64 (rgM s j i), .int .i64 (rgT s j i), .int .i64 (rgD s j i), .int .i64 (rgB s j i)] 98)
    have hst := storeRow (ty := 100) (vs := PV none 0 0 0 0 0 0 0 0) bP2 rfl (by simp [Value.oneCell']) (by kernel_rfl)
    have bP3 := bP2.setRow (cs' := PV none 0 0 0 0 0 0 0 0)
    have BF : Below w.heap.size w _ := Below.setRow (B1.alloc B1.size (.cells #[.int .i64 (rgJ s j i), .int .i64 (rgM s j i), .int .i64 (rgT s j i), .int .i64 (rgD s j i), .int .i64 (rgB s j i)] 98)) (g := w.heap.size + 1) (by omega) (PV none 0 0 0 0 0 0 0 0)
    have cP2 := bP2.cells
    have lP2 := bP2.lt
    go_wp2_with (refine wpList_storeBy rfl _ _ _ rfl _ _ rfl rfl hst ?_)
    have cP3 := bP3.cells
    refine bodyPost_ret (v := .tuple #[.agg (PV none 0 0 0 0 0 0 0 0), .int .i64 E]) (by simp [results, Tryz.results55, go_sem, cP3]) rfl ?_
    exact ⟨by unfold findV; rw [HE.out, if_neg HN.out]; rfl, BF⟩
  have hRb := rg_bds hE
  rw [hE]
  have hd1 := (h.below B1).alloc (.cells #[.int .i64 (rgJ s j i), .int .i64 (rgM s j i), .int .i64 (rgT s j i), .int .i64 (rgD s j i), .int .i64 (rgB s j i)] 98)
  have bP2 := bP1.alloc (.cells #[.int .i64 (rgJ s j i), .int .i64 (rgM s j i), .int .i64 (rgT s j i), .int .i64 (rgD s j i), .int .i64 (rgB s j i)] 98)
  have bL2 := bL1.alloc (.cells #[.int .i64 (rgJ s j i), .int .i64 (rgM s j i), .int .i64 (rgT s j i), .int .i64 (rgD s j i), .int .i64 (rgB s j i)] 98)
  have B2 := B1.alloc B1.size (.cells #[.int .i64 (rgJ s j i), .int .i64 (rgM s j i), .int .i64 (rgT s j i), .int .i64 (rgD s j i), .int .i64 (rgB s j i)] 98)
  have hs0 : ((x.stable.length : Int) == 0) = false := by rw [beq_eq_false_iff_ne]; omega
  have HB0 := Lib.hid hE
  clear hE bP1 bL1
  have cL2 := bL2.cells
  have lL2 := bL2.lt
  obtain ⟨w2, hw2⟩ : ∃ w2, w2 = w1.alloc (.cells #[.int .i64 (rgJ s j i), .int .i64 (rgM s j i), .int .i64 (rgT s j i), .int .i64 (rgD s j i), .int .i64 (rgB s j i)] 98) := ⟨_, rfl⟩
  go_wp2_with fail
  rw [← hw2] at hd1 bP2 bL2 B2 bR1 cL2 lL2 ⊢
  refine (sectors_dev D B x w2 hd1).mono ?_
  rintro e w' ⟨rfl, rfl⟩
  clear hw2
  go_wp2_with fail
  go_quiet ((go_at_call 93; exact Calls.quiet_of_same (sectors_dev D B x _ (hd1.drewN _))))
  have bP4 : Blk (w'.drewN nq) (w.heap.size + 1) 100 (PV none 0 0 0 0 0 0 0 0) := bP2
  have bL4 : Blk (w'.drewN nq) w.heap.size 45 #[.int .i64 s, .int .i64 j, .int .i64 i] := bL2
  have bR4 : Blk (w'.drewN nq) w1.heap.size 98 #[.int .i64 (rgJ s j i), .int .i64 (rgM s j i), .int .i64 (rgT s j i), .int .i64 (rgD s j i), .int .i64 (rgB s j i)] := bR1
  have B4 := below_drewN' B2 nq
  generalize w'.drewN nq = w4 at *
  clear hd1 bP2 bL2 B2 bR1 cL2 lL2
  have cL4 := bL4.cells
  have lL4 := bL4.lt
  have cP4 := bP4.cells
  have lP4 := bP4.lt
  have cR4 := bR4.cells
  have lR4 := bR4.lt
  by_cases hn : (x.stable.length : Int) = s
  rotate_left
  · have HE : Hid (findE x.stable.length s j i = 6) := Lib.hid (by unfold findE; rw [if_neg (by rw [HB0.out]; simp), if_neg (by omega), if_pos hn])
    have hn' : ((x.stable.length : Int) != s) = true := by simpa using hn
    clear hn
    have hst := storeRow (ty := 100) (vs := PV none 0 0 0 0 0 0 0 0) bP4 rfl (by simp [Value.oneCell']) (by kernel_rfl)
    have bP5 := bP4.setRow (cs' := PV none 0 0 0 0 0 0 0 0)
    have BF : Below w.heap.size w _ := Below.setRow B4 (g := w.heap.size + 1) (by omega) (PV none 0 0 0 0 0 0 0 0)
    go_wp2_with (refine wpList_storeBy rfl _ _ _ rfl _ _ rfl rfl hst ?_)
    have cP5 := bP5.cells
    refine bodyPost_ret (v := .tuple #[.agg (PV none 0 0 0 0 0 0 0 0), .int .i64 6]) (by simp [results, Tryz.results55, go_sem, cP5]) rfl ?_
    exact ⟨by unfold findV; rw [HE.out]; rfl, BF⟩
  · have HE : Hid (findE x.stable.length s j i = 0) := Lib.hid (by unfold findE; rw [if_neg (by rw [HB0.out]; simp), if_neg (by omega), if_neg (by simpa using hn)])
    have hn' : ((x.stable.length : Int) != s) = false := by simpa using hn
    clear hn
    have hst := storeRow (ty := 100) (vs := PV (some ⟨D, 0, none⟩) s j i (rgJ s j i) (rgM s j i) (rgT s j i) (rgD s j i) (rgB s j i)) bP4 rfl (by simp [Value.oneCell']) (by kernel_rfl)
    have bP5 := bP4.setRow (cs' := PV (some ⟨D, 0, none⟩) s j i (rgJ s j i) (rgM s j i) (rgT s j i) (rgD s j i) (rgB s j i))
    have BF : Below w.heap.size w _ := Below.setRow B4 (g := w.heap.size + 1) (by omega) (PV (some ⟨D, 0, none⟩) s j i (rgJ s j i) (rgM s j i) (rgT s j i) (rgD s j i) (rgB s j i))
    go_wp2_with (refine wpList_storeBy rfl _ _ _ rfl _ _ rfl rfl hst ?_)
    have cP5 := bP5.cells
    refine bodyPost_ret (v := .tuple #[.agg (PV (some ⟨D, 0, none⟩) s j i (rgJ s j i) (rgM s j i) (rgT s j i) (rgD s j i) (rgB s j i)), .int .i64 0]) (by simp [results, Tryz.results55, go_sem, cP5]) rfl ?_
    exact ⟨by unfold findV; rw [HE.out]; rfl, BF⟩

end Go.Proofs.YtfgfdjaiamaelaaGreatDoor
/- Layer 10: journal, bitmap. -/
namespace Go.Proofs.YtfgfdjaiamaelaaGreatDoor
open Go.RowKit Go.Maps

set_option maxRecDepth 100000 in
set_option maxHeartbeats 400000 in
theorem tjournal_any (G : Nat) (t : TypeId) (cs : Array Value) (j J : Int) (w : World) (b : Blk w G t cs) (h2 : cs[2]? = some (.int .i64 j)) (h4 : cs[4]? = some (.int .i64 J)) :
    Calls Tryz.prog 54 #[.pointer (some ⟨G, 0, none⟩)] w fun e w' => e = .returned (.agg #[.int .i64 J, .int .i64 j]) ∧ Below w.heap.size w w' := by
  obtain ⟨W, hW⟩ : ∃ W, W = w.alloc (.cells #[.int .i64 0, .int .i64 0] 93) := ⟨_, rfl⟩
  have bG : Blk W G t cs := by rw [hW]; exact b.alloc _
  have bR : Blk W w.heap.size 93 #[.int .i64 0, .int .i64 0] := by rw [hW]; exact Blk.new _ _ _
  have BW : Below w.heap.size w W := by rw [hW]; (repeat' (first | (with_reducible exact Below.refl _ _) | (with_reducible assumption) | (with_reducible refine Below.alloc ?_ ?_ _) | (with_reducible refine Below.drew ?_) | (with_reducible refine below_drewN' ?_ _) | (with_reducible refine Below.setCell ?_ ?_ _) | (with_reducible exact Nat.le_refl _) | omega | (simp; done) | (simp; omega)))
  have c2 : W.cell? ⟨G, 2, none⟩ = some (.int .i64 j) := (bG.cells 2).trans h2
  have c4 : W.cell? ⟨G, 4, none⟩ = some (.int .i64 J) := (bG.cells 4).trans h4
  have lG := bG.lt
  have cR := bR.cells
  have fR := bR.free
  have lR := bR.lt
  go_enter Tryz.func54, Tryz.ntmps54
  go_wp2_with fail
  rw [← hW]
  clear hW
  refine wp_region_still_tail 11 (by kernel_rfl) (by kernel_rfl) ?_
  simp only [List.take_succ_cons, List.take_zero, List.drop_succ_cons, List.drop_zero]
  change wpStill _ _ W.drew _ _ _
  repeat still_step
  refine wpStill_nil ?_
  change wpList _ _ _ _ _ W.drew
  go_wp2_with fail
  have bR2 := ((bR.set_ 0 (.int .i64 J)).set_ 1 (.int .i64 j)).drew
  have cR2 := bR2.cells
  clear cR fR lR
  refine bodyPost_ret (v := .agg #[.int .i64 J, .int .i64 j]) (by simp [results, Tryz.results54, go_sem, cR2]) rfl ?_
  exact ⟨rfl, ((BW.setCell (p := ⟨w.heap.size, 0, none⟩) (by simp) _).setCell (p := ⟨w.heap.size, 1, none⟩) (by simp) _).drew⟩

/-- The bitmap as a string. -/
def mapS (us : List Bool) : ByteArray := strOfNums (encL us us.length)
theorem mapS_size (us : List Bool) : (mapS us).size = 96 := by unfold mapS; rw [strOfNums_size, encL_length]
set_option maxRecDepth 100000 in
set_option maxHeartbeats 1000000 in
theorem bitmap_any (G : Nat) (t : TypeId) (cs : Array Value) (M : Int) (s j i : Int) (A : Option Addr) (c : Nat) (us : List Bool) (hus : us.length ≤ 1000) (hC : CkE s j i us.length = 0) (w : World) (b : Blk w G t cs) (h5 : cs[5]? = some (.int .i64 M)) (hR : Reads w A (us.map .bool)) :
    Calls Tryz.prog 39 #[.pointer (some ⟨G, 0, none⟩), .agg #[.int .i64 s, .int .i64 j, .int .i64 i, .slice A us.length c]] w fun e w' => e = .returned (.agg #[.int .i64 M, .int .i64 5, .string (mapS us)]) ∧ Below w.heap.size w w' := by
  obtain ⟨W, hW⟩ : ∃ W, W = (w.alloc (.cells #[.int .i64 s, .int .i64 j, .int .i64 i, .slice A us.length c] 69)).alloc (.cells #[.int .i64 0, .int .i64 0, .string ⟨#[]⟩] 40) := ⟨_, rfl⟩
  have bG : Blk W G t cs := by rw [hW]; exact (b.alloc _).alloc _
  have bS : Blk W w.heap.size 69 #[.int .i64 s, .int .i64 j, .int .i64 i, .slice A us.length c] := by rw [hW]; exact (by (repeat' (first | (with_reducible assumption) | exact Blk.new' (by simp) | refine Blk.alloc ?_ _)))
  have bR : Blk W (w.heap.size + 1) 40 #[.int .i64 0, .int .i64 0, .string ⟨#[]⟩] := by rw [hW]; exact (by (repeat' (first | (with_reducible assumption) | exact Blk.new' (by simp) | refine Blk.alloc ?_ _)))
  have BW : Below w.heap.size w W := by rw [hW]; (repeat' (first | (with_reducible exact Below.refl _ _) | (with_reducible assumption) | (with_reducible refine Below.alloc ?_ ?_ _) | (with_reducible refine Below.drew ?_) | (with_reducible refine below_drewN' ?_ _) | (with_reducible refine Below.setCell ?_ ?_ _) | (with_reducible exact Nat.le_refl _) | omega | (simp; done) | (simp; omega)))
  have hen := encode_any s j i A c us hus W (hR.below BW)
  have cS := bS.cells
  have lS := bS.lt
  go_enter Tryz.func39, Tryz.ntmps39
  go_wp2_with fail
  rw [← hW]
  clear hW
  go_wp2_with fail
  refine hen.mono ?_
  rintro e w1 ⟨hb1, he⟩
  obtain ⟨-, g, rfl, hg, hRg⟩ := he.resolve_left (fun h => h.1 hC)
  have bG1 := bG.belowAll hb1
  have bR1 := bR.belowAll hb1
  have B1 := BW.trans (hb1.mono BW.size)
  have hcv := conv_bytes (some ⟨g, 0, none⟩) 96 96 (encL us us.length) (encL_length _ _) w1.drew (hRg.below (Below.refl _ _).drew)
  have HM : Hid (strOfNums (encL us us.length) = mapS us) := Lib.hid rfl
  generalize strOfNums (encL us us.length) = ms at *
  clear hb1 hen cS lS bG bR bS BW hRg
  have c5 : w1.cell? ⟨G, 5, none⟩ = some (.int .i64 M) := (bG1.cells 5).trans h5
  have lG := bG1.lt
  go_wp2_with fail
  refine wp_region_still_tail 8 (by kernel_rfl) (by kernel_rfl) ?_
  simp only [List.take_succ_cons, List.take_zero, List.drop_succ_cons, List.drop_zero]
  change wpStill _ _ w1.drew _ _ _
  repeat still_step
  refine wpStill_nil ?_
  change wpList _ _ _ _ _ w1.drew
  have cR := bR1.cells
  have fR := bR1.free
  have lR := bR1.lt
  go_wp2_with fail
  have bR2 := (((bR1.set_ 0 (.int .i64 M)).set_ 1 (.int .i64 5)).set_ 2 (.string ms)).drew
  have cR2 := bR2.cells
  clear cR fR lR
  refine bodyPost_ret (v := .agg #[.int .i64 M, .int .i64 5, .string ms]) (by simp [results, Tryz.results39, go_sem, cR2]) rfl ?_
  exact ⟨by rw [HM.out], (((B1.setCell (p := ⟨w.heap.size + 1, 0, none⟩) (by simp) _).setCell (p := ⟨w.heap.size + 1, 1, none⟩) (by simp) _).setCell (p := ⟨w.heap.size + 1, 2, none⟩) (by simp) _).drew⟩

end Go.Proofs.YtfgfdjaiamaelaaGreatDoor
/- Layer 10 in plain words: records by their sectors. No program in sight. -/
namespace Go.Proofs.YtfgfdjaiamaelaaGreatDoor
open Go.RowKit Go.Maps

/-- Ascending by their sectors. -/
def Asc (l : List Rec) : Prop := l.Pairwise (fun a b => a.at_ < b.at_)
def insRec : List Rec → Rec → List Rec
  | [], r => [r]
  | x :: t, r => if r.at_ < x.at_ then r :: x :: t else if r.at_ = x.at_ then r :: t else x :: insRec t r
def atRec (l : List Rec) (a : Int) : Option Rec := l.find? (fun r => r.at_ == a)
theorem insRec_at (l : List Rec) (r : Rec) (a : Int) : atRec (insRec l r) a = if r.at_ = a then some r else atRec l a := by
  unfold atRec
  induction l with
  | nil => unfold insRec; by_cases h : r.at_ = a <;> simp [h]
  | cons x t ih =>
    unfold insRec
    by_cases h1 : r.at_ < x.at_
    · rw [if_pos h1]
      by_cases h : r.at_ = a <;> simp [List.find?_cons, h]
    · rw [if_neg h1]
      by_cases h2 : r.at_ = x.at_
      · rw [if_pos h2]
        by_cases h : r.at_ = a
        · simp [h]
        · have : ¬ x.at_ = a := by omega
          simp [h, this]
      · rw [if_neg h2, List.find?_cons, ih]
        by_cases h : r.at_ = a
        · have e : (x.at_ == a) = false := by simp; omega
          rw [e, if_pos h, if_pos h]
        · rw [if_neg h, if_neg h, List.find?_cons]
theorem insRec_mem {l : List Rec} {r y : Rec} (h : y ∈ insRec l r) : y = r ∨ y ∈ l := by
  induction l with
  | nil => unfold insRec at h; simp at h; exact .inl h
  | cons x t ih =>
    unfold insRec at h
    split at h
    · rcases List.mem_cons.1 h with h | h
      · exact .inl h
      · exact .inr h
    · split at h
      · rcases List.mem_cons.1 h with h | h
        · exact .inl h
        · exact .inr (List.mem_cons_of_mem _ h)
      · rcases List.mem_cons.1 h with h | h
        · exact .inr (by simp [h])
        · rcases ih h with h | h
          · exact .inl h
          · exact .inr (List.mem_cons_of_mem _ h)
theorem insRec_asc {l : List Rec} (h : Asc l) (r : Rec) : Asc (insRec l r) := by
  induction l with
  | nil => exact List.pairwise_singleton _ _
  | cons x t ih =>
    obtain ⟨h1, h2⟩ := List.pairwise_cons.1 h
    unfold insRec
    split
    · rename_i hlt
      exact List.pairwise_cons.2 ⟨fun y hy => by
        rcases List.mem_cons.1 hy with rfl | hy
        · exact hlt
        · exact Int.lt_trans hlt (h1 y hy), h⟩
    · split
      · rename_i heq
        exact List.pairwise_cons.2 ⟨fun y hy => by rw [heq]; exact h1 y hy, h2⟩
      · rename_i n1 n2
        exact List.pairwise_cons.2 ⟨fun y hy => by
          rcases insRec_mem hy with rfl | hy
          · omega
          · exact h1 y hy, ih h2⟩
theorem atRec_mem {l : List Rec} {a : Int} {r : Rec} (h : atRec l a = some r) : r ∈ l ∧ r.at_ = a := by
  have h1 := List.mem_of_find?_eq_some h
  have h2 := List.find?_some h
  exact ⟨h1, by simpa using h2⟩
theorem atRec_none {l : List Rec} {a : Int} (h : atRec l a = none) : ∀ r ∈ l, r.at_ ≠ a := by
  intro r hr e
  have := List.find?_eq_none.1 h r hr
  simp [e] at this
theorem insRec_length {l : List Rec} (h : Asc l) (r : Rec) : (insRec l r).length = if (atRec l r.at_).isSome then l.length else l.length + 1 := by
  induction l with
  | nil => rfl
  | cons x t ih =>
    obtain ⟨h1, h2⟩ := List.pairwise_cons.1 h
    have ih := ih h2
    unfold insRec
    unfold atRec at ih ⊢
    rw [List.find?_cons]
    by_cases n1 : r.at_ < x.at_
    · rw [if_pos n1]
      have e1 : (x.at_ == r.at_) = false := by simp; omega
      have e2 : t.find? (fun y => y.at_ == r.at_) = none := List.find?_eq_none.2 (fun y hy => by have := h1 y hy; simp; omega)
      rw [e1]
      simp only [e2]
      rfl
    · rw [if_neg n1]
      by_cases n2 : r.at_ = x.at_
      · rw [if_pos n2]
        have e1 : (x.at_ == r.at_) = true := by simp [n2]
        rw [e1]; rfl
      · rw [if_neg n2]
        have e1 : (x.at_ == r.at_) = false := by simp; omega
        rw [e1, List.length_cons, ih]
        simp only [List.length_cons]
        split <;> rfl

/-! A record as the element of a map. -/
def recD (r : Rec) : DataW Unit := .agg [.lit (.int .i64 r.at_), .lit (.int .i64 r.kind), .lit (.string r.data.data.toList)]
def recR : Value → Option (DataW Unit × List MemPlace)
  | .agg ⟨[.int .i64 a, .int .i64 k, .string s]⟩ => some (recD ⟨a, k, s⟩, [])
  | _ => none
theorem recR_mk (r : Rec) : recR (.agg (recC r)) = some (recD r, []) := rfl
theorem recD_inj {r s : Rec} (h : recD r = recD s) : r = s := by
  unfold recD at h
  simp only [DataW.agg.injEq, List.cons.injEq, DataW.lit.injEq, Lit.int.injEq, true_and, and_true, Lit.string.injEq] at h
  obtain ⟨h1, h2, h3⟩ := h
  obtain ⟨a, k, d⟩ := r
  obtain ⟨a', k', d'⟩ := s
  simp only at h1 h2 h3
  subst h1 h2
  have : d = d' := by apply ByteArray.ext; exact Array.toList_inj.1 h3
  subst this; rfl
theorem recR_inv {v : Value} {r : Rec} {ps : List MemPlace} (h : recR v = some (recD r, ps)) : v = .agg (recC r) := by
  unfold recR at h
  split at h
  · rename_i a k s
    simp only [Option.some.injEq, Prod.mk.injEq] at h
    have := recD_inj h.1
    subst this; rfl
  · cases h

/-- A map that holds the records of a list. -/
structure RecMap (D : DataW Unit) (l : List Rec) : Prop where
  tidy : Tidy D
  at_ : ∀ a z, D.atKey (.int .i64 a) z = match atRec l a with | some r => recD r | none => z
  has_ : ∀ a, has D (.int .i64 a) = (atRec l a).isSome
  size_ : size D = l.length
  asc : Asc l
theorem RecMap.empty : RecMap (.map []) [] := ⟨tidy_empty, fun _ _ => rfl, fun _ => rfl, rfl, List.Pairwise.nil⟩
theorem RecMap.put {D : DataW Unit} {l : List Rec} (h : RecMap D l) (r : Rec) : RecMap (D.put (.int .i64 r.at_) (recD r)) (insRec l r) := by
  refine ⟨h.tidy.put (show WideAt.IsKeyLit (.int .i64 r.at_) from trivial) _, fun a z => ?_, fun a => ?_, ?_, insRec_asc h.asc r⟩
  · rw [insRec_at]
    by_cases e : r.at_ = a
    · subst e
      rw [if_pos rfl]
      exact atKey_put_same h.tidy.isMap (show WideAt.IsKeyLit (.int .i64 r.at_) from trivial) _ _
    · rw [if_neg e, atKey_put_other (by intro x; cases x; exact e rfl), h.at_]
  · rw [insRec_at]
    by_cases e : r.at_ = a
    · subst e
      rw [if_pos rfl]
      exact has_put_same h.tidy.isMap (show WideAt.IsKeyLit (.int .i64 r.at_) from trivial) _
    · rw [if_neg e, has_put_other (by intro x; cases x; exact e rfl), h.has_]
  · rw [size_put h.tidy, h.has_, h.size_, insRec_length h.asc]

end Go.Proofs.YtfgfdjaiamaelaaGreatDoor
