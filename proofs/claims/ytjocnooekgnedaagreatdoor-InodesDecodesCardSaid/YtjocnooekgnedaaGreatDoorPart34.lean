/- Parts of the proof, put together by program: KG, KH, KL, KI, KD, KJ. -/
import Derived.Test.YtjocnooekgnedaaGreatDoorPart33
import Derived.Test.YtjocnooekgnedaaGreatDoorPart28
import Derived.Test.YtjocnooekgnedaaGreatDoorPart08
import Derived.Laws.Rows
import Derived.Shelf.Sort.Plain
import Derived.Shelf.Slices.In.SortNone
import Derived.Shelf.Slices.CompactI
import Derived.Shelf.Spec.SlicesGrow
import Derived.Test.YtjocnooekgnedaaGreatDoorProg
import Derived.Test.YtjocnooekgnedaaGreatDoorPart02
import Derived.Test.YtjocnooekgnedaaGreatDoorPart03
import Derived.Lib.RowBridge
set_option linter.unusedVariables false
set_option linter.unusedSimpArgs false
/- Layer 11: Get, given what Decode returns. -/
namespace Go.Proofs.YtjocnooekgnedaaGreatDoor
open Go.RowKit Go.Maps

set_option maxRecDepth 100000 in
set_option maxHeartbeats 2000000 in
theorem Get_bad (tv : Value) (E n : Int) (w : World) (h : StE w tv E) (hE : E ≠ 0) :
    Calls Tryz.prog 25 #[tv, .int .i64 n] w (InoPost w (ino0, E)) := by
  obtain ⟨wA, hA⟩ : ∃ wA, wA = w.alloc (.cells inoZ 26) := ⟨_, rfl⟩
  have bR : Blk wA w.heap.size 26 inoZ := by rw [hA]; exact (by (repeat' (first | (with_reducible assumption) | exact Blk.new' (by simp) | refine Blk.alloc ?_ _)))
  have BA : Below w.heap.size w wA := by rw [hA]; (repeat' (first | (with_reducible exact Below.refl _ _) | (with_reducible assumption) | (with_reducible refine Below.alloc ?_ ?_ _) | (with_reducible refine Below.drew ?_) | (with_reducible refine below_drewN' ?_ _) | (with_reducible refine Below.setCell ?_ ?_ _) | (with_reducible exact Nat.le_refl _) | omega | (simp; done) | (simp; omega)))
  have hop := iopen_bad tv E wA (h.below BA) hE
  have hE' : (E != 0) = true := by simpa using hE
  clear hE h
  go_enter Tryz.func25, Tryz.ntmps25
  go_wp2_with fail
  rw [← hA]
  clear hA
  go_wp2_with fail
  refine hop.mono ?_
  rintro e w1 ⟨rfl, hb1⟩
  obtain ⟨w2, hw2⟩ : ∃ w2, w1.alloc (.cells lay0 23) = w2 := ⟨_, rfl⟩
  have b12 : Below w1.heap.size w1 w2 := by rw [← hw2]; exact (Below.refl _ _).alloc (Nat.le_refl _) _
  have bR2 : Blk w2 w.heap.size 26 inoZ := (bR.belowAll hb1).belowAll b12
  have B1 := BA.trans (hb1.mono BA.size)
  have B2 := B1.trans (b12.mono B1.size)
  have hst := storeRow (ty := 26) (vs := inoZ) bR2 rfl (by simp [Value.oneCell']) (by kernel_rfl)
  have HW := Lib.hid hw2
  clear hw2 b12 hop bR BA hb1 B1
  go_upto_region 2 with fail
  rw [HW.out]
  go_wp2_with (refine wpList_storeBy rfl _ _ _ rfl _ _ rfl rfl hst ?_)
  have cF := (bR2.setRow (cs' := inoZ)).cells
  refine bodyPost_ret (v := .tuple #[.agg inoZ, .int .i64 E]) (by simp [results, Tryz.results25, go_sem, cF]) rfl ?_
  exact ino_none E (Below.setRow B2 (Nat.le_refl _) _)

/-- What Get hands back. -/
def TxS.iGet (y : TxS) (x : DevS) (n : Int) : Ino × Int := if n < 1 ∨ y.i < n then (ino0, 7) else y.iget x n
set_option maxRecDepth 100000 in
set_option maxHeartbeats 4000000 in
theorem Get_tx (hD : DecodeAll) (T : Nat) (F : List Nat) (D : Nat) (y : TxS) (B : List Nat) (x : DevS) (n : Int) (w : World) (h : TxAt w T F D y) (hd : DevAt w D B x) (hs : y.stateE = 0) :
    Calls Tryz.prog 25 #[.pointer (some ⟨T, 0, none⟩), .int .i64 n] w (InoPost w (y.iGet x n)) := by
  obtain ⟨wA, hA⟩ : ∃ wA, wA = w.alloc (.cells inoZ 26) := ⟨_, rfl⟩
  have bR : Blk wA w.heap.size 26 inoZ := by rw [hA]; exact (by (repeat' (first | (with_reducible assumption) | exact Blk.new' (by simp) | refine Blk.alloc ?_ _)))
  have BA : Below w.heap.size w wA := by rw [hA]; (repeat' (first | (with_reducible exact Below.refl _ _) | (with_reducible assumption) | (with_reducible refine Below.alloc ?_ ?_ _) | (with_reducible refine Below.drew ?_) | (with_reducible refine below_drewN' ?_ _) | (with_reducible refine Below.setCell ?_ ?_ _) | (with_reducible exact Nat.le_refl _) | omega | (simp; done) | (simp; omega)))
  have hop := iopen_tx T F D y wA (h.below BA) hs
  have HX := Lib.hid (And.intro h hd)
  have HS := Lib.hid hs
  clear h hd hs
  go_enter Tryz.func25, Tryz.ntmps25
  go_wp2_with fail
  rw [← hA]
  clear hA
  go_wp2_with fail
  refine hop.mono ?_
  rintro e w1 ⟨rfl, hb1⟩
  obtain ⟨w2, hw2⟩ : ∃ w2, w1.alloc (.cells (layC y) 23) = w2 := ⟨_, rfl⟩
  obtain ⟨N2, hN2⟩ : ∃ N2, w1.heap.size = N2 := ⟨_, rfl⟩
  have b12 : Below w1.heap.size w1 w2 := by rw [← hw2]; exact (Below.refl _ _).alloc (Nat.le_refl _) _
  have bL2 : Blk w2 N2 23 (layC y) := by rw [← hw2, ← hN2]; exact Blk.new _ _ _
  have bR2 : Blk w2 w.heap.size 26 inoZ := (bR.belowAll hb1).belowAll b12
  have B1 := BA.trans (hb1.mono BA.size)
  have B2 := B1.trans (b12.mono B1.size)
  have hst := storeRow (ty := 26) (vs := inoZ) bR2 rfl (by simp [Value.oneCell']) (by kernel_rfl)
  have HST := Lib.hid hst
  have HW := Lib.hid hw2
  have HN := Lib.hid hN2
  clear hw2 hN2 b12 hop bR BA hb1 B1 hst
  go_upto_region 2 with fail
  rw [HW.out, HN.out]
  have cL := bL2.cells
  have lL := bL2.lt
  by_cases hn : n < 1 ∨ y.i < n
  · have HG : Hid (y.iGet x n = (ino0, 7)) := Lib.hid (by unfold TxS.iGet; rw [if_pos hn])
    have hst := HST.out
    have lR := bR2.lt
    by_cases h1 : n < 1
    all_goals
      as_aux_lemma =>
        first
          | have d1 : n < 1 := h1
          | (have d1 : ¬ n < 1 := h1
             have d2 : y.i < n := by omega)
        clear hn h1
        go_wp2_with (refine wpList_storeBy rfl _ _ _ rfl _ _ rfl rfl hst ?_)
        have cF := (bR2.setRow (cs' := inoZ)).cells
        refine bodyPost_ret (v := .tuple #[.agg inoZ, .int .i64 7]) (by simp [results, Tryz.results25, go_sem, cF]) rfl ?_
        rw [HG.out]
        exact ino_none 7 (Below.setRow B2 (Nat.le_refl _) _)
  · have HG : Hid (y.iGet x n = y.iget x n) := Lib.hid (by unfold TxS.iGet; rw [if_neg hn])
    have hg := get_tx hD T F D y B x n w2 (HX.out.1.below B2) (HX.out.2.below B2) HS.out (by omega)
    have d1 : ¬ n < 1 := by omega
    have d2 : ¬ y.i < n := by omega
    clear hn
    go_wp2_with fail
    refine hg.mono ?_
    rintro e w3 ⟨bv, av, rfl, o1, o2, hb3⟩
    obtain ⟨Ab, cb, rfl⟩ := own_slice o1
    obtain ⟨Aa, ca, rfl⟩ := own_slice o2
    obtain ⟨r, hr⟩ : ∃ r, y.iget x n = r := ⟨_, rfl⟩
    rw [hr] at o1 o2 ⊢
    have HR := Lib.hid (HG.out.trans hr)
    have bR3 := bR2.belowAll hb3
    have B3 := B2.trans (hb3.mono B2.size)
    have hst := storeRow (ty := 26) (vs := inoC r.1 (.slice Ab r.1.blocks.length cb) (.slice Aa r.1.attrs.length ca)) bR3 rfl (by simp [Value.oneCell']) (by kernel_rfl)
    have lR := bR3.lt
    have hRv : w.heap.size < w2.heap.size := bR2.lt
    have CF2 := Lib.hid (bR3.setRow (cs' := inoC r.1 (.slice Ab r.1.blocks.length cb) (.slice Aa r.1.attrs.length ca))).cells
    clear hg cL lL hr d1 d2
    go_wp2_with (refine wpList_storeBy rfl _ _ _ rfl _ _ rfl rfl hst ?_)
    have cF := CF2.out
    refine bodyPost_ret (v := .tuple #[.agg (inoC r.1 (.slice Ab r.1.blocks.length cb) (.slice Aa r.1.attrs.length ca)), .int .i64 r.2]) (by simp [results, Tryz.results25, go_sem, cF]) rfl ?_
    rw [HR.out]
    exact ⟨_, _, rfl, own_base (own_block o1 fun q hq => setRow_other _ _ _ _ (fun e => by have := (own_lt o1 q hq).1; omega)) (Nat.le_of_lt hRv), own_base (own_block o2 fun q hq => setRow_other _ _ _ _ (fun e => by have := (own_lt o2 q hq).1; omega)) (Nat.le_of_lt hRv), Below.setRow B3 (Nat.le_refl _) _⟩
end Go.Proofs.YtjocnooekgnedaaGreatDoor
/- Layer 11: Put, given what Encode returns. -/
namespace Go.Proofs.YtjocnooekgnedaaGreatDoor
open Go.RowKit Go.Maps

/-- An inode's lists as they lie in memory. -/
structure InoIn (w : World) (v : Ino) (A : Option Addr) (c : Nat) (A2 : Option Addr) (c2 : Nat) : Prop where
  r1 : Reads w A (v.blocks.map (.int .i64))
  r2 : Reads w A2 (v.attrs.map (.int .i64))
  n1 : v.blocks.length ≤ 1000
  n2 : v.attrs.length ≤ 1000
theorem InoIn.below {w w' : World} {v : Ino} {A A2 : Option Addr} {c c2 : Nat} (h : InoIn w v A c A2 c2) (hb : Below w.heap.size w w') : InoIn w' v A c A2 c2 := ⟨h.r1.below hb, h.r2.below hb, h.n1, h.n2⟩
/-- The contract of Encode. -/
def EncodeAll : Prop := ∀ (s j i : Int) (v : Ino) (A : Option Addr) (c : Nat) (A2 : Option Addr) (c2 : Nat) (w : World), rgE s j i = 0 → InoIn w v A c A2 c2 →
  Calls Tryz.prog 12 #[.agg #[.int .i64 s, .int .i64 j, .int .i64 i], .agg (inoC v (.slice A v.blocks.length c) (.slice A2 v.attrs.length c2))] w fun e w' => ∃ B n c3, e = .returned (.tuple #[.slice B n c3, .int .i64 (inoE s j i v)]) ∧ Below w.heap.size w w' ∧ (inoE s j i v = 0 → n = (encI v).length ∧ Reads w' B ((encI v).map (.int .u8)))

set_option maxRecDepth 100000 in
set_option maxHeartbeats 2000000 in
theorem Put_bad (tv : Value) (E n : Int) (cs : Array Value) (hcs : cs.size = 8) (w : World) (h : StE w tv E) (hE : E ≠ 0) :
    Calls Tryz.prog 20 #[tv, .int .i64 n, .agg cs] w fun e w' => e = .returned (.int .i64 E) ∧ Below w.heap.size w w' := by
  obtain ⟨wA, hA⟩ : ∃ wA, wA = w.alloc (.cells cs 26) := ⟨_, rfl⟩
  have BA : Below w.heap.size w wA := by rw [hA]; (repeat' (first | (with_reducible exact Below.refl _ _) | (with_reducible assumption) | (with_reducible refine Below.alloc ?_ ?_ _) | (with_reducible refine Below.drew ?_) | (with_reducible refine below_drewN' ?_ _) | (with_reducible refine Below.setCell ?_ ?_ _) | (with_reducible exact Nat.le_refl _) | omega | (simp; done) | (simp; omega)))
  have hop := iopen_bad tv E wA (h.below BA) hE
  have hE' : (E != 0) = true := by simpa using hE
  clear hE h
  go_enter Tryz.func20, Tryz.ntmps20
  go_wp2_with fail
  rw [← hA]
  clear hA
  go_wp2_with fail
  refine hop.mono ?_
  rintro e w1 ⟨rfl, hb1⟩
  obtain ⟨w2, hw2⟩ : ∃ w2, w1.alloc (.cells lay0 23) = w2 := ⟨_, rfl⟩
  have b12 : Below w1.heap.size w1 w2 := by rw [← hw2]; exact (Below.refl _ _).alloc (Nat.le_refl _) _
  have B1 := BA.trans (hb1.mono BA.size)
  have B2 := B1.trans (b12.mono B1.size)
  have HW := Lib.hid hw2
  clear hw2 b12 hop BA hb1 B1
  go_upto_region 2 with fail
  rw [HW.out]
  go_wp2_with fail
  go_ret
  exact ⟨rfl, B2⟩

set_option maxRecDepth 100000 in
set_option maxHeartbeats 4000000 in
theorem Put_tx (hN : EncodeAll) (T : Nat) (F : List Nat) (D : Nat) (y : TxS) (n : Int) (v : Ino) (A : Option Addr) (c : Nat) (A2 : Option Addr) (c2 : Nat) (w : World) (h : TxAt w T F D y) (hs : y.stateE = 0) (hv : InoIn w v A c A2 c2) :
    Calls Tryz.prog 20 #[.pointer (some ⟨T, 0, none⟩), .int .i64 n, .agg (inoC v (.slice A v.blocks.length c) (.slice A2 v.attrs.length c2))] w (TxDid w T F D (y.iput n v).1 (y.iput n v).2) := by
  have hbd := h.ok.bds
  have hrg := h.ok.rg
  obtain ⟨wA, hA⟩ : ∃ wA, wA = w.alloc (.cells (inoC v (.slice A v.blocks.length c) (.slice A2 v.attrs.length c2)) 26) := ⟨_, rfl⟩
  have bV : Blk wA w.heap.size 26 (inoC v (.slice A v.blocks.length c) (.slice A2 v.attrs.length c2)) := by rw [hA]; exact (by (repeat' (first | (with_reducible assumption) | exact Blk.new' (by simp) | refine Blk.alloc ?_ _)))
  have BA : Below w.heap.size w wA := by rw [hA]; (repeat' (first | (with_reducible exact Below.refl _ _) | (with_reducible assumption) | (with_reducible refine Below.alloc ?_ ?_ _) | (with_reducible refine Below.drew ?_) | (with_reducible refine below_drewN' ?_ _) | (with_reducible refine Below.setCell ?_ ?_ _) | (with_reducible exact Nat.le_refl _) | omega | (simp; done) | (simp; omega)))
  have hop := iopen_tx T F D y wA (h.below BA) hs
  have HX := Lib.hid h
  have HV := Lib.hid hv
  have HS := Lib.hid hs
  have HRG := Lib.hid hrg
  have HBD := Lib.hid hbd
  have HI : Hid (y.iput n v = if n < 1 ∨ y.i < n then (7, y) else if inoE y.s y.j y.i v ≠ 0 then (inoE y.s y.j y.i v, y) else y.write (tabAt y n) 6 (strOfNums (encI v))) := Lib.hid (by unfold TxS.iput; rw [if_neg (by simpa using hs)])
  clear h hs hv hrg hbd
  go_enter Tryz.func20, Tryz.ntmps20
  go_wp2_with fail
  rw [← hA]
  clear hA
  go_wp2_with fail
  refine hop.mono ?_
  rintro e w1 ⟨rfl, hb1⟩
  obtain ⟨w2, hw2⟩ : ∃ w2, w1.alloc (.cells (layC y) 23) = w2 := ⟨_, rfl⟩
  obtain ⟨N2, hN2⟩ : ∃ N2, w1.heap.size = N2 := ⟨_, rfl⟩
  have b12 : Below w1.heap.size w1 w2 := by rw [← hw2]; exact (Below.refl _ _).alloc (Nat.le_refl _) _
  have bL2 : Blk w2 N2 23 (layC y) := by rw [← hw2, ← hN2]; exact Blk.new _ _ _
  have bV2 := (bV.belowAll hb1).belowAll b12
  have B1 := BA.trans (hb1.mono BA.size)
  have B2 := B1.trans (b12.mono B1.size)
  have HW := Lib.hid hw2
  have HN := Lib.hid hN2
  clear hw2 hN2 b12 hop bV BA hb1 B1
  go_upto_region 2 with fail
  rw [HW.out, HN.out]
  have cL := bL2.cells
  have lL := bL2.lt
  have cV := bV2.cells
  have lV := bV2.lt
  by_cases hn : n < 1 ∨ y.i < n
  · have HG : Hid (y.iput n v = (7, y)) := Lib.hid (by rw [HI.out, if_pos hn])
    by_cases h1 : n < 1
    all_goals
      as_aux_lemma =>
        first
          | have d1 : n < 1 := h1
          | (have d1 : ¬ n < 1 := h1
             have d2 : y.i < n := by omega)
        clear hn h1 HI
        go_wp2_with fail
        go_ret
        rw [HG.out]
        exact ⟨rfl, F, HX.out.below B2, Grow.of_below B2 F⟩
  · have henc := hN y.s y.j y.i v A c A2 c2 w2 HRG.out (HV.out.below B2)
    have d1 : ¬ n < 1 := by omega
    have d2 : ¬ y.i < n := by omega
    go_wp2_with fail
    refine henc.mono ?_
    rintro e w3 ⟨Bp, bn, c3, rfl, hb3, hen⟩
    have B3 := B2.trans (hb3.mono B2.size)
    by_cases hE : inoE y.s y.j y.i v = 0
    rotate_left
    · have HG : Hid (y.iput n v = (inoE y.s y.j y.i v, y)) := Lib.hid (by rw [HI.out, if_neg hn, if_pos hE])
      have dE : (inoE y.s y.j y.i v != 0) = true := by simpa using hE
      clear hn hE HI henc hen d1 d2
      go_wp2_with fail
      go_ret
      rw [HG.out]
      exact ⟨rfl, F, HX.out.below B3, Grow.of_below B3 F⟩
    · have HG : Hid (y.iput n v = y.write (tabAt y n) 6 (strOfNums (encI v))) := Lib.hid (by rw [HI.out, if_neg hn, if_neg (by simpa using hE)])
      obtain ⟨rfl, hRb⟩ := hen hE
      have hbd := HBD.out
      have hcv := conv_bytes Bp (encI v).length c3 (encI v) rfl w3 hRb
      have hsz : (strOfNums (encI v)).size ≤ 1000000 := by rw [strOfNums_size]; have := (dec_enc_ino (inoE_ok.1 hE)).2; omega
      have hwt := write_tx T F D y (2 + y.j + n - 1) 6 (strOfNums (encI v)) w3 (HX.out.below B3) (by omega) hsz
      have m1 : IntKind.i64.wrap (2 + y.j + n) = 2 + y.j + n := by rw [IntKind.wrap_i64]; omega
      have m2 : IntKind.i64.wrap (2 + y.j + n - 1) = 2 + y.j + n - 1 := by rw [IntKind.wrap_i64]; omega
      have HG2 : Hid (y.iput n v = y.write (2 + y.j + n - 1) 6 (strOfNums (encI v))) := HG
      generalize strOfNums (encI v) = bs at *
      rw [hE]
      clear hn hE HI henc hen hsz HG hbd hRb
      go_wp2_with fail
      refine hwt.mono ?_
      rintro e w4 ⟨rfl, F4, ht, g⟩
      have HT := Lib.hid ht
      have HGr := Lib.hid g
      clear hwt ht g m1 m2 hcv cL lL cV lV
      go_wp2_with fail
      go_ret
      rw [HG2.out]
      exact ⟨rfl, F4, HT.out, (Grow.of_below B3 F).trans HGr.out⟩
end Go.Proofs.YtjocnooekgnedaaGreatDoor
/- Layer 11: the kinds of inodes and the limits of their numbers. -/
namespace Go.Proofs.YtjocnooekgnedaaGreatDoor
open Go.RowKit Go.Maps

abbrev kindsV (i : Int) : Array Value := #[.int .i64 0, .int .i64 0, .int .i64 0, .int .i64 0, .int .i64 0, .int .i64 0, .int .i64 0, .int .i64 0, .int .i64 0, .int .i64 0,
  .int .i64 1, .int .i64 1, .int .i64 0, .int .i64 24, .int .i64 0, .int .i64 0, .int .i64 0, .int .i64 0, .int .i64 1, .int .i64 i,
  .int .i64 1, .int .i64 120, .int .i64 0, .int .i64 384, .int .i64 0, .int .i64 0, .int .i64 0, .int .i64 0, .int .i64 0, .int .i64 0,
  .int .i64 1, .int .i64 120, .int .i64 1, .int .i64 200, .int .i64 0, .int .i64 0, .int .i64 0, .int .i64 0, .int .i64 0, .int .i64 0,
  .int .i64 1, .int .i64 120, .int .i64 0, .int .i64 0, .int .i64 0, .int .i64 255, .int .i64 0, .int .i64 255, .int .i64 0, .int .i64 0]
abbrev zero50 : Array Value := #[.int .i64 0, .int .i64 0, .int .i64 0, .int .i64 0, .int .i64 0, .int .i64 0, .int .i64 0, .int .i64 0, .int .i64 0, .int .i64 0,
  .int .i64 0, .int .i64 0, .int .i64 0, .int .i64 0, .int .i64 0, .int .i64 0, .int .i64 0, .int .i64 0, .int .i64 0, .int .i64 0,
  .int .i64 0, .int .i64 0, .int .i64 0, .int .i64 0, .int .i64 0, .int .i64 0, .int .i64 0, .int .i64 0, .int .i64 0, .int .i64 0,
  .int .i64 0, .int .i64 0, .int .i64 0, .int .i64 0, .int .i64 0, .int .i64 0, .int .i64 0, .int .i64 0, .int .i64 0, .int .i64 0,
  .int .i64 0, .int .i64 0, .int .i64 0, .int .i64 0, .int .i64 0, .int .i64 0, .int .i64 0, .int .i64 0, .int .i64 0, .int .i64 0]

set_option maxRecDepth 100000 in
set_option maxHeartbeats 2000000 in
theorem kinds_any (s j i : Int) (w : World) :
    Calls Tryz.prog 34 #[.agg #[.int .i64 s, .int .i64 j, .int .i64 i]] w fun e w' => e = .returned (.agg (kindsV i)) ∧ Below w.heap.size w w' := by
  obtain ⟨wA, hA⟩ : ∃ wA, wA = (w.alloc (.cells #[.int .i64 s, .int .i64 j, .int .i64 i] 23)).alloc (.cells zero50 91) := ⟨_, rfl⟩
  have bL : Blk wA w.heap.size 23 #[.int .i64 s, .int .i64 j, .int .i64 i] := by rw [hA]; exact (by (repeat' (first | (with_reducible assumption) | exact Blk.new' (by simp) | refine Blk.alloc ?_ _)))
  have bR : Blk wA (w.heap.size + 1) 91 zero50 := by rw [hA]; exact (by (repeat' (first | (with_reducible assumption) | exact Blk.new' (by simp) | refine Blk.alloc ?_ _)))
  have BA : Below w.heap.size w wA := by rw [hA]; (repeat' (first | (with_reducible exact Below.refl _ _) | (with_reducible assumption) | (with_reducible refine Below.alloc ?_ ?_ _) | (with_reducible refine Below.drew ?_) | (with_reducible refine below_drewN' ?_ _) | (with_reducible refine Below.setCell ?_ ?_ _) | (with_reducible exact Nat.le_refl _) | omega | (simp; done) | (simp; omega)))
  obtain ⟨wB, hB⟩ : ∃ wB, wB = wA.alloc (.cells #[.int .i64 1, .int .i64 120] 88) := ⟨_, rfl⟩
  have hzA : wA.heap.size = w.heap.size + 2 := by rw [hA]; simp
  have bS : Blk wB (w.heap.size + 2) 88 #[.int .i64 1, .int .i64 120] := by rw [hB, ← hzA]; exact Blk.new _ _ _
  have b12 : Below wA.heap.size wA wB := by rw [hB]; exact (Below.refl _ _).alloc (Nat.le_refl _) _
  have bL2 := bL.belowAll b12
  have bR2 := bR.belowAll b12
  have B2 := BA.trans (b12.mono BA.size)
  have HA := Lib.hid hA
  have HB := Lib.hid hB
  have HZ := Lib.hid hzA
  clear hA hB hzA bL bR BA b12
  obtain ⟨V, hV⟩ : ∃ V, V = kindsV i := ⟨_, rfl⟩
  have hst := storeRow (ty := 91) (vs := V) bR2 (by rw [hV]; rfl) (by rw [hV]; simp [Value.oneCell']) (by rw [hV]; kernel_rfl)
  have HV := Lib.hid hV
  have HE : Hid (Below w.heap.size w (wB.setRow (w.heap.size + 1) V)) := Lib.hid (Below.setRow B2 (by omega) _)
  have cF := bR2.setRow (cs' := V)
  have hI : (Tryz.prog.info? 91).map (·.size) = some V.size := by rw [hV]; kernel_rfl
  clear hV
  have cL := bL2.cells
  have lL := bL2.lt
  have cS := bS.cells
  have lS := bS.lt
  clear bL2 bR2 bS B2
  go_enter Tryz.func34, Tryz.ntmps34
  go_upto_region 1 with fail
  rw [← HA.out]
  go_upto_region 2 with fail
  rw [HZ.out, ← HB.out]
  go_wp2_with (refine wpList_storeBy rfl _ _ _ rfl _ (.agg V) rfl (by rw [HV.out]; rfl) hst ?_)
  refine bodyPost_ret (v := .agg (kindsV i)) (by rw [← HV.out]; exact results_cell_row Tryz.results34 _ _ (w.heap.size + 1) 91 V (0, 0) _ (by rfl) cF Tryz.underlying91 rfl hI) rfl ?_
  exact ⟨rfl, HE.out⟩
end Go.Proofs.YtjocnooekgnedaaGreatDoor
/- The kit's contracts of slices.Sort and slices.Compact at []int, laid over this program (written by the kit's lay-plain). -/
namespace Go.Proofs.YtjocnooekgnedaaGreatDoor
open Go.Shelf
def Tryz.sortInts_ren : Go.Shelf.Ren := ⟨fun | 189 => 36 | 125 => 65 | 257 => 64 | 128 => 101 | 129 => 102 | 294 => 92 | 295 => 93 | 296 => 94 | 297 => 95 | 298 => 96 | 299 => 97 | 216 => 98 | 300 => 99 | 301 => 100 | 328 => 142 | 329 => 143 | 330 => 144 | 331 => 145 | 332 => 146 | 215 => 147 | 343 => 179 | n => n, fun | 28 => 24 | 3 => 3 | 46 => 145 | 0 => 0 | 51 => 81 | 53 => 40 | 4 => 4 | 183 => 188 | 182 => 187 | 131 => 193 | 5 => 5 | 9 => 9 | 218 => 230 | 222 => 100 | 228 => 269 | 229 => 270 | n => n, fun | n => n⟩
theorem Tryz.sortInts : Go.Proofs.Lays.n189 Tryz.prog Tryz.sortInts_ren := {
  mixed := by kernel_rfl
  f125 := Tryz.func65.trans (congrArg some (by kernel_rfl))
  f128 := Tryz.func101.trans (congrArg some (by kernel_rfl))
  f129 := Tryz.func102.trans (congrArg some (by kernel_rfl))
  f189 := Tryz.func36.trans (congrArg some (by kernel_rfl))
  f215 := Tryz.func147.trans (congrArg some (by kernel_rfl))
  f216 := Tryz.func98.trans (congrArg some (by kernel_rfl))
  f257 := Tryz.func64.trans (congrArg some (by kernel_rfl))
  f294 := Tryz.func92.trans (congrArg some (by kernel_rfl))
  f295 := Tryz.func93.trans (congrArg some (by kernel_rfl))
  f296 := Tryz.func94.trans (congrArg some (by kernel_rfl))
  f297 := Tryz.func95.trans (congrArg some (by kernel_rfl))
  f298 := Tryz.func96.trans (congrArg some (by kernel_rfl))
  f299 := Tryz.func97.trans (congrArg some (by kernel_rfl))
  f300 := Tryz.func99.trans (congrArg some (by kernel_rfl))
  f301 := Tryz.func100.trans (congrArg some (by kernel_rfl))
  f328 := Tryz.func142.trans (congrArg some (by kernel_rfl))
  f329 := Tryz.func143.trans (congrArg some (by kernel_rfl))
  f330 := Tryz.func144.trans (congrArg some (by kernel_rfl))
  f331 := Tryz.func145.trans (congrArg some (by kernel_rfl))
  f332 := Tryz.func146.trans (congrArg some (by kernel_rfl))
  f343 := Tryz.func179.trans (congrArg some (by kernel_rfl))
  t0 := Tryz.underlying0
  a0 := Tryz.isAgg0
  z0 := Tryz.sizeOf0
  v0 := Tryz.zeroValue0
  t3 := Tryz.underlying3
  a3 := Tryz.isAgg3
  z3 := Tryz.sizeOf3
  v3 := Tryz.zeroValue3
  t4 := Tryz.underlying4
  a4 := Tryz.isAgg4
  z4 := Tryz.sizeOf4
  v4 := Tryz.zeroValue4
  t5 := Tryz.underlying5
  a5 := Tryz.isAgg5
  z5 := Tryz.sizeOf5
  v5 := Tryz.zeroValue5
  t9 := Tryz.underlying9
  a9 := Tryz.isAgg9
  z9 := Tryz.sizeOf9
  v9 := Tryz.zeroValue9
  t28 := Tryz.underlying24
  a28 := Tryz.isAgg24
  z28 := Tryz.sizeOf24
  v28 := Tryz.zeroValue24
  t46 := Tryz.underlying145
  a46 := Tryz.isAgg145
  z46 := Tryz.sizeOf145
  v46 := Tryz.zeroValue145
  t51 := Tryz.underlying81
  a51 := Tryz.isAgg81
  z51 := Tryz.sizeOf81
  v51 := Tryz.zeroValue81
  t53 := Tryz.underlying40
  a53 := Tryz.isAgg40
  z53 := Tryz.sizeOf40
  v53 := Tryz.zeroValue40
  t131 := Tryz.underlying193
  a131 := Tryz.isAgg193
  z131 := Tryz.sizeOf193
  v131 := Tryz.zeroValue193
  t182 := Tryz.underlying187
  a182 := Tryz.isAgg187
  z182 := Tryz.sizeOf187
  v182 := Tryz.zeroValue187
  t183 := Tryz.underlying188
  a183 := Tryz.isAgg188
  z183 := Tryz.sizeOf188
  v183 := Tryz.zeroValue188
  t218 := Tryz.underlying230
  a218 := Tryz.isAgg230
  z218 := Tryz.sizeOf230
  v218 := Tryz.zeroValue230
  t222 := Tryz.underlying100
  a222 := Tryz.isAgg100
  z222 := Tryz.sizeOf100
  v222 := Tryz.zeroValue100
  t228 := Tryz.underlying269
  a228 := Tryz.isAgg269
  z228 := Tryz.sizeOf269
  v228 := Tryz.zeroValue269
  t229 := Tryz.underlying270
  a229 := Tryz.isAgg270
  z229 := Tryz.sizeOf270
  v229 := Tryz.zeroValue270 }
def Tryz.compactInts_ren : Go.Shelf.Ren := ⟨fun | 20 => 37 | n => n, fun | 22 => 24 | 3 => 3 | 4 => 4 | 0 => 0 | n => n, fun | n => n⟩
theorem Tryz.compactInts : Go.Proofs.Lays2.n20 Tryz.prog Tryz.compactInts_ren := {
  mixed := by kernel_rfl
  f20 := Tryz.func37.trans (congrArg some (by kernel_rfl))
  t0 := Tryz.underlying0
  a0 := Tryz.isAgg0
  z0 := Tryz.sizeOf0
  v0 := Tryz.zeroValue0
  t3 := Tryz.underlying3
  a3 := Tryz.isAgg3
  z3 := Tryz.sizeOf3
  v3 := Tryz.zeroValue3
  t4 := Tryz.underlying4
  a4 := Tryz.isAgg4
  z4 := Tryz.sizeOf4
  v4 := Tryz.zeroValue4
  t22 := Tryz.underlying24
  a22 := Tryz.isAgg24
  z22 := Tryz.sizeOf24
  v22 := Tryz.zeroValue24
  i3 := by kernel_rfl }
def Tryz.growInts_ren : Go.Shelf.Ren := ⟨fun | 4 => 63 | n => n, fun | 22 => 24 | 25 => 3 | 3 => 3 | 4 => 4 | 9 => 9 | 20 => 20 | 0 => 0 | n => n, fun | n => n⟩
theorem Tryz.growInts : Go.Proofs.Lays8.n4 Tryz.prog Tryz.growInts_ren := {
  mixed := by kernel_rfl
  f4 := ⟨Tryz.f63.name, by decide, Tryz.func63.trans (congrArg some (by kernel_rfl))⟩
  t0 := Tryz.underlying0
  a0 := Tryz.isAgg0
  z0 := Tryz.sizeOf0
  v0 := Tryz.zeroValue0
  t3 := Tryz.underlying3
  a3 := Tryz.isAgg3
  z3 := Tryz.sizeOf3
  v3 := Tryz.zeroValue3
  t4 := Tryz.underlying4
  a4 := Tryz.isAgg4
  z4 := Tryz.sizeOf4
  v4 := Tryz.zeroValue4
  t9 := Tryz.underlying9
  a9 := Tryz.isAgg9
  z9 := Tryz.sizeOf9
  v9 := Tryz.zeroValue9
  t20 := Tryz.underlying20
  a20 := Tryz.isAgg20
  z20 := Tryz.sizeOf20
  v20 := Tryz.zeroValue20
  t22 := Tryz.underlying24
  a22 := Tryz.isAgg24
  z22 := Tryz.sizeOf24
  v22 := Tryz.zeroValue24 }
end Go.Proofs.YtjocnooekgnedaaGreatDoor
/- Layer 11 in plain words: what a sorted list tells of its numbers. No program in sight. -/
namespace Go.Proofs.YtjocnooekgnedaaGreatDoor
open Go.RowKit Go.Maps

/-- The ends of a sorted list tell whether all are in range. -/
theorem sorted_ends {l m : List Int} (hp : m.Perm l) (hs : m.Pairwise (· ≤ ·)) (B : Int) (h0 : 0 < m.length) :
    (m[0] < 0 ∨ B ≤ m[m.length - 1]) ↔ ∃ b ∈ l, b < 0 ∨ B ≤ b := by
  have hle := List.pairwise_iff_getElem.1 hs
  constructor
  · rintro (h | h)
    · exact ⟨m[0], hp.mem_iff.1 (List.getElem_mem _), .inl h⟩
    · exact ⟨m[m.length - 1], hp.mem_iff.1 (List.getElem_mem _), .inr h⟩
  · rintro ⟨b, hb, hc⟩
    obtain ⟨k, hk, rfl⟩ := List.mem_iff_getElem.1 (hp.mem_iff.2 hb)
    rcases hc with hc | hc
    · rcases Nat.eq_zero_or_pos k with rfl | h1
      · exact .inl hc
      · have := hle 0 k h0 hk h1
        exact .inl (by omega)
    · by_cases e : k = m.length - 1
      · subst e; exact .inr hc
      · have := hle k (m.length - 1) hk (by omega) (by omega)
        exact .inr (by omega)
/-- A list without the numbers that equal the one before. -/
def compactI : List Int → List Int
  | a :: b :: t => if a = b then compactI (b :: t) else a :: compactI (b :: t)
  | l => l
theorem compactI_le : ∀ l : List Int, (compactI l).length ≤ l.length
  | [] => Nat.le_refl _
  | [_] => Nat.le_refl _
  | a :: b :: t => by
    have h := compactI_le (b :: t)
    unfold compactI
    split
    · have e : (a :: b :: t).length = (b :: t).length + 1 := rfl
      omega
    · show (compactI (b :: t)).length + 1 ≤ (b :: t).length + 1
      omega
/-- It is shorter just where a number is there twice. -/
theorem compactI_nodup : ∀ {m : List Int}, m.Pairwise (· ≤ ·) → ((compactI m).length < m.length ↔ ¬ m.Nodup)
  | [], _ => by simp [compactI]
  | [_], _ => by simp [compactI]
  | a :: b :: t, hs => by
    have hs2 : (b :: t).Pairwise (· ≤ ·) := (List.pairwise_cons.1 hs).2
    have hab := (List.pairwise_cons.1 hs).1
    have ih := compactI_nodup hs2
    have hle := compactI_le (b :: t)
    have e : (a :: b :: t).length = (b :: t).length + 1 := rfl
    unfold compactI
    by_cases h : a = b
    · rw [if_pos h]
      refine ⟨fun _ hn => ?_, fun _ => by omega⟩
      exact (List.nodup_cons.1 hn).1 (by rw [h]; simp)
    · rw [if_neg h]
      have hna : a ∉ b :: t := fun hm => by
        have hb := (List.pairwise_cons.1 hs2).1
        have h1 := hab b (by simp)
        rcases List.mem_cons.1 hm with rfl | hm
        · exact h rfl
        · have := hb a hm; omega
      rw [e]
      show (compactI (b :: t)).length + 1 < (b :: t).length + 1 ↔ _
      rw [List.nodup_cons]
      constructor
      · intro h1 h2
        exact (ih.1 (by omega)) h2.2
      · intro h1
        have : ¬ (b :: t).Nodup := fun h2 => h1 ⟨hna, h2⟩
        have := ih.2 this
        omega
theorem compact_sorted {l m : List Int} (hp : m.Perm l) (hs : m.Pairwise (· ≤ ·)) : (compactI m).length < l.length ↔ ¬ l.Nodup := by
  rw [← hp.length_eq, ← hp.nodup_iff]
  exact compactI_nodup hs
end Go.Proofs.YtjocnooekgnedaaGreatDoor
/- Layer 11: slices.Sort and slices.Compact of numbers. -/
namespace Go.Proofs.YtjocnooekgnedaaGreatDoor
open Go.RowKit Go.Maps Go.Shelf Go.Sort

theorem compact_lt {m : List Int} (hs : m.Pairwise (· ≤ ·)) : (Lib.compact m).length < m.length ↔ ¬ m.Nodup := by
  have hle := List.pairwise_iff_getElem.1 hs
  have hg : ∀ j (h : j < m.length), m.toArray[j]! = m[j] := fun j h => by rw [getElem!_pos m.toArray j (by simpa using h)]; simp
  unfold Lib.compact Lib.compactUpTo
  rw [List.length_map]
  have hlen : (List.range m.length).length = m.length := List.length_range
  constructor
  · intro h hn
    have : (List.range m.length).filter (Lib.keeps m.toArray) = List.range m.length := by
      rw [List.filter_eq_self]
      intro j hj
      have hj := List.mem_range.1 hj
      by_cases h0 : j = 0
      · subst h0; simp [Lib.keeps]
      · refine Lib.keeps_pos ?_
        rw [hg j hj, hg (j - 1) (by omega)]
        intro e
        have := (List.getElem_inj hn).1 e
        omega
    rw [this, hlen] at h
    omega
  · intro hn
    obtain ⟨i, j, hij, hj, e⟩ : ∃ i j, ∃ _ : i < j, ∃ h : j < m.length, m[i]'(by omega) = m[j] := by
      refine Classical.byContradiction fun hc => hn ?_
      refine List.pairwise_iff_getElem.2 fun i j hi hj hij e => hc ⟨i, j, hij, hj, e⟩
    have hk : Lib.keeps m.toArray j = false := by
      refine Lib.keeps_neg (by omega) ?_
      rw [hg j hj, hg (j - 1) (by omega)]
      by_cases h1 : i = j - 1
      · subst h1; exact e.symm
      · have a := hle i (j - 1) (by omega) (by omega) (by omega)
        have b := hle (j - 1) j (by omega) hj (by omega)
        omega
    have := List.length_filter_lt_length_iff_exists (p := Lib.keeps m.toArray) (l := List.range m.length)
    rw [hlen] at this
    exact this.2 ⟨j, List.mem_range.2 hj, by rw [hk]; simp⟩

theorem holds_of_row {w : World} {g : Nat} {cur : Array Value} {e : TypeId} {zs : List Int} (hb : w.heap[g]? = some (.cells cur e (0, 0))) (ht : cur.toList.take zs.length = zs.map (Value.int .i64)) : Holds (Value.int .i64) w g 0 zs.toArray := by
  intro j hj
  have hj' : j < zs.length := by simpa using hj
  refine ⟨?_, by simp [World.frozen?, hb]⟩
  have h1 : (cur.toList.take zs.length)[j]? = (zs.map (Value.int .i64))[j]? := by rw [ht]
  rw [List.getElem?_take_of_lt hj'] at h1
  simp only [World.cell?, hb, Nat.zero_add]
  simp only [Option.isSome_none, Bool.false_eq_true, if_false]
  rw [← Array.getElem?_toList, h1, getElem!_pos zs.toArray j hj]
  simp [hj']
theorem heap_putI {w : World} {g n : Nat} {os : Array Obj} {cur : Array Value} {e : TypeId} {fr : Nat × Nat} (F : Array Int) (hb : w.heap[g]? = some (.cells cur e fr)) :
    (grow (putRow (Value.int .i64) (Sort.ahead w n) g 0 F) os).heap[g]? = some (.cells (putCells (Value.int .i64) 0 F cur) e fr) := by
  have hg : g < w.heap.size := (Array.getElem?_eq_some_iff.1 hb).1
  rw [heap_grow_old _ _ (by simpa using hg)]
  simp [putRow, mapBlock, Sort.ahead, Array.getElem?_modify, hb, onCells]
theorem grownBy_putI {w : World} {g n : Nat} {os : Array Obj} (F : Array Int) : w.grownBy (grow (putRow (Value.int .i64) (Sort.ahead w n) g 0 F) os) (some g) := by
  refine ⟨rfl, rfl, rfl, by simp, fun k hk hne => ?_⟩
  rw [heap_grow_old _ _ (by simpa using hk)]
  have : g ≠ k := fun e => hne (by rw [e])
  simp [putRow, mapBlock, Sort.ahead, Array.getElem?_modify, this]
theorem take_putI (cur : Array Value) (F : Array Int) (h : F.size ≤ cur.size) : (putCells (Value.int .i64) 0 F cur).toList.take F.size = F.toList.map (Value.int .i64) := by
  apply List.ext_getElem?
  intro j
  by_cases hj : j < F.size
  · rw [List.getElem?_take_of_lt hj, Array.getElem?_toList]
    simp [putCells, hj, show j < cur.size by omega]
  · rw [List.getElem?_take_eq_none (by omega), List.getElem?_eq_none (by simpa using hj)]

/-- The row of numbers that a call has made, with all that lies below. -/
theorem below_grownI {w w' : World} {base g : Nat} (h : w.grownBy w' (some g)) (hb : base ≤ g) (hs : base ≤ w.heap.size) : Below base w w' :=
  (Below.refl _ w).grown h hs (fun k hk => by cases hk; exact hb)

def SortInts (base : Nat) (v : Value) (xs : List Int) (w : World) (e : Ending) (w' : World) : Prop :=
  e = .returned (.tuple #[]) ∧ ∃ ys : List Int, ys.Perm xs ∧ ys.Pairwise (· ≤ ·) ∧ w'.ownsRow base 3 1 v xs.length (ys.map (.int .i64)) ∧ Below base w w'
theorem sort_ints (base : Nat) (v : Value) (xs : List Int) (hl0 : xs.length ≤ 10000) (w : World) (hbs : base ≤ w.heap.size) (ho : w.ownsRow base 3 1 v xs.length (xs.map (.int .i64))) :
    Calls Tryz.prog 36 #[v] w (SortInts base v xs w) := by
  rcases ho.2 with ⟨rfl, h0⟩ | ⟨g, cap, cur, rfl, hbase, hb, hnc, hcm, hcs, ht⟩
  · refine (Any.slices_Sort_int_none Tryz.sortInts none 0 w).mono ?_
    rintro e w' ⟨rfl, rfl⟩
    exact ⟨rfl, xs, .refl _, by rw [List.length_eq_zero_iff.1 h0]; exact List.Pairwise.nil, ho, (Below.refl _ _).mono hbs⟩
  · have hH := holds_of_row hb (by rw [Nat.mul_one] at ht; exact ht)
    have hblk : g < w.heap.size := (Array.getElem?_eq_some_iff.1 hb).1
    refine (Any.slices_Sort_int Tryz.sortInts g 0 cap xs w hH hblk (by omega)).mono ?_
    rintro e w' ⟨rfl, n, os, rfl⟩
    have hp : (xs.mergeSort fun x y => decide (x ≤ y)).Perm xs := List.mergeSort_perm _ _
    have hs : (xs.mergeSort fun x y => decide (x ≤ y)).Pairwise (· ≤ ·) := by
      have := List.pairwise_mergeSort (le := fun x y : Int => decide (x ≤ y)) (fun a b c h1 h2 => by simp at *; omega) (fun a b => by simp; omega) xs
      exact this.imp (by simp)
    have hlen := hp.length_eq
    refine ⟨rfl, _, hp, hs, ⟨?_, .inr ⟨g, cap, _, rfl, hbase, heap_putI _ hb, hnc, hcm, by simp [putCells, hcs], ?_⟩⟩, below_grownI (grownBy_putI _) hbase hbs⟩
    · rw [List.length_map, hlen, Nat.mul_one]
    · have := take_putI cur (xs.mergeSort fun x y => decide (x ≤ y)).toArray (by rw [hcs]; simp; omega)
      simp only [List.size_toArray, hlen] at this
      rw [Nat.mul_one, this]

def CompactInts (base : Nat) (k : Nat) (w : World) (e : Ending) (w' : World) : Prop :=
  (∃ A c, e = .returned (.slice A k c)) ∧ Below base w w'
theorem compact_ints (base : Nat) (v : Value) (xs : List Int) (hl0 : xs.length ≤ 10000) (w : World) (hbs : base ≤ w.heap.size) (ho : w.ownsRow base 3 1 v xs.length (xs.map (.int .i64))) :
    Calls Tryz.prog 37 #[v] w (CompactInts base (Lib.compact xs).length w) := by
  rcases ho.2 with ⟨rfl, h0⟩ | ⟨g, cap, cur, rfl, hbase, hb, hnc, hcm, hcs, ht⟩
  · refine (Any.slices_Compact_int_empty Tryz.compactInts none 0 w).mono ?_
    rintro e w' ⟨rfl, rfl⟩
    rw [List.length_eq_zero_iff.1 h0]
    exact ⟨⟨_, _, rfl⟩, (Below.refl _ _).mono hbs⟩
  · have hH := holds_of_row hb (by rw [Nat.mul_one] at ht; exact ht)
    refine (Any.slices_Compact_int Tryz.compactInts g 0 cap xs w hH (by omega) hnc).mono ?_
    rintro e w' ⟨rfl, q, rfl⟩
    refine ⟨⟨_, _, rfl⟩, ?_⟩
    have := grownBy_putI (w := w) (g := g) (n := q) (os := #[]) (Lib.compact xs ++ List.replicate (xs.length - (Lib.compact xs).length) 0).toArray
    rw [grow_empty] at this
    exact below_grownI this hbase hbs
end Go.Proofs.YtjocnooekgnedaaGreatDoor
