/- Parts of the proof, put together by program: Z5, Z6, Z7. -/
import Derived.Test.YtfmobeeddlnhcaaGreatDoorPart35
/- Layer 12: sector, part. -/
namespace Go.Proofs.YtfmobeeddlnhcaaGreatDoor
open Go.RowKit Go.Maps

set_option maxRecDepth 100000 in
set_option maxHeartbeats 2000000 in
theorem sector_ls (Lb T : Nat) (s j i kd : Int) (A : Option Addr) (c : Nat) (l : List Int) (k : Nat) (v : Int) (hv : l[k]? = some v) (_hl : l.length ≤ 1000) (w : World) (b : Blk w Lb 117 (lsC T s j i kd (.slice A l.length c))) (hR : Reads w A (l.map (.int .i64))) :
    Calls Tryz.prog 113 #[.pointer (some ⟨Lb, 0, none⟩), .int .i64 k] w fun e w' => e = .returned (.int .i64 (SecV s j i v)) ∧ Below w.heap.size w w' := by
  obtain ⟨hk, hv'⟩ := List.getElem?_eq_some_iff.1 hv
  obtain ⟨g, off, rfl, hg, hcx⟩ := hR.at_ (k := k) (by simpa using hk)
  rw [List.getElem_map, hv'] at hcx
  obtain ⟨x, rfl⟩ : ∃ x, x = v := ⟨_, rfl⟩
  have lL := b.lt
  have hS : ∀ V, Below w.heap.size w V → V.cell? ⟨Lb, 1, none⟩ = some (.int .i64 s) ∧ V.cell? ⟨Lb, 2, none⟩ = some (.int .i64 j) ∧ V.cell? ⟨Lb, 3, none⟩ = some (.int .i64 i) ∧ V.cell? ⟨Lb, 5, none⟩ = some (.slice (some ⟨g, off, none⟩) l.length c) ∧ V.cell? ⟨g, off + k, none⟩ = some (.int .i64 x) := fun V hb =>
    ⟨(hb.cell (p := ⟨Lb, 1, none⟩) lL).trans ((b.cells 1).trans rfl), (hb.cell (p := ⟨Lb, 2, none⟩) lL).trans ((b.cells 2).trans rfl), (hb.cell (p := ⟨Lb, 3, none⟩) lL).trans ((b.cells 3).trans rfl), (hb.cell (p := ⟨Lb, 5, none⟩) lL).trans ((b.cells 5).trans rfl), (hb.cell (p := ⟨g, off + k, none⟩) hg).trans hcx⟩
  have HSS := Lib.hid hS
  clear hS hv hv' hcx b hR
  go_enter Tryz.func113, Tryz.ntmps113
  go_wp2_with fail
  refine wp_region_mix [.take 0, .take 1, .take 2, .take 3, .take 4, .take 5, .take 6, .take 7, .take 8, .take 9, .take 10, .one 11, .take 12, .take 13, .take 14, .take 15, .take 16] 17 (fun V => V.cell? ⟨Lb, 1, none⟩ = some (.int .i64 s) ∧ V.cell? ⟨Lb, 2, none⟩ = some (.int .i64 j) ∧ V.cell? ⟨Lb, 3, none⟩ = some (.int .i64 i) ∧ V.cell? ⟨Lb, 5, none⟩ = some (.slice (some ⟨g, off, none⟩) l.length c) ∧ V.cell? ⟨g, off + k, none⟩ = some (.int .i64 x)) (by kernel_rfl) (by kernel_rfl) (fun _ _ _ _ _ h => h) (HSS.out _ (Below.refl _ _).drew) ?_
  simp only [List.map_cons, List.map_nil, Ms.fill, List.getD_cons_zero, List.getD_cons_succ]
  iterate 11 (refine mixT_take (by rfl) ?_ (fun w' hw' => ?_) ?_; rotate_left; (focus (go_simp; (try with_reducible rfl))); (try simp only [Act.put, List.setIfInBounds_toArray, List.set_cons_zero, List.set_cons_succ]))
  refine mixT_step (by rfl) fun K hK => ?_
  go_simp
  refine (sector_any s j i x w.drew).mono ?_
  rintro e w1 ⟨rfl, hb1⟩
  have B1 : Below w.heap.size w w1 := (Below.refl _ _).drew.trans hb1
  refine hK _ _ (fun _ => HSS.out _ B1) ?_
  clear hK K
  iterate 5 (refine mixT_take (by rfl) ?_ (fun w' hw' => ?_) ?_; rotate_left; (focus (go_simp; (try with_reducible rfl))); (try simp only [Act.put, List.setIfInBounds_toArray, List.set_cons_zero, List.set_cons_succ]))
  refine mixT_nil ?_
  go_wp2_with fail
  go_ret
  exact ⟨rfl, B1⟩

/-- The part that a block holds. -/
def TxS.part (y : TxS) (x : DevS) (kd b : Int) : ByteArray × Int :=
  if (y.read x (SecV y.s y.j y.i b)).2.2 = 0 ∧ (y.read x (SecV y.s y.j y.i b)).1 ≠ kd then (⟨#[]⟩, 6) else ((y.read x (SecV y.s y.j y.i b)).2.1, (y.read x (SecV y.s y.j y.i b)).2.2)

set_option maxRecDepth 100000 in
set_option maxHeartbeats 2000000 in
theorem part_ls (Lb T : Nat) (F : List Nat) (D : Nat) (y : TxS) (B : List Nat) (x : DevS) (kd : Int) (A : Option Addr) (c : Nat) (l : List Int) (k : Nat) (v : Int) (hv : l[k]? = some v) (hl : l.length ≤ 1000) (w : World) (h : TxAt w T F D y) (hd : DevAt w D B x) (b : Blk w Lb 117 (lsC T y.s y.j y.i kd (.slice A l.length c))) (hR : Reads w A (l.map (.int .i64))) :
    Calls Tryz.prog 75 #[.pointer (some ⟨Lb, 0, none⟩), .int .i64 k] w fun e w' => e = .returned (.tuple #[.string (y.part x kd v).1, .int .i64 (y.part x kd v).2]) ∧ Below w.heap.size w w' := by
  have lL := b.lt
  have hS : ∀ V, Below w.heap.size w V → V.cell? ⟨Lb, 0, none⟩ = some (.pointer (some ⟨T, 0, none⟩)) := fun V hb => (hb.cell (p := ⟨Lb, 0, none⟩) lL).trans ((b.cells 0).trans rfl)
  have HSS := Lib.hid hS
  clear hS
  have HP : Hid (y.part x kd v = if (y.read x (SecV y.s y.j y.i v)).2.2 = 0 ∧ (y.read x (SecV y.s y.j y.i v)).1 ≠ kd then (⟨#[]⟩, 6) else ((y.read x (SecV y.s y.j y.i v)).2.1, (y.read x (SecV y.s y.j y.i v)).2.2)) := Lib.hid rfl
  go_enter Tryz.func75, Tryz.ntmps75
  go_wp2_with fail
  refine wp_region_mix [.take 0, .take 1, .take 2, .take 3, .take 4, .take 5, .one 6, .one 7, .take 8, .take 9, .take 10, .take 11, .take 12, .take 13, .take 14] 15 (fun V => V.cell? ⟨Lb, 0, none⟩ = some (.pointer (some ⟨T, 0, none⟩))) (by kernel_rfl) (by kernel_rfl) (fun _ _ _ _ _ h => h) (HSS.out _ (Below.refl _ _).drew) ?_
  simp only [List.map_cons, List.map_nil, Ms.fill, List.getD_cons_zero, List.getD_cons_succ]
  iterate 6 (refine mixT_take (by rfl) ?_ (fun w' hw' => ?_) ?_; rotate_left; (focus (go_simp; (try with_reducible rfl))); (try simp only [Act.put, List.setIfInBounds_toArray, List.set_cons_zero, List.set_cons_succ]))
  refine mixT_step (by rfl) fun K hK => ?_
  go_simp
  refine (sector_ls Lb T y.s y.j y.i kd A c l k v hv hl w.drew b.drew (hR.below (Below.refl _ _).drew)).mono ?_
  rintro e w1 ⟨rfl, hb1⟩
  have B1 : Below w.heap.size w w1 := (Below.refl _ _).drew.trans hb1
  refine hK _ _ (fun _ => HSS.out _ B1) ?_
  clear hK K
  refine mixT_step (by rfl) fun K hK => ?_
  go_simp
  refine (read_tx T F D y B x _ w1 (h.below B1) (hd.below B1)).mono ?_
  rintro e w2 ⟨rfl, hb2⟩
  have B2 : Below w.heap.size w w2 := B1.trans (hb2.mono B1.size)
  refine hK _ _ (fun _ => HSS.out _ B2) ?_
  clear hK K
  iterate 7 (refine mixT_take (by rfl) ?_ (fun w' hw' => ?_) ?_; rotate_left; (focus (go_simp; (try with_reducible rfl))); (try simp only [Act.put, List.setIfInBounds_toArray, List.set_cons_zero, List.set_cons_succ]))
  refine mixT_nil ?_
  have bb := b.belowAll B2
  have c4 : w2.cell? ⟨Lb, 4, none⟩ = some (.int .i64 kd) := (bb.cells 4).trans rfl
  have lL2 := bb.lt
  clear b bb hR h hd
  generalize y.read x (SecV y.s y.j y.i v) = r at *
  obtain ⟨rk, rd, re⟩ := r
  simp only at HP ⊢
  by_cases h0 : re = 0
  · subst h0
    by_cases hkd : rk = kd
    · have HX : Hid (y.part x kd v = (rd, 0)) := Lib.hid (by rw [HP.out, if_neg (by simp [hkd])])
      have hq : (rk != kd) = false := by simpa using hkd
      clear hkd
      go_wp2_with fail
      go_ret2
      exact ⟨by rw [HX.out]; rfl, B2⟩
    · have HX : Hid (y.part x kd v = (⟨#[]⟩, 6)) := Lib.hid (by rw [HP.out, if_pos ⟨rfl, hkd⟩])
      have hq : (rk != kd) = true := by simpa using hkd
      clear hkd
      go_wp2_with fail
      go_ret2
      exact ⟨by rw [HX.out]; rfl, B2⟩
  · have HX : Hid (y.part x kd v = (rd, re)) := Lib.hid (by rw [HP.out, if_neg (fun hh => h0 hh.1)])
    have hq : (re == 0) = false := by simpa using h0
    clear h0
    go_wp2_with fail
    go_ret2
    exact ⟨by rw [HX.out]; rfl, B2⟩

end Go.Proofs.YtfmobeeddlnhcaaGreatDoor
/- Layer 12: sized. -/
namespace Go.Proofs.YtfmobeeddlnhcaaGreatDoor
open Go.RowKit Go.Maps

def sizedE (y : TxS) (l : List Int) (size : Int) (bad long : Bool) : Int :=
  if dopenE y l ≠ 0 then dopenE y l else if (size < 0 ∨ 768 < size) ∨ bad = true then 7 else if long = true then 3 else if (l.length : Int) ≠ (size + 95) / 96 then 6 else 0
def SizedPost (w : World) (T : Nat) (y : TxS) (k : Int) (l : List Int) (size : Int) (bad long : Bool) (e : Ending) (w' : World) : Prop :=
  Below w.heap.size w w' ∧ ((sizedE y l size bad long ≠ 0 ∧ ∃ cs : Array Value, (cs = ls0 ∨ ∃ A c, cs = lsC T y.s y.j y.i k (.slice A l.length c)) ∧ e = .returned (.tuple #[.agg cs, .int .i64 (sizedE y l size bad long)])) ∨
    (sizedE y l size bad long = 0 ∧ ∃ v, e = .returned (.tuple #[.agg (lsC T y.s y.j y.i k v), .int .i64 0]) ∧ w'.ownsRow w.heap.size 3 1 v l.length (l.map (.int .i64))))

set_option maxRecDepth 100000 in
set_option maxHeartbeats 4000000 in
theorem sized_tx (T : Nat) (F : List Nat) (D : Nat) (y : TxS) (kd : Int) (A : Option Addr) (c : Nat) (l : List Int) (hl : l.length ≤ 1000) (size : Int) (bad long : Bool) (hsz : -9223372036854775808 ≤ size ∧ size ≤ 9223372036854775807) (w : World) (h : TxAt w T F D y) (hA : SlI w A c l) :
    Calls Tryz.prog 48 #[.pointer (some ⟨T, 0, none⟩), .int .i64 kd, .slice A l.length c, .int .i64 size, .bool bad, .bool long] w (SizedPost w T y kd l size bad long) := by
  obtain ⟨wA, hWA⟩ : ∃ wA, wA = w.alloc (.cells ls0 117) := ⟨_, rfl⟩
  have bR : Blk wA w.heap.size 117 ls0 := by rw [hWA]; exact (by (repeat' (first | (with_reducible assumption) | exact Blk.new' (by simp) | refine Blk.alloc ?_ _)))
  have BA : Below w.heap.size w wA := by rw [hWA]; (repeat' (first | (with_reducible exact Below.refl _ _) | (with_reducible assumption) | (with_reducible refine Below.alloc ?_ ?_ _) | (with_reducible refine Below.drew ?_) | (with_reducible refine below_drewN' ?_ _) | (with_reducible refine Below.setCell ?_ ?_ _) | (with_reducible exact Nat.le_refl _) | omega | (simp; done) | (simp; omega)))
  have hop := dopen_tx T F D y kd A c l hl wA (h.below BA) (hA.below BA)
  have HSE : Hid (sizedE y l size bad long = if dopenE y l ≠ 0 then dopenE y l else if (size < 0 ∨ 768 < size) ∨ bad = true then 7 else if long = true then 3 else if (l.length : Int) ≠ (size + 95) / 96 then 6 else 0) := Lib.hid rfl
  clear h hA
  go_enter Tryz.func48, Tryz.ntmps48
  go_wp2_with fail
  rw [← hWA]
  go_wp2_with fail
  refine hop.mono ?_
  rintro e w1 ⟨hb1, hpost⟩
  have B1 := BA.trans (hb1.mono BA.size)
  have bR1 := bR.belowAll hb1
  have HZA : Hid (w.heap.size + 1 = wA.heap.size) := Lib.hid (by rw [hWA]; simp)
  clear hop hWA hb1 bR BA
  rcases hpost with ⟨hne, rfl⟩ | ⟨h0, v, rfl, hov⟩
  · have HX : Hid (sizedE y l size bad long = dopenE y l) := Lib.hid (by rw [HSE.out, if_pos hne])
    generalize dopenE y l = E at *
    have HN := Lib.hid hne
    have hE' : (E != 0) = true := by simpa using hne
    clear hne
    obtain ⟨w2, hw2⟩ : ∃ w2, w2 = w1.alloc (.cells ls0 117) := ⟨_, rfl⟩
    have bR2 : Blk w2 w.heap.size 117 ls0 := by rw [hw2]; exact bR1.alloc _
    have bL2 : Blk w2 w1.heap.size 117 ls0 := by rw [hw2]; exact Blk.new _ _ _
    have B2 : Below w.heap.size w w2 := by rw [hw2]; exact B1.alloc B1.size _
    have lL := bL2.lt
    have lR := bR2.lt
    have HST := storeRow (ty := 117) (vs := ls0) bR2 rfl (by simp [Value.oneCell']) (by kernel_rfl)
    have cL := bL2.cells
    rw [hw2] at cL lL lR HST
    have HW2 := Lib.hid hw2
    have hlt : w.heap.size < w1.heap.size := bR1.lt
    clear hw2
    go_wp2_with (refine wpList_storeBy rfl _ _ _ rfl _ _ rfl rfl HST ?_)
    rw [← HW2.out]
    have cF := (bR2.setRow (cs' := ls0)).cells
    refine bodyPost_ret (v := .tuple #[.agg ls0, .int .i64 E]) (by simp [results, Tryz.results48, go_sem, cF]) rfl ?_
    exact ⟨Below.setRow B2 (Nat.le_refl _) _, .inl ⟨by rw [HX.out]; exact HN.out, ls0, .inl rfl, by rw [HX.out]⟩⟩
  obtain ⟨a3, c3, rfl⟩ := own_slice hov
  obtain ⟨w2, hw2⟩ : ∃ w2, w2 = w1.alloc (.cells (lsC T y.s y.j y.i kd (.slice a3 l.length c3)) 117) := ⟨_, rfl⟩
  have bR2 : Blk w2 w.heap.size 117 ls0 := by rw [hw2]; exact bR1.alloc _
  have bL2 : Blk w2 w1.heap.size 117 (lsC T y.s y.j y.i kd (.slice a3 l.length c3)) := by rw [hw2]; exact Blk.new _ _ _
  have B2 : Below w.heap.size w w2 := by rw [hw2]; exact B1.alloc B1.size _
  have ho2 : w2.ownsRow wA.heap.size 3 1 (.slice a3 l.length c3) l.length (l.map (.int .i64)) := by rw [hw2]; exact own_below (W := w1) hov ((Below.refl _ _).alloc (Nat.le_refl _) _)
  have lL := bL2.lt
  have lR := bR2.lt
  have HST := storeRow (ty := 117) (vs := lsC T y.s y.j y.i kd (.slice a3 l.length c3)) bR2 rfl (by simp [Value.oneCell']) (by kernel_rfl)
  have cL := bL2.cells
  rw [hw2] at cL lL lR HST
  have HW2 := Lib.hid hw2
  have hlt : w.heap.size < w1.heap.size := bR1.lt
  clear hw2
  have hso : sizedE y l size bad long = if (size < 0 ∨ 768 < size) ∨ bad = true then 7 else if long = true then 3 else if (l.length : Int) ≠ (size + 95) / 96 then 6 else 0 := by rw [HSE.out, if_neg (by simpa using h0)]
  have HSO := Lib.hid hso
  clear hso h0
  by_cases p7 : (size < 0 ∨ 768 < size) ∨ bad = true
  · have HX : Hid (sizedE y l size bad long = 7) := Lib.hid (by rw [HSO.out, if_pos p7])
    have h7 : (decide (size < 0) = true) ∨ (decide (size < 0) = false ∧ decide (768 < size) = true) ∨ (decide (size < 0) = false ∧ decide (768 < size) = false ∧ bad = true) := by
      by_cases e1 : size < 0
      · exact .inl (by simpa using e1)
      · by_cases e2 : 768 < size
        · exact .inr (.inl ⟨by simpa using e1, by simpa using e2⟩)
        · exact .inr (.inr ⟨by simpa using e1, by simpa using e2, by rcases p7 with h | h; omega; exact h⟩)
    clear p7
    rcases h7 with h7 | ⟨h7, h7'⟩ | ⟨h7, h7', rfl⟩
    all_goals
      go_wp2_with (refine wpList_storeBy rfl _ _ _ rfl _ _ rfl rfl HST ?_)
      rw [← HW2.out]
      have cF := (bR2.setRow (cs' := lsC T y.s y.j y.i kd (.slice a3 l.length c3))).cells
      refine bodyPost_ret (v := .tuple #[.agg (lsC T y.s y.j y.i kd (.slice a3 l.length c3)), .int .i64 7]) (by simp [results, Tryz.results48, go_sem, cF]) rfl ?_
      exact ⟨Below.setRow B2 (Nat.le_refl _) _, .inl ⟨by rw [HX.out]; decide, lsC T y.s y.j y.i kd (.slice a3 l.length c3), .inr ⟨_, _, rfl⟩, by rw [HX.out]⟩⟩
  have h7 : decide (size < 0) = false := by simp; omega
  have h7' : decide (768 < size) = false := by simp; omega
  obtain rfl : bad = false := by cases bad; rfl; exact absurd (.inr rfl) p7
  cases long
  rotate_left
  · have HX : Hid (sizedE y l size false true = 3) := Lib.hid (by rw [HSO.out, if_neg p7, if_pos rfl])
    clear p7
    go_wp2_with (refine wpList_storeBy rfl _ _ _ rfl _ _ rfl rfl HST ?_)
    rw [← HW2.out]
    have cF := (bR2.setRow (cs' := lsC T y.s y.j y.i kd (.slice a3 l.length c3))).cells
    refine bodyPost_ret (v := .tuple #[.agg (lsC T y.s y.j y.i kd (.slice a3 l.length c3)), .int .i64 3]) (by simp [results, Tryz.results48, go_sem, cF]) rfl ?_
    exact ⟨Below.setRow B2 (Nat.le_refl _) _, .inl ⟨by rw [HX.out]; decide, lsC T y.s y.j y.i kd (.slice a3 l.length c3), .inr ⟨_, _, rfl⟩, by rw [HX.out]⟩⟩
  have hs0 : 0 ≤ size := by omega
  have hs1 : size ≤ 768 := by omega
  by_cases p6 : (l.length : Int) ≠ (size + 95) / 96
  · have HX : Hid (sizedE y l size false false = 6) := Lib.hid (by rw [HSO.out, if_neg p7, if_neg (by decide), if_pos p6])
    have hq : ((l.length : Int) != (size + 96 - 1) / 96) = true := by simp; omega
    clear p7 p6
    go_wp2_with (refine wpList_storeBy rfl _ _ _ rfl _ _ rfl rfl HST ?_)
    rw [← HW2.out]
    have cF := (bR2.setRow (cs' := lsC T y.s y.j y.i kd (.slice a3 l.length c3))).cells
    refine bodyPost_ret (v := .tuple #[.agg (lsC T y.s y.j y.i kd (.slice a3 l.length c3)), .int .i64 6]) (by simp [results, Tryz.results48, go_sem, cF]) rfl ?_
    exact ⟨Below.setRow B2 (Nat.le_refl _) _, .inl ⟨by rw [HX.out]; decide, lsC T y.s y.j y.i kd (.slice a3 l.length c3), .inr ⟨_, _, rfl⟩, by rw [HX.out]⟩⟩
  · have HX : Hid (sizedE y l size false false = 0) := Lib.hid (by rw [HSO.out, if_neg p7, if_neg (by decide), if_neg p6])
    have hq : ((l.length : Int) != (size + 96 - 1) / 96) = false := by simp; omega
    clear p7 p6
    go_wp2_with (refine wpList_storeBy rfl _ _ _ rfl _ _ rfl rfl HST ?_)
    rw [← HW2.out]
    have cF := (bR2.setRow (cs' := lsC T y.s y.j y.i kd (.slice a3 l.length c3))).cells
    refine bodyPost_ret (v := .tuple #[.agg (lsC T y.s y.j y.i kd (.slice a3 l.length c3)), .int .i64 0]) (by simp [results, Tryz.results48, go_sem, cF]) rfl ?_
    have zA1 : w.heap.size < wA.heap.size := by rw [← HZA.out]; omega
    refine ⟨Below.setRow B2 (Nat.le_refl _) _, .inr ⟨HX.out, _, rfl, ?_⟩⟩
    exact own_base (own_block ho2 fun q hq => setRow_other _ _ _ _ (fun e => by have h9 := (ho2.lt q hq).1; omega)) (by omega)

end Go.Proofs.YtfmobeeddlnhcaaGreatDoor
/- Layer 12: text. -/
namespace Go.Proofs.YtfmobeeddlnhcaaGreatDoor
open Go.RowKit Go.Maps

/-- What the first k blocks give of the bytes of a string. -/
def textK (y : TxS) (x : DevS) (kd size from_ to_ : Int) (l : List Int) : Nat → ByteArray × Int
  | 0 => (⟨#[]⟩, 0)
  | k + 1 =>
    if (textK y x kd size from_ to_ l k).2 ≠ 0 then textK y x kd size from_ to_ l k
    else if min ((k : Int) * 96 + 96) size ≤ from_ ∨ to_ ≤ (k : Int) * 96 then textK y x kd size from_ to_ l k
    else if (y.part x kd (l.getD k 0)).2 ≠ 0 then (⟨#[]⟩, (y.part x kd (l.getD k 0)).2)
    else if ((y.part x kd (l.getD k 0)).1.size : Int) ≠ min ((k : Int) * 96 + 96) size - k * 96 then (⟨#[]⟩, 6)
    else ((textK y x kd size from_ to_ l k).1 ++ (y.part x kd (l.getD k 0)).1.extract (max (from_ - k * 96) 0).toNat (min (to_ - k * 96) (y.part x kd (l.getD k 0)).1.size).toNat, 0)
def TxS.text (y : TxS) (x : DevS) (kd : Int) (l : List Int) (size from_ to_ : Int) : ByteArray × Int := textK y x kd size from_ to_ l l.length

theorem textK_size (y : TxS) (x : DevS) (kd size from_ to_ : Int) (l : List Int) (k : Nat) : (textK y x kd size from_ to_ l k).1.size ≤ 96 * k := by
  induction k with
  | zero => exact Nat.le_refl _
  | succ k ih =>
    unfold textK
    split
    · omega
    · split
      · omega
      · split
        · exact Nat.zero_le _
        · split
          · exact Nat.zero_le _
          · rename_i h1 h2 h3 h4
            simp only [ByteArray.size_append, ByteArray.size_extract]
            have : ((y.part x kd (l.getD k 0)).1.size : Int) ≤ 96 := by omega
            omega
theorem textK_stay {y : TxS} {x : DevS} {kd size from_ to_ : Int} {l : List Int} {k m : Nat} (h : (textK y x kd size from_ to_ l k).2 ≠ 0) (hm : k ≤ m) : textK y x kd size from_ to_ l m = textK y x kd size from_ to_ l k := by
  induction m with
  | zero =>
    obtain rfl : k = 0 := by omega
    rfl
  | succ m ih =>
    by_cases e : k = m + 1
    · rw [e]
    · have ih := ih (by omega)
      have h2 : (textK y x kd size from_ to_ l m).2 ≠ 0 := by rw [ih]; exact h
      show (if (textK y x kd size from_ to_ l m).2 ≠ 0 then textK y x kd size from_ to_ l m else _) = _
      rw [if_pos h2]; exact ih

set_option maxRecDepth 100000 in
set_option maxHeartbeats 4000000 in
theorem text_ls (Lb T : Nat) (F : List Nat) (D : Nat) (y : TxS) (B : List Nat) (x : DevS) (kd : Int) (A : Option Addr) (c : Nat) (l : List Int) (hl : l.length ≤ 8) (size from_ to_ : Int) (hs : 0 ≤ size ∧ size ≤ 768) (hf : 0 ≤ from_ ∧ from_ ≤ to_ ∧ to_ ≤ size) (w : World) (h : TxAt w T F D y) (hd : DevAt w D B x) (b : Blk w Lb 117 (lsC T y.s y.j y.i kd (.slice A l.length c))) (hR : Reads w A (l.map (.int .i64))) :
    Calls Tryz.prog 49 #[.pointer (some ⟨Lb, 0, none⟩), .int .i64 size, .int .i64 from_, .int .i64 to_] w fun e w' => e = .returned (.tuple #[.string (y.text x kd l size from_ to_).1, .int .i64 (y.text x kd l size from_ to_).2]) ∧ Below w.heap.size w w' := by
  have c5 : w.cell? ⟨Lb, 5, none⟩ = some (.slice A l.length c) := (b.cells 5).trans rfl
  have lL := b.lt
  have HT : Hid (y.text x kd l size from_ to_ = textK y x kd size from_ to_ l l.length) := Lib.hid rfl
  go_enter Tryz.func49, Tryz.ntmps49
  go_wp2_with fail
  go_loopw [10, 21] (fun o q wr => ∃ k : Nat, k ≤ l.length ∧ q = .int .i64 k ∧ o = .string (textK y x kd size from_ to_ l k).1 ∧ (textK y x kd size from_ to_ l k).2 = 0 ∧ Below w.heap.size w wr) (fun _ q _ => l.length - (intOf q).toNat)
  case atStart => exact ⟨0, Nat.zero_le _, rfl, rfl, rfl, Below.refl _ _⟩
  case round =>
    obtain ⟨k, hk, rfl, rfl, h0, hb⟩ := hrel
    by_cases hlt : k < l.length
    · obtain ⟨v, hv⟩ : ∃ v, l[k]? = some v := ⟨_, List.getElem?_eq_getElem hlt⟩
      have hgd : l.getD k 0 = v := by rw [List.getD_eq_getElem?_getD, hv]; rfl
      have hst : textK y x kd size from_ to_ l (k + 1) = if min ((k : Int) * 96 + 96) size ≤ from_ ∨ to_ ≤ (k : Int) * 96 then textK y x kd size from_ to_ l k
    else if (y.part x kd v).2 ≠ 0 then (⟨#[]⟩, (y.part x kd v).2)
    else if ((y.part x kd v).1.size : Int) ≠ min ((k : Int) * 96 + 96) size - k * 96 then (⟨#[]⟩, 6)
    else ((textK y x kd size from_ to_ l k).1 ++ (y.part x kd v).1.extract (max (from_ - k * 96) 0).toNat (min (to_ - k * 96) (y.part x kd v).1.size).toNat, 0) := by
        show (if (textK y x kd size from_ to_ l k).2 ≠ 0 then textK y x kd size from_ to_ l k else _) = _
        rw [if_neg (by simpa using h0), hgd]
      have hpt := part_ls Lb T F D y B x kd A c l k v hv (by omega) wr (h.below hb) (hd.below hb) (b.belowAll hb) (hR.below hb)
      have hsz := textK_size y x kd size from_ to_ l k
      have hstay : (textK y x kd size from_ to_ l (k + 1)).2 ≠ 0 → y.text x kd l size from_ to_ = textK y x kd size from_ to_ l (k + 1) := fun hne => by rw [HT.out]; exact textK_stay hne (by omega)
      have HST0 := Lib.hid hst
      have HST := Lib.hid hst
      have HSY := Lib.hid hstay
      have H0 := Lib.hid h0
      have HHD := Lib.hid (And.intro h (And.intro hd (And.intro b hR)))
      clear hst hstay hgd h hd b hR h0 hv
      obtain ⟨o, ho⟩ : ∃ o, o = (textK y x kd size from_ to_ l k).1 := ⟨_, rfl⟩
      rw [← ho] at hsz HST ⊢
      have HO := Lib.hid ho
      clear ho
      by_cases hskip : min ((k : Int) * 96 + 96) size ≤ from_ ∨ to_ ≤ (k : Int) * 96
      · have HX : Hid (textK y x kd size from_ to_ l (k + 1) = textK y x kd size from_ to_ l k) := Lib.hid (by rw [HST.out, if_pos hskip])
        have h7 : (decide (min ((k : Int) * 96 + 96) size ≤ from_) = true) ∨ (decide (min ((k : Int) * 96 + 96) size ≤ from_) = false ∧ decide (to_ ≤ (k : Int) * 96) = true) := by
          by_cases e : min ((k : Int) * 96 + 96) size ≤ from_
          · exact .inl (decide_eq_true e)
          · exact .inr ⟨decide_eq_false e, decide_eq_true (by omega)⟩
        have hk8 : k < 8 := by omega
        clear hskip
        rcases h7 with h7 | ⟨h7, h7'⟩
        all_goals
          go_wp2_with fail
          go_roundw
          case rel => exact ⟨k + 1, by omega, by go_num, by rw [HX.out, HO.out], by rw [HX.out]; exact H0.out, hb⟩
          case measure => simp [intOf]; omega
      · have hk8 : k < 8 := by omega
        have q1 : decide (min ((k : Int) * 96 + 96) size ≤ from_) = false := decide_eq_false (by omega)
        have q2 : decide (to_ ≤ (k : Int) * 96) = false := decide_eq_false (by omega)
        have HSK := Lib.hid hskip
        clear hskip
        go_wp2_with fail
        refine hpt.mono ?_
        rintro e w1 ⟨rfl, hb1⟩
        have B1 := hb.trans (hb1.mono hb.size)
        clear hpt
        generalize y.part x kd v = P at *
        obtain ⟨pd, pe⟩ := P
        simp only at HST ⊢
        by_cases he : pe = 0
        rotate_left
        · have HX : Hid (y.text x kd l size from_ to_ = (⟨#[]⟩, pe)) := Lib.hid (by
            have e1 : textK y x kd size from_ to_ l (k + 1) = (⟨#[]⟩, pe) := by rw [HST.out, if_neg HSK.out, if_pos he]
            rw [HSY.out (by rw [e1]; exact he), e1])
          have hq : (pe == 0) = false := by simpa using he
          have hq2 : (pe != 0) = true := by simpa using he
          clear he
          go_wp2_with fail
          go_ret2
          exact ⟨by rw [HX.out]; rfl, B1⟩
        subst he
        by_cases hz : (pd.size : Int) ≠ min ((k : Int) * 96 + 96) size - k * 96
        · have HX : Hid (y.text x kd l size from_ to_ = (⟨#[]⟩, 6)) := Lib.hid (by
            have e1 : textK y x kd size from_ to_ l (k + 1) = (⟨#[]⟩, 6) := by rw [HST.out, if_neg HSK.out, if_neg (by decide), if_pos hz]
            rw [HSY.out (by rw [e1]; decide), e1])
          have hq : ((pd.size : Int) != min ((k : Int) * 96 + 96) size - k * 96) = true := by simpa using hz
          clear hz
          go_wp2_with fail
          go_ret2
          exact ⟨by rw [HX.out]; rfl, B1⟩
        · have hq : ((pd.size : Int) != min ((k : Int) * 96 + 96) size - k * 96) = false := by simpa using hz
          have HX : Hid (textK y x kd size from_ to_ l (k + 1) = (o ++ pd.extract (max (from_ - k * 96) 0).toNat (min (to_ - k * 96) pd.size).toNat, 0)) := Lib.hid (by rw [HST.out, if_neg HSK.out, if_neg (by decide), if_neg hz])
          obtain ⟨lo, hlo⟩ : ∃ lo : Nat, max (from_ - k * 96) 0 = (lo : Int) := ⟨_, (Int.toNat_of_nonneg (by omega)).symm⟩
          obtain ⟨hi, hhi⟩ : ∃ hi : Nat, min (to_ - k * 96) (pd.size : Int) = (hi : Int) := ⟨_, (Int.toNat_of_nonneg (by have := HSK.out; omega)).symm⟩
          have hlh : lo ≤ hi := by have := HSK.out; omega
          have hhp : hi ≤ pd.size := by omega
          have hp96 : pd.size ≤ 96 := by omega
          have hcat : ¬ 9223372036854775807 < o.size + (min hi pd.size - lo) := by omega
          have HX2 : Hid (textK y x kd size from_ to_ l (k + 1) = (o ++ pd.extract lo hi, 0)) := Lib.hid (by rw [HX.out, hlo, hhi]; rfl)
          clear hz
          go_wp2_with fail
          go_roundw
          case rel => exact ⟨k + 1, by omega, by go_num, by rw [HX2.out], by rw [HX2.out], B1⟩
          case measure => simp [intOf]; omega
    · obtain rfl : k = l.length := by omega
      have HX : Hid (y.text x kd l size from_ to_ = ((textK y x kd size from_ to_ l l.length).1, 0)) := Lib.hid (by rw [HT.out]; exact Prod.ext rfl h0)
      clear h0
      generalize (textK y x kd size from_ to_ l l.length).1 = o at *
      go_wp2_with fail
      go_ret2
      exact ⟨by rw [HX.out]; rfl, hb⟩

end Go.Proofs.YtfmobeeddlnhcaaGreatDoor
