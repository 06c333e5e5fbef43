/- Parts of the proof, put together by program: KO, KP. -/
import Derived.Test.YtjocnooekgnedaaGreatDoorPart02
import Derived.Test.YtjocnooekgnedaaGreatDoorPart36
import Derived.BigQuiet
set_option linter.unusedVariables false
set_option linter.unusedSimpArgs false
/- Layer 11: the form of inodes, parsed: records.kinds, records.parse. -/
namespace Go.Proofs.YtjocnooekgnedaaGreatDoor
open Go.RowKit Go.Maps

abbrev kdC (c w : Int) (f g : Nat) : List Value := [.int .u8 c, .int .i64 w, .func (.func f) #[] #[], .func (.func g) #[] #[]]
abbrev kNum : Nat := 134
/-- The kinds of records, by their places. -/
def kdAt : Nat → List Value
  | 0 => kdC 98 1 134 135
  | 1 => kdC 119 2 134 135
  | 2 => kdC 100 4 134 135
  | 3 => kdC 113 8 134 135
  | 4 => kdC 118 0 136 137
  | 5 => kdC 115 0 138 139
  | _ => kdC 108 0 140 141
def kdLet : Nat → Int
  | 0 => 98
  | 1 => 119
  | 2 => 100
  | 3 => 113
  | 4 => 118
  | 5 => 115
  | _ => 108
abbrev rkC : Array Value := (kdAt 0 ++ kdAt 1 ++ kdAt 2 ++ kdAt 3 ++ kdAt 4 ++ kdAt 5 ++ kdAt 6).toArray

set_option maxRecDepth 100000 in
set_option maxHeartbeats 2000000 in
theorem rkinds_any (w : World) :
    Calls Tryz.prog 86 #[] w fun e w' => e = .returned (.slice (some ⟨w.heap.size, 0, none⟩) 7 7) ∧ w' = w.alloc (.cells rkC 138) := by
  go_enter Tryz.func86, Tryz.ntmps86
  go_wp2_with fail
  go_ret
  exact ⟨rfl, rfl⟩

theorem kdAt_form (x : Nat) : ∃ v f g, kdAt x = kdC (kdLet x) v f g := by
  match x with
  | 0 => exact ⟨_, _, _, rfl⟩
  | 1 => exact ⟨_, _, _, rfl⟩
  | 2 => exact ⟨_, _, _, rfl⟩
  | 3 => exact ⟨_, _, _, rfl⟩
  | 4 => exact ⟨_, _, _, rfl⟩
  | 5 => exact ⟨_, _, _, rfl⟩
  | n + 6 => exact ⟨_, _, _, rfl⟩
set_option maxRecDepth 100000 in
set_option maxHeartbeats 2000000 in
theorem letter_any (F I : Nat) (s : ByteArray) (k : Nat) (b : Int) (hix : ∀ W, Sem.run Tryz.prog (Instr.index 9 (.string s) (.int .i64 k)) W = .ok (.int .u8 b) W) (w : World) (cF : w.cell? ⟨F, 0, none⟩ = some (.string s)) (cI : w.cell? ⟨I, 0, none⟩ = some (.int .i64 k)) (lF : F < w.heap.size) (lI : I < w.heap.size) :
    Go.Proofs.PredBelow Tryz.prog 88 #[.pointer (some ⟨F, 0, none⟩), .pointer (some ⟨I, 0, none⟩)] (fun x : Nat => .agg (kdAt x).toArray) (fun x => decide (kdLet x = b)) w := by
  intro W x hb
  obtain ⟨v, f, g, hk⟩ := kdAt_form x
  have cF' := (hb.cell (p := ⟨F, 0, none⟩) lF).trans cF
  have cI' := (hb.cell (p := ⟨I, 0, none⟩) lI).trans cI
  have lF' : F < W.heap.size := by have := hb.size; omega
  have lI' : I < W.heap.size := by have := hb.size; omega
  obtain ⟨V, hV⟩ : ∃ V, V = W.alloc (.cells (kdC (kdLet x) v f g).toArray 138) := ⟨_, rfl⟩
  have bK : Blk V W.heap.size 138 (kdC (kdLet x) v f g).toArray := by rw [hV]; exact Blk.new _ _ _
  have BV : Below w.heap.size w V := by rw [hV]; exact hb.alloc hb.size _
  have bV : Below W.heap.size W V := by rw [hV]; exact (Below.refl _ _).alloc (Nat.le_refl _) _
  have c1 := (bV.cell (p := ⟨F, 0, none⟩) lF').trans cF'
  have c2 := (bV.cell (p := ⟨I, 0, none⟩) lI').trans cI'
  have c0 : V.cell? ⟨W.heap.size, 0, none⟩ = some (.int .u8 (kdLet x)) := (bK.cells 0).trans rfl
  have l0 := bK.lt
  show Calls Tryz.prog 88 #[.agg (kdAt x).toArray, .pointer (some ⟨F, 0, none⟩), .pointer (some ⟨I, 0, none⟩)] W fun e w' => e = .returned (.bool (decide (kdLet x = b))) ∧ Below w.heap.size w w'
  rw [hk]
  have hd : decide (kdLet x = b) = (kdLet x == b) := by simp [BEq.beq]
  rw [hd]
  generalize kdLet x = L at *
  have HV := Lib.hid hV
  clear hV hk hd bK bV cF' cI' cF cI hb lF lI
  go_enter Tryz.func88, Tryz.ntmps88
  go_wp2_with fail
  rw [← HV.out]
  go_quiet (fail)
  go_wp2_with fail
  go_ret
  exact ⟨rfl, BV.trans (below_drewN' (Below.refl _ _) _)⟩

theorem rk_cells (j i : Nat) (hj : j < 7) (hi : i < 4) : rkC[j * 4 + i]? = (kdAt j)[i]? := by
  have h1 : j = 0 ∨ j = 1 ∨ j = 2 ∨ j = 3 ∨ j = 4 ∨ j = 5 ∨ j = 6 := by omega
  have h2 : i = 0 ∨ i = 1 ∨ i = 2 ∨ i = 3 := by omega
  rcases h1 with rfl | rfl | rfl | rfl | rfl | rfl | rfl
  all_goals rcases h2 with rfl | rfl | rfl | rfl
  all_goals rfl
theorem kdAt_len (x : Nat) : (kdAt x).length = 4 := by
  obtain ⟨v, f, g, h⟩ := kdAt_form x
  rw [h]; rfl
theorem isAggKind (w : World) : (isAgg (Tryz.indexKind_ren.t 23)).run Tryz.prog w = .ok true w := Tryz.isAgg138 w
theorem sizeKind (w : World) : (Go.sizeOf (Tryz.indexKind_ren.t 23)).run Tryz.prog w = .ok 4 w := Tryz.sizeOf138 w
theorem index_letter (F I K : Nat) (s : ByteArray) (k : Nat) (b : Int) (p : Nat) (hp : Lib.idxBy (fun _ y => decide (kdLet y = b)) [0, 1, 2, 3, 4, 5, 6] default = (p : Int)) (hix : ∀ W, Sem.run Tryz.prog (Instr.index 9 (.string s) (.int .i64 k)) W = .ok (.int .u8 b) W) (w : World) (cF : w.cell? ⟨F, 0, none⟩ = some (.string s)) (cI : w.cell? ⟨I, 0, none⟩ = some (.int .i64 k)) (lF : F < w.heap.size) (lI : I < w.heap.size) (bK : Blk w K 138 rkC) :
    Calls Tryz.prog 87 #[.slice (some ⟨K, 0, none⟩) 7 7, .func (.func 88) #[] #[.pointer (some ⟨F, 0, none⟩), .pointer (some ⟨I, 0, none⟩)]] w fun e w' => e = .returned (.int .i64 p) ∧ Below w.heap.size w w' := by
  have eg : ∀ args w, (callFunc 88 args).run Tryz.prog w = .ok (.enter 88 args) w := enters_of Tryz.func88 (by kernel_rfl) rfl
  have h := Go.Proofs.AnyQ.slices_IndexFunc Tryz.indexKind 4 isAggKind sizeKind kdAt kdAt_len (fun x => decide (kdLet x = b)) 88 #[.pointer (some ⟨F, 0, none⟩), .pointer (some ⟨I, 0, none⟩)] eg K 0 7 7 [0, 1, 2, 3, 4, 5, 6] w (letter_any F I s k b hix w cF cI lF lI) (by simp) (by omega) bK.lt (fun j hj i v hv => by
    have hi : i < 4 := by rw [← kdAt_len]; exact (List.getElem?_eq_some_iff.1 hv).1
    have hj' : j < 7 := by simpa using hj
    rw [bK.cells, Nat.zero_add, rk_cells j i hj' hi]
    have e : ([0, 1, 2, 3, 4, 5, 6] : List Nat)[j]! = j := by
      have h1 : j = 0 ∨ j = 1 ∨ j = 2 ∨ j = 3 ∨ j = 4 ∨ j = 5 ∨ j = 6 := by omega
      rcases h1 with rfl | rfl | rfl | rfl | rfl | rfl | rfl <;> rfl
    rw [e] at hv
    exact hv)
  refine h.mono ?_
  rintro e w' ⟨rfl, hb⟩
  exact ⟨by rw [show ([0, 1, 2, 3, 4, 5, 6] : List Nat).take 7 = [0, 1, 2, 3, 4, 5, 6] from rfl, hp], hb⟩

abbrev frm : ByteArray := ⟨#[98, 98, 119, 98, 98, 98, 108, 108]⟩
def frmP (k : Nat) : Nat := if k = 2 then 1 else if 6 ≤ k then 6 else 0
def frmV : Nat → List Value
  | 0 => []
  | k + 1 => frmV k ++ kdAt (frmP k)
theorem frmV_len (k : Nat) : (frmV k).length = k * 4 := by
  induction k with
  | zero => rfl
  | succ k ih => show (frmV k ++ kdAt (frmP k)).length = _; rw [List.length_append, ih, kdAt_len]; omega
theorem frm_at (k : Nat) (hk : k < 8) (W : World) : Sem.run Tryz.prog (Instr.index 9 (.string frm) (.int .i64 k)) W = .ok (.int .u8 (kdLet (frmP k))) W := by
  have h : k = 0 ∨ k = 1 ∨ k = 2 ∨ k = 3 ∨ k = 4 ∨ k = 5 ∨ k = 6 ∨ k = 7 := by omega
  rcases h with rfl | rfl | rfl | rfl | rfl | rfl | rfl | rfl
  all_goals exact run_index_str frm _ _ rfl (by decide) W
theorem frm_place (k : Nat) (hk : k < 8) : Lib.idxBy (fun _ y => decide (kdLet y = kdLet (frmP k))) [0, 1, 2, 3, 4, 5, 6] default = (frmP k : Int) := by
  have h : k = 0 ∨ k = 1 ∨ k = 2 ∨ k = 3 ∨ k = 4 ∨ k = 5 ∨ k = 6 ∨ k = 7 := by omega
  rcases h with rfl | rfl | rfl | rfl | rfl | rfl | rfl | rfl
  all_goals decide
theorem frmP_lt (k : Nat) : frmP k < 7 := by unfold frmP; split; omega; split <;> omega
theorem info_any {P : Program} {t : TypeId} {n : Nat} (h : (P.info? t).map (fun i => (i.size, i.zero.isSome, decide (i.bytes ≤ 1000))) = some (n, true, true)) : ∃ i z, P.info? t = some i ∧ i.zero = some z ∧ i.size = n ∧ i.bytes ≤ 1000 := by
  cases hi : P.info? t with
  | none => rw [hi] at h; cases h
  | some i =>
    rw [hi] at h
    simp only [Option.map_some, Option.some.injEq, Prod.mk.injEq, decide_eq_true_eq] at h
    obtain ⟨h1, h2, h3⟩ := h
    cases hz : i.zero with
    | none => rw [hz] at h2; cases h2
    | some z => exact ⟨i, z, rfl, hz, h1, h3⟩
theorem Tryz.infoKind : (Tryz.prog.info? 138).map (fun i => (i.size, i.zero.isSome, decide (i.bytes ≤ 1000))) = some (4, true, true) := by kernel_rfl
theorem cells_news (W : World) (t : TypeId) (cs : Array Value) : ∀ j u, cs.toList[j]? = some u → (W.alloc (.cells cs t)).cell? ((⟨W.heap.size, 0, none⟩ : Addr).add j) = some u := by
  intro j u h
  have hp : (⟨W.heap.size, 0, none⟩ : Addr).add j = ⟨W.heap.size, j, none⟩ := by unfold Addr.add; split <;> simp_all
  rw [hp, (Blk.new W t cs).cells]
  simpa using h
theorem make_kinds (w : World) : ∃ w', (Instr.makeSlice 129 (.int .i64 0) (.int .i64 8)).run Tryz.prog w = .ok (.slice (some ⟨w.heap.size, 0, none⟩) 0 8) w' ∧
    w'.ownsRow w.heap.size 138 4 (.slice (some ⟨w.heap.size, 0, none⟩) 0 8) 0 [] ∧ Below w.heap.size w w' := by
  obtain ⟨i0, z0, hi, hz0, hz2, hz3⟩ := info_any Tryz.infoKind
  obtain ⟨w2, hmk, ho2, hg2⟩ := run_makeSlice_owned (P := Tryz.prog) (w := w) w.heap.size 129 138 i0 z0 4 Tryz.underlying129 hi hz0 hz2 .i64 .i64 8 (by decide) (by omega) (by decide) (Nat.le_refl _)
  exact ⟨w2, hmk, ho2, (Below.refl _ _).grown hg2 (Nat.le_refl _) (fun q hq => by cases hq)⟩
set_option maxRecDepth 100000 in
set_option maxHeartbeats 4000000 in
theorem parse_form (w : World) :
    Calls Tryz.prog 59 #[.string frm] w fun e w' => ∃ v, e = .returned (.tuple #[v, .int .i64 0]) ∧ w'.ownsRow w.heap.size 138 4 v 8 (frmV 8) ∧ Below w.heap.size w w' := by
  obtain ⟨wA, hA⟩ : ∃ wA, wA = w.alloc (.cells #[.string frm] 9) := ⟨_, rfl⟩
  have bF : Blk wA w.heap.size 9 #[.string frm] := by rw [hA]; exact Blk.new _ _ _
  have BA : Below w.heap.size w wA := by rw [hA]; (repeat' (first | (with_reducible exact Below.refl _ _) | (with_reducible assumption) | (with_reducible refine Below.alloc ?_ ?_ _) | (with_reducible refine Below.drew ?_) | (with_reducible refine below_drewN' ?_ _) | (with_reducible refine Below.setCell ?_ ?_ _) | (with_reducible exact Nat.le_refl _) | omega | (simp; done) | (simp; omega)))
  have hk := rkinds_any wA
  have cF := bF.cells
  have lF := bF.lt
  go_enter Tryz.func59, Tryz.ntmps59
  go_wp2_with fail
  rw [← hA]
  clear hA
  go_wp2_with fail
  refine hk.mono ?_
  rintro e w1 ⟨rfl, hw1⟩
  have bK : Blk w1 wA.heap.size 138 rkC := by rw [hw1]; exact Blk.new _ _ _
  have b1 : Below wA.heap.size wA w1 := by rw [hw1]; exact (Below.refl _ _).alloc (Nat.le_refl _) _
  have hz1 : w1.heap.size = wA.heap.size + 1 := by rw [hw1]; simp
  have B1 := BA.trans (b1.mono BA.size)
  have bF1 := bF.belowAll b1
  have cF := bF1.cells
  have lF := bF1.lt
  obtain ⟨w2, hmk, ho2, b12⟩ := make_kinds w1
  have B2 := B1.trans (b12.mono B1.size)
  have bF2 := bF1.belowAll b12
  have bK2 := bK.belowAll b12
  have hK1 := bK.lt
  clear hk hw1 bF bK hz1
  have c1 := bF1.cells
  have l1 := bF1.lt
  have c2 := bF2.cells
  have l2 := bF2.lt
  go_upto_region 6 with fail
  obtain ⟨i0, z0, hi, hz0, hz1, hz3⟩ := info_any Tryz.infoKind
  obtain ⟨bb, hz2⟩ : ∃ bb, i0.bytes = bb := ⟨_, rfl⟩
  have hzc : z0.cells.size = 4 := by
    have : (Tryz.prog.info? 138).bind (fun i => i.zero.map (fun z => z.cells.size)) = some 4 := by kernel_rfl
    rw [hi] at this
    simpa [hz0] using this
  have hbb : bb ≤ 1000 := by omega
  have HBB := Lib.hid hbb
  have HK : Hid (wA.heap.size < w1.heap.size) := Lib.hid (by have := b1.size; have := bK2; have := hK1; omega)
  have HF : Hid (w.heap.size < w1.heap.size) := Lib.hid l1
  clear c1 l1 c2 l2 hbb hz3
  go_loopw [5, 17] (fun s5 s17 wr => ∃ k : Nat, k ≤ 8 ∧ s17 = .int .i64 k ∧ wr.ownsRow w1.heap.size 138 4 s5 k (frmV k) ∧ Below w1.heap.size w2 wr ∧ w1.heap.size < wr.heap.size) (fun _ s17 _ => 8 - (intOf s17).toNat)
  case atStart => exact ⟨0, by omega, rfl, ho2, (Below.refl _ _).mono b12.size, by have := ho2.lt _ rfl; omega⟩
  case round =>
    obtain ⟨k, hk, rfl, ho, hb, hsz⟩ := hrel
    obtain ⟨ga, gc, rfl⟩ := own_slice ho
    by_cases hlt : k < 8
    · have hltI : (k : Int) < 8 := by omega
      obtain ⟨X, hX⟩ : ∃ X, wr.alloc (.cells #[.int .i64 k] 3) = X := ⟨_, rfl⟩
      obtain ⟨N, hN⟩ : ∃ N, wr.heap.size = N := ⟨_, rfl⟩
      have bI : Blk X N 3 #[.int .i64 k] := by rw [← hX, ← hN]; exact Blk.new _ _ _
      have bX : Below wr.heap.size wr X := by rw [← hX]; exact (Below.refl _ _).alloc (Nat.le_refl _) _
      have bKX := (bK2.below hb HK.out).belowAll bX
      have bFX := (bF2.below hb HF.out).belowAll bX
      have hic := index_letter w.heap.size N wA.heap.size frm k (kdLet (frmP k)) (frmP k) (frm_place k hlt) (frm_at k hlt) X ((bFX.cells 0).trans rfl) ((bI.cells 0).trans rfl) bFX.lt bI.lt bKX
      have HX := Lib.hid hX
      have HN := Lib.hid hN
      have HO := Lib.hid ho
      have HB := Lib.hid hb
      clear hX hN ho hb
      go_upto_region 8 with fail
      rw [HX.out, HN.out]
      have hp7 : ((frmP k : Nat) : Int) < 7 := by have := frmP_lt k; omega
      have hpn := frmP_lt k
      have hV : Hid (frmV (k + 1) = frmV k ++ kdAt (frmP k)) := Lib.hid rfl
      generalize frmP k = p at *
      go_wp2_with fail
      refine hic.mono ?_
      rintro e x2 ⟨rfl, hb2⟩
      have bK3 := bKX.belowAll hb2
      obtain ⟨v0, f0, g0, hkd⟩ := kdAt_form p
      have hck : ∀ i u, (kdAt p)[i]? = some u → x2.cell? ⟨wA.heap.size, p * 4 + i, none⟩ = some u := fun i u hu => by
        rw [bK3.cells, rk_cells p i hpn (by rw [← kdAt_len]; exact (List.getElem?_eq_some_iff.1 hu).1)]; exact hu
      rw [hkd] at hck hV
      generalize kdLet p = L at *
      have q0 : x2.cell? ⟨wA.heap.size, p * 4, none⟩ = some (.int .u8 L) := hck 0 _ rfl
      have q1 : x2.cell? ⟨wA.heap.size, p * 4 + 1, none⟩ = some (.int .i64 v0) := hck 1 _ rfl
      have q2 : x2.cell? ⟨wA.heap.size, p * 4 + 2, none⟩ = some (.func (.func f0) #[] #[]) := hck 2 _ rfl
      have q3 : x2.cell? ⟨wA.heap.size, p * 4 + 3, none⟩ = some (.func (.func g0) #[] #[]) := hck 3 _ rfl
      have lK3 := bK3.lt
      have d0 : ¬ ((p : Nat) : Int) < 0 := by omega
      have hbr : Below wr.heap.size wr x2 := bX.trans (hb2.mono bX.size)
      have ho3 : x2.ownsRow w1.heap.size 138 4 (.slice ga k gc) k (frmV k) := own_below HO.out hbr
      have hbx : Below w1.heap.size w2 x2 := HB.out.trans (hbr.mono (by omega))
      have hsx : w1.heap.size < x2.heap.size := by have := hbr.size; omega
      clear hck hic hkd bX bKX bFX bI hb2
      go_wp2_with (at_builtin; refine wpList_append_own _ rfl _ _ 129 rfl w1.heap.size 138 i0 z0 4 bb Tryz.underlying129 hi hz0 hz1 hz2 hzc (by decide) _ _ _ rfl (ho3.alloc _) ⟨x2.heap.size, 0, none⟩ 1 1 (kdC L v0 f0 g0) rfl rfl (cells_news x2 _ _) (by simp [Value.oneCell']) (by simp only [maxLen]; omega) (by have := HBB.out; have := Nat.mul_le_mul (show k + 1 ≤ 9 by omega) this; omega) (by simp; omega) ?_; intro v' w4 hown' hgrow _)
      have hb4 : Below w1.heap.size w2 w4 := (hbx.alloc (by omega) _).grown hgrow (by simp; omega) (fun q hq => (ho3.lt q hq).1)
      have hs4 : w1.heap.size < w4.heap.size := by have := hb4.size; have := hgrow.size; simp at this; omega
      rw [← hV.out] at hown'
      go_roundw
      case rel => exact ⟨k + 1, by omega, by go_num, hown', hb4, hs4⟩
      case measure => simp [intOf]; omega
    · obtain rfl : k = 8 := by omega
      go_wp2_with fail
      go_ret2
      exact ⟨_, rfl, own_base ho (by have := B1.size; omega), B2.trans (hb.mono B1.size)⟩
end Go.Proofs.YtjocnooekgnedaaGreatDoor
/- Layer 11: the writer of records. -/
namespace Go.Proofs.YtjocnooekgnedaaGreatDoor
open Go.RowKit Go.Maps

/-- A writer with bytes. -/
structure WrAt (w : World) (W0 : Nat) (v : Value) (bs : List Int) : Prop where
  blk : Blk w W0 134 #[v]
  own : w.ownsRow 0 5 1 v bs.length (bs.map (.int .u8))
  far : v.ownBlock ≠ some W0
def wrF (W0 : Nat) (v : Value) : List Nat := W0 :: v.ownBlock.toList
theorem WrAt.below {w w' : World} {W0 : Nat} {v : Value} {bs : List Int} (h : WrAt w W0 v bs) (hb : Below w.heap.size w w') : WrAt w' W0 v bs :=
  ⟨h.blk.belowAll hb, own_below h.own hb, h.far⟩
def WrDid (w : World) (W0 : Nat) (v : Value) (bs : List Int) (r : Value) (e : Ending) (w' : World) : Prop :=
  e = .returned r ∧ ∃ v', WrAt w' W0 v' bs ∧ Grow w (wrF W0 v) w' (wrF W0 v')
/-- A byte more. -/
theorem WrAt.step {w X w4 : World} {W0 : Nat} {v v' : Value} {bs : List Int} {b : Int} (h : WrAt w W0 v bs) (hX : Below w.heap.size w X) (ho : w4.ownsRow 0 5 1 v' (bs.length + 1) ((bs.map (.int .u8)) ++ [.int .u8 b])) (hg : X.grownBy w4 v.ownBlock) (hv : v'.ownBlock = v.ownBlock ∨ v'.ownBlock = some X.heap.size) :
    WrAt (w4.setCell ⟨W0, 0, none⟩ v') W0 v' (bs ++ [b]) ∧ Grow w (wrF W0 v) (w4.setCell ⟨W0, 0, none⟩ v') (wrF W0 v') := by
  have hlt := h.blk.lt
  have hXs := hX.size
  have h4s := hg.size
  have b4 : Blk w4 W0 134 #[v] := (h.blk.belowAll hX).grown hg (fun e => h.far e.symm)
  have hf' : v'.ownBlock ≠ some W0 := by
    rcases hv with e | e
    · rw [e]; exact h.far
    · rw [e]; intro q; injection q with q; omega
  have bs' : Below 0 w4 (w4.setCell ⟨W0, 0, none⟩ v') := Below.setCell (Below.refl _ _) (Nat.zero_le _) _
  refine ⟨⟨b4.set_ 0 v', own_block (by simpa using ho) (fun g e => Below.heap_setCell _ _ _ _ (fun q => hf' (by rw [e]; simpa using q))), hf'⟩, ⟨⟨?_, ?_, ?_, ?_, fun g hgl hn => ?_⟩, fun g hgm => ?_⟩⟩
  · exact bs'.os.trans (hg.os.trans hX.os)
  · exact bs'.tape.trans (hg.tape.trans hX.tape)
  · exact bs'.output.trans (hg.output.trans hX.output)
  · have := bs'.size; omega
  · have h1 : g ≠ W0 := fun e => hn (by unfold wrF; simp [e])
    have h2 : some g ≠ v.ownBlock := fun e => hn (by unfold wrF; rw [← e]; simp)
    rw [Below.heap_setCell _ _ _ _ (fun q => h1 (by simpa using q)), hg.block g (by omega) h2, hX.block g hgl]
  · unfold wrF at hgm ⊢
    rcases List.mem_cons.1 hgm with e | e
    · exact .inl (by simp [e])
    · rcases hv with q | q
      · rw [q] at e; exact .inl (List.mem_cons_of_mem _ e)
      · rw [q] at e; simp at e; right; omega

theorem Tryz.infoByte : (Tryz.prog.info? 5).map (fun i => (i.zero, i.size, i.bytes)) = some (some (.int .u8 0), 1, 1) := by kernel_rfl
/-- A number's bytes, the lowest first. -/
def lowL (n : Int) : Nat → List Int
  | 0 => []
  | k + 1 => lowL n k ++ [n / 256 ^ k % 256]
theorem lowL_len (n : Int) (k : Nat) : (lowL n k).length = k := by
  induction k with
  | zero => rfl
  | succ k ih => show (lowL n k ++ _).length = _; rw [List.length_append, ih]; rfl
set_option maxRecDepth 100000 in
set_option maxHeartbeats 4000000 in
theorem low_any (W0 : Nat) (v : Value) (bs : List Int) (n : Int) (hn : 0 ≤ n ∧ n < 18446744073709551616) (m : Nat) (hm : m ≤ 4) (w : World) (h : WrAt w W0 v bs) (hl : bs.length ≤ 10000) :
    Calls Tryz.prog 172 #[.pointer (some ⟨W0, 0, none⟩), .int .u64 n, .int .i64 m] w (WrDid w W0 v (bs ++ lowL n m) (.tuple #[])) := by
  obtain ⟨i0, hi, hz0, hz1, hz2⟩ := info_parts Tryz.infoByte
  go_enter Tryz.func172, Tryz.ntmps172
  go_wp2_with fail
  go_loopw [8] (fun s8 wr => ∃ (k : Nat) (u : Value), k ≤ m ∧ s8 = .int .i64 k ∧ WrAt wr W0 u (bs ++ lowL n k) ∧ Grow w (wrF W0 v) wr (wrF W0 u)) (fun s8 _ => m - (intOf s8).toNat)
  case atStart => exact ⟨0, v, Nat.zero_le _, rfl, by simpa [lowL] using h, Grow.refl _ _⟩
  case round =>
    obtain ⟨k, u, hk, rfl, hr, hg⟩ := hrel
    by_cases hlt : k < m
    · have hltI : (k : Int) < m := by omega
      have hbl : (bs ++ lowL n k).length ≤ 10004 := by rw [List.length_append, lowL_len]; omega
      have HG := Lib.hid hg
      have HR := Lib.hid hr
      clear h hg hr
      go_upto_region 3 with fail
      refine wp_region_mix [.take 0, .take 1, .take 2, .take 3, .take 4, .take 5, .take 6, .take 7, .take 8, .take 9, .one 10, .one 11, .one 12, .one 13, .one 14] 12 (fun W => W.cell? ⟨W0, 0, none⟩ = some u) (by kernel_rfl) (by kernel_rfl) (fun _ _ _ _ _ h => h) ((HR.out.blk.cells 0).trans rfl) ?_
      simp only [List.map_cons, List.map_nil, Ms.fill, List.getD_cons_zero, List.getD_cons_succ]
      have m1 : IntKind.i64.wrap (8 * (k : Int)) = 8 * k := by rw [IntKind.wrap_i64]; omega
      have m2 : IntKind.u8.wrap (n / 2 ^ (8 * (k : Int)).toNat) = n / 256 ^ k % 256 := by
        rw [show (8 * (k : Int)).toNat = 8 * k by omega, IntKind.wrap_u8, show (2 : Int) ^ (8 * k) = 256 ^ k by rw [Int.pow_mul]; rfl]
      iterate 10 (refine mixT_take (by rfl) ?_ (fun w' hw' => ?_) ?_; rotate_left; (focus (go_simp; (try with_reducible rfl))); (try simp only [Act.put, List.setIfInBounds_toArray, List.set_cons_zero, List.set_cons_succ]))
      have HL : Hid (lowL n (k + 1) = lowL n k ++ [n / 256 ^ k % 256]) := Lib.hid rfl
      generalize n / 256 ^ k % 256 = b at *
      clear m1
      obtain ⟨X, hX⟩ : ∃ X, X = wr.drew.alloc (.cells #[.int .u8 b] 5) := ⟨_, rfl⟩
      have bX : Below wr.heap.size wr X := by rw [hX]; exact ((Below.refl _ _).drew).alloc (Nat.le_refl _) _
      have hX2 : (wr.alloc (.cells #[.int .u8 b] 5)).drew = X := by rw [hX]; rfl
      have rX : Reads X (some ⟨wr.heap.size, 0, none⟩) [.int .u8 b] := .inr ⟨wr.heap.size, 0, rfl, by rw [hX]; simp, fun j u hu => by
        rw [hX, Nat.zero_add]
        rcases j with _ | j
        · refine ((Blk.new wr.drew 5 #[.int .u8 b]).cells 0).trans ?_; simpa using hu
        · simp at hu⟩
      have HX := Lib.hid hX2
      clear hX hX2
      refine mixT_step (by rfl) fun K hK => ?_
      go_simp
      rw [HX.out]
      have hR2 := HR.out.below bX
      refine hK _ _ (fun _ => (hR2.blk.cells 0).trans rfl) ?_
      clear hK K
      refine mixT_step (by rfl) fun K hK => ?_
      refine wp_append_any (w := X) _ _ 29 rfl 0 5 i0 (.int .u8 0) 1 Tryz.underlying29 hi hz0 hz1 hz2 rfl u _ _ rfl hR2.own (some ⟨wr.heap.size, 0, none⟩) 1 1 [.int .u8 b] rfl rfl (fun h => by cases h) rX (by simp [Value.oneCell']) (by simp only [maxLen]; omega) (by omega) (Nat.zero_le _) ?_
      intro v' w4 hown hgrow hat
      obtain ⟨av, cv, e⟩ := own_slice hown
      rw [List.length_append] at e
      subst e
      obtain ⟨hstep, hG2⟩ := HR.out.step bX hown hgrow hat
      have b4 : Blk w4 W0 134 #[u] := hR2.blk.grown hgrow (fun e => hR2.far e.symm)
      have c4 : w4.cell? ⟨W0, 0, none⟩ = some u := (b4.cells 0).trans rfl
      have l4 := b4.lt
      have f4 := b4.free 0
      refine hK _ _ (fun _ => c4) ?_
      clear hK K
      refine mixT_step (by rfl) fun K hK => ?_
      go_simp
      refine hK _ _ (fun h => absurd h (by decide)) ?_
      clear hK K
      refine mixT_step (by rfl) fun K hK => ?_
      go_simp
      refine hK _ _ (fun h => absurd h (by decide)) ?_
      clear hK K
      refine mixT_step (by rfl) fun K hK => ?_
      go_simp
      refine hK _ _ (fun h => absurd h (by decide)) ?_
      clear hK K
      refine mixT_nil ?_
      rw [List.append_assoc, ← HL.out] at hstep
      have hg5 := HG.out.trans hG2
      generalize w4.setCell ⟨W0, 0, none⟩ (.slice av (bs.length + (lowL n k).length + 1) cv) = w5 at *
      clear c4 l4 f4 b4 hown hgrow hat hG2 hR2
      go_wp2_with fail
      go_roundw
      case rel => exact ⟨k + 1, _, by omega, by go_num, hstep, hg5⟩
      case measure => simp [intOf]; omega
    · obtain rfl : k = m := by omega
      go_wp2_with fail
      refine bodyPost_none (by rfl) rfl ?_
      exact ⟨rfl, u, hr, hg⟩

set_option maxRecDepth 100000 in
set_option maxHeartbeats 4000000 in
theorem short_one (W0 : Nat) (v : Value) (bs : List Int) (n : Int) (hn : 0 ≤ n ∧ n < 128) (w : World) (h : WrAt w W0 v bs) (hl : bs.length ≤ 10000) :
    Calls Tryz.prog 175 #[.pointer (some ⟨W0, 0, none⟩), .int .u64 n] w (WrDid w W0 v (bs ++ [n]) (.tuple #[])) := by
  obtain ⟨i0, hi, hz0, hz1, hz2⟩ := info_parts Tryz.infoByte
  have d1 : ¬ 128 ≤ n := by omega
  have m2 : IntKind.u8.wrap n = n := by rw [IntKind.wrap_u8]; omega
  have HR := Lib.hid h
  clear h
  go_enter Tryz.func175, Tryz.ntmps175
  go_wp2_with fail
  refine wp_loop_rounds 1 ?_
  rw [rounds_succ]
  obtain ⟨X, hX⟩ : ∃ X, X = w.alloc (.cells #[.int .u8 n] 5) := ⟨_, rfl⟩
  have bX : Below w.heap.size w X := by rw [hX]; exact (Below.refl _ _).alloc (Nat.le_refl _) _
  have rX : Reads X (some ⟨w.heap.size, 0, none⟩) [.int .u8 n] := .inr ⟨w.heap.size, 0, rfl, by rw [hX]; simp, fun j u hu => by
    rw [hX, Nat.zero_add]
    rcases j with _ | j
    · refine ((Blk.new w 5 #[.int .u8 n]).cells 0).trans ?_; simpa using hu
    · simp at hu⟩
  have hR2 := HR.out.below bX
  have cW : w.cell? ⟨W0, 0, none⟩ = some v := (HR.out.blk.cells 0).trans rfl
  have lW := HR.out.blk.lt
  have HX := Lib.hid hX
  clear hX
  go_wp2_with (at_builtin; rw [← HX.out]; refine wpList_append_any _ rfl (.tmp 24) (.tmp 27) _ rfl 0 5 i0 (.int .u8 0) 1 Tryz.underlying29 hi hz0 hz1 hz2 rfl v _ _ rfl hR2.own (some ⟨w.heap.size, 0, none⟩) 1 1 [.int .u8 n] rfl rfl (fun h => by cases h) rX (by simp [Value.oneCell']) (by simp only [maxLen]; omega) (by omega) (Nat.zero_le _) ?_; intro v' w4 hown hgrow hat; obtain ⟨hstep, hG2⟩ := HR.out.step bX hown hgrow hat; obtain ⟨av, cv, e⟩ := own_slice hown; subst e; have b4 : Blk w4 W0 134 #[v] := hR2.blk.grown hgrow (fun e => hR2.far e.symm); have c4 : w4.cell? ⟨W0, 0, none⟩ = some v := (b4.cells 0).trans rfl; have l4 := b4.lt; have f4 := b4.free 0)
  refine bodyPost_none (by rfl) rfl ?_
  exact ⟨rfl, _, hstep, hG2⟩

/-- A number of a kind's width. -/
theorem bitLen_small (n : Nat) (m : Nat) (hm : m = 1 ∨ m = 2) (hn : n < 256 ^ m) : Lib.bitLen n ≤ 8 * m := by
  rcases hm with rfl | rfl
  · exact Lib.bitLen_le8 ⟨n, by simpa using hn⟩
  · by_cases h : n < 256
    · have := Lib.bitLen_le8 ⟨n, h⟩; simp only at this; omega
    · rw [Lib.bitLen_shift8 n (by omega) (by omega)]
      have := Lib.bitLen_le8 ⟨n / 256, by omega⟩; simp only at this; omega
set_option maxRecDepth 100000 in
set_option maxHeartbeats 4000000 in
theorem wnumber_any (W0 : Nat) (v : Value) (bs : List Int) (c : Int) (f g : Nat) (n : Int) (m : Nat) (hm : m = 1 ∨ m = 2) (hn : 0 ≤ n ∧ n < 256 ^ m) (w : World) (h : WrAt w W0 v bs) (hl : bs.length ≤ 10000) :
    Calls Tryz.prog 134 #[.pointer (some ⟨W0, 0, none⟩), .agg (kdC c m f g).toArray, .agg #[.int .u64 n, .string ⟨#[]⟩, .slice none 0 0]] w (WrDid w W0 v (bs ++ lowL n m) (.int .i64 0)) := by
  have hn2 : n < 65536 := by rcases hm with rfl | rfl; simp at hn; omega; simp at hn; omega
  have hbl := bitLen_small n.toNat m hm (by rcases hm with rfl | rfl <;> simp at hn ⊢ <;> omega)
  obtain ⟨wA, hA⟩ : ∃ wA, wA = (w.alloc (.cells (kdC c m f g).toArray 138)).alloc (.cells #[.int .u64 n, .string ⟨#[]⟩, .slice none 0 0] 79) := ⟨_, rfl⟩
  have bK : Blk wA w.heap.size 138 (kdC c m f g).toArray := by rw [hA]; exact (by (repeat' (first | (with_reducible assumption) | exact Blk.new' (by simp) | refine Blk.alloc ?_ _)))
  have bX : Blk wA (w.heap.size + 1) 79 #[.int .u64 n, .string ⟨#[]⟩, .slice none 0 0] := by rw [hA]; exact (by (repeat' (first | (with_reducible assumption) | exact Blk.new' (by simp) | refine Blk.alloc ?_ _)))
  have BA : Below w.heap.size w wA := by rw [hA]; (repeat' (first | (with_reducible exact Below.refl _ _) | (with_reducible assumption) | (with_reducible refine Below.alloc ?_ ?_ _) | (with_reducible refine Below.drew ?_) | (with_reducible refine below_drewN' ?_ _) | (with_reducible refine Below.setCell ?_ ?_ _) | (with_reducible exact Nat.le_refl _) | omega | (simp; done) | (simp; omega)))
  have hlow := low_any W0 v bs n (by omega) m (by omega)
  have hlen := Any.bits_Len64 Tryz.len64 n
  have HA := Lib.hid hA
  clear hA
  have cK := bK.cells
  have lK := bK.lt
  have cX := bX.cells
  have lX := bX.lt
  go_enter Tryz.func134, Tryz.ntmps134
  go_upto_region 1 with fail
  rw [← HA.out]
  go_upto_region 3 with fail
  have m3 : IntKind.i64.wrap (8 * (m : Int)) = 8 * m := by rw [IntKind.wrap_i64]; omega
  obtain ⟨z, hz⟩ : ∃ z, Lib.bitLen n.toNat = z := ⟨_, rfl⟩
  rw [hz] at hbl hlen
  have d3 : ¬ (8 * (m : Int)) < z := by omega
  have hlen2 : ∀ W, Calls Tryz.prog 102 #[.int .u64 n] W fun e w' => e = .returned (.int .i64 z) ∧ w' = W := fun W => hlen W hn.1 (by omega)
  have HW := Lib.hid h
  have HA2 := Lib.hid BA
  clear hz hbl hlen h BA
  go_quiet ((go_at_call 102; exact Calls.quiet_of_same (hlen2 _)))
  have B3 : Below w.heap.size w (wA.drewN nq) := HA2.out.trans (below_drewN' (Below.refl _ _) nq |>.mono HA2.out.size)
  have hlow3 := hlow (wA.drewN nq) (HW.out.below B3) hl
  have HB3 := Lib.hid B3
  clear hlow hlen2 m3 B3
  go_wp2_with fail
  refine hlow3.mono ?_
  rintro e w5 ⟨rfl, v', hw5, hg5⟩
  go_wp2_with fail
  go_ret
  exact ⟨rfl, v', hw5, (Grow.of_below HB3.out _).trans hg5⟩

theorem lowL_4 (n : Int) : lowL n 4 = le4 n := by
  show [] ++ [n / 256 ^ 0 % 256] ++ [n / 256 ^ 1 % 256] ++ [n / 256 ^ 2 % 256] ++ [n / 256 ^ 3 % 256] = _
  unfold le4
  simp
theorem take_le4 {l : List Int} {k : Nat} (hk : k < l.length) : (l.take (k + 1)).flatMap le4 = (l.take k).flatMap le4 ++ le4 l[k] := by
  rw [List.take_add_one, List.getElem?_eq_getElem hk, List.flatMap_append]; simp
set_option maxRecDepth 100000 in
set_option maxHeartbeats 4000000 in
theorem wlist_any (W0 : Nat) (v : Value) (bs : List Int) (c m : Int) (f g : Nat) (A : Option Addr) (cap : Nat) (l : List Int) (hl0 : l.length ≤ 60) (hl1 : ∀ n ∈ l, 0 ≤ n ∧ n < 4294967296) (w : World) (h : WrAt w W0 v bs) (hl : bs.length ≤ 5000) (hR : Reads w A (l.map (.int .u32))) (hAF : ∀ a, A = some a → 0 < l.length → a.block ∉ wrF W0 v) :
    Calls Tryz.prog 140 #[.pointer (some ⟨W0, 0, none⟩), .agg (kdC c m f g).toArray, .agg #[.int .u64 0, .string ⟨#[]⟩, .slice A l.length cap]] w (WrDid w W0 v (bs ++ [(l.length : Int)] ++ l.flatMap le4) (.int .i64 0)) := by
  obtain ⟨wA, hA⟩ : ∃ wA, wA = (w.alloc (.cells (kdC c m f g).toArray 138)).alloc (.cells #[.int .u64 0, .string ⟨#[]⟩, .slice A l.length cap] 79) := ⟨_, rfl⟩
  have bX : Blk wA (w.heap.size + 1) 79 #[.int .u64 0, .string ⟨#[]⟩, .slice A l.length cap] := by rw [hA]; exact (by (repeat' (first | (with_reducible assumption) | exact Blk.new' (by simp) | refine Blk.alloc ?_ _)))
  have BA : Below w.heap.size w wA := by rw [hA]; (repeat' (first | (with_reducible exact Below.refl _ _) | (with_reducible assumption) | (with_reducible refine Below.alloc ?_ ?_ _) | (with_reducible refine Below.drew ?_) | (with_reducible refine below_drewN' ?_ _) | (with_reducible refine Below.setCell ?_ ?_ _) | (with_reducible exact Nat.le_refl _) | omega | (simp; done) | (simp; omega)))
  have hsh := short_one W0 v bs l.length (by omega) wA (h.below BA) (by omega)
  have HRA := hR.below BA
  have HA := Lib.hid hA
  have HWl := Lib.hid h.blk.lt
  have HFr := Lib.hid h
  have m1 : IntKind.u64.wrap (l.length : Int) = l.length := by rw [IntKind.wrap_u64]; omega
  have d1 : ¬ (60 : Int) < l.length := by omega
  clear hA h hR
  have cX := bX.cells
  have lX := bX.lt
  go_enter Tryz.func140, Tryz.ntmps140
  go_upto_region 1 with fail
  rw [← HA.out]
  go_wp2_with fail
  refine hsh.mono ?_
  rintro e w1 ⟨rfl, u, hw1, hg1⟩
  have hnX : w.heap.size + 1 ∉ wrF W0 v := fun hm => by
    unfold wrF at hm
    rcases List.mem_cons.1 hm with e | e
    · have := HWl.out; omega
    · simp at e
      have := (own_lt HFr.out.own _ e).2; omega
  have bX1 := hg1.blk bX hnX
  have cX := bX1.cells
  have lX := bX1.lt
  clear hsh
  go_wp2_with fail
  have hg01 : Grow w (wrF W0 v) w1 (wrF W0 u) := (Grow.of_below BA _).trans hg1
  have hR1 : Reads w1 A (l.map (.int .u32)) := by
    rcases Nat.eq_zero_or_pos l.length with h0 | h0
    · rw [List.length_eq_zero_iff.1 h0]; exact .inl rfl
    · exact HRA.growF hg1 (fun a e => hAF a e h0)
  have hA1 : ∀ a, A = some a → 0 < l.length → a.block ∉ wrF W0 u := fun a e h0 => hg1.notin (hAF a e h0) (HRA.blk_lt (by rw [List.length_map]; exact h0) a e)
  have HR1 := Lib.hid hR1
  have HA1 := Lib.hid hA1
  have HL1 := Lib.hid hl1
  clear hl1 hR1 hA1 hAF HRA bX1 cX lX bX hnX hg1
  go_loopw [32] (fun s32 wr => ∃ (k : Nat) (u' : Value), k ≤ l.length ∧ s32 = .int .i64 k ∧ WrAt wr W0 u' (bs ++ [(l.length : Int)] ++ (l.take k).flatMap le4) ∧ Grow w1 (wrF W0 u) wr (wrF W0 u')) (fun s32 _ => l.length - (intOf s32).toNat)
  case atStart => exact ⟨0, u, Nat.zero_le _, rfl, by simpa using hw1, Grow.refl _ _⟩
  case round =>
    obtain ⟨k, u', hk, rfl, hr, hg⟩ := hrel
    by_cases hlt : k < l.length
    · have hltI : (k : Int) < l.length := by omega
      have hn := HL1.out _ (List.getElem_mem hlt)
      have hRr : Reads wr A (l.map (.int .u32)) := HR1.out.growF hg (fun a e => HA1.out a e (by omega))
      obtain ⟨ab, ao, rfl, hab, hc⟩ := hRr.at_ (k := k) (by rw [List.length_map]; exact hlt)
      simp only [List.getElem_map] at hc
      have HT := Lib.hid (take_le4 hlt)
      have hlen : (bs ++ [(l.length : Int)] ++ (l.take k).flatMap le4).length ≤ 10000 := by simp only [List.length_append, le4s_length, List.length_take, List.length_cons, List.length_nil]; omega
      have hlow := low_any W0 u' (bs ++ [(l.length : Int)] ++ (l.take k).flatMap le4) l[k] (by omega) 4 (by omega) wr hr hlen
      rw [lowL_4] at hlow
      generalize l[k] = n at *
      have m3 : IntKind.u64.wrap n = n := by rw [IntKind.wrap_u64]; omega
      have HGG := Lib.hid hg
      clear hg hr hRr hlen
      go_wp2_with fail
      refine hlow.mono ?_
      rintro e w5 ⟨rfl, u5, hw5, hg5⟩
      rw [List.append_assoc, ← HT.out] at hw5
      have hg6 := HGG.out.trans hg5
      clear hlow m3 hc hab hg5
      go_wp2_with fail
      go_roundw
      case rel => exact ⟨k + 1, u5, by omega, by go_num, hw5, hg6⟩
      case measure => simp [intOf]; omega
    · obtain rfl : k = l.length := by omega
      rw [List.take_length] at hr
      go_wp2_with fail
      go_ret
      exact ⟨rfl, u', hr, hg01.trans hg⟩
end Go.Proofs.YtjocnooekgnedaaGreatDoor
