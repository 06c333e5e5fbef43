/- Parts of the proof, put together by program: UN, UO. -/
import Derived.Test.YtloddiipepiocaaGreatDoorPart44
import Derived.Test.YtloddiipepiocaaGreatDoorPart32
import Derived.Deep.CutRange
import Derived.Deep.CutBlock
import Derived.Test.YtloddiipepiocaaGreatDoorPart01
import Derived.Test.YtloddiipepiocaaGreatDoorPart25
set_option linter.unusedVariables false
set_option linter.unusedSimpArgs false
/- Layer 6: Crash. -/
namespace Go.Proofs.YtloddiipepiocaaGreatDoor
open Go.RowKit Go.Maps

/-- The list of kept indices, as numbers. -/
def natsV (l : List Nat) : List Value := l.map fun i : Nat => Value.int .i64 (i : Int)
theorem natsV_length (l : List Nat) : (natsV l).length = l.length := by unfold natsV; rw [List.length_map]

set_option maxRecDepth 100000 in
set_option maxHeartbeats 1000000 in
theorem crash1_any (D S n c M X L cc : Nat) (A : Option Addr) (tk pw : Int) (off : Bool) (i : Nat) (hi : i < L) (w : World) (bD : Blk w D 115 (devC S n c (.slice A L cc) tk pw off M)) (bX : Blk w X 45 #[.pointer (some ⟨D, 0, none⟩)]) :
    Calls Tryz.prog 82 #[.int .i64 (i : Int), .pointer (some ⟨X, 0, none⟩)] w fun e w' => e = .returned (.bool false) ∧ w' = w := by
  unfold devC at bD
  have cD := bD.cells
  have lD := bD.lt
  have cX := bX.cells
  have lX := bX.lt
  have h0 : ¬ (i : Int) < 0 := by omega
  have h1 : ¬ (L : Int) ≤ i := by omega
  go_enter Tryz.func82, Tryz.ntmps82
  go_wp2_with fail
  go_ret
  exact ⟨rfl, rfl⟩

set_option maxRecDepth 100000 in
set_option maxHeartbeats 1000000 in
theorem crashIndex_any (D S n c M X L cc cb : Nat) (A Bl : Option Addr) (tk pw : Int) (off : Bool) (l : List Nat) (hin : ∀ i ∈ l, i < L) (hl : l.length ≤ 1000) (w : World) (bD : Blk w D 115 (devC S n c (.slice A L cc) tk pw off M)) (bX : Blk w X 45 #[.pointer (some ⟨D, 0, none⟩)]) (hB : Reads w Bl (natsV l)) :
    Calls Tryz.prog 144 #[.slice Bl l.length cb, .func (.func 82) #[] #[.pointer (some ⟨X, 0, none⟩)]] w fun e w' => e = .returned (.int .i64 (-1)) ∧ w' = w := by
  have HIN := Lib.hid hin
  clear hin
  go_enter Tryz.func144, Tryz.ntmps144
  go_wp2_with fail
  go_loopw [5, 8] (fun _ q wr => ∃ k : Nat, k ≤ l.length ∧ q = .int .i64 k ∧ wr = w) (fun _ q _ => l.length - (RowKit.intOf q).toNat)
  case atStart => exact ⟨0, Nat.zero_le _, rfl, rfl⟩
  case round =>
    obtain ⟨k, hk, rfl, hw⟩ := hrel
    subst hw
    by_cases hlt : k < l.length
    · obtain ⟨b, off', rfl, hb, hc⟩ := hB.at_ (k := k) (by rw [natsV_length]; exact hlt)
      have hx := HIN.out l[k] (List.getElem_mem hlt)
      unfold natsV at hc
      rw [List.getElem_map] at hc
      generalize l[k] = x at hc hx
      go_wp2_with fail
      refine (crash1_any D S n c M X L cc A tk pw off x hx _ bD bX).mono ?_
      rintro e w2 ⟨rfl, rfl⟩
      go_wp2_with fail
      go_roundw
      case rel => exact ⟨k + 1, by omega, by go_num, by first | rfl | trivial⟩
      case measure => simp [RowKit.intOf]; omega
    · obtain rfl : k = l.length := by omega
      go_wp2_with fail
      go_ret
      exact ⟨rfl, rfl⟩
set_option maxRecDepth 100000 in
set_option maxHeartbeats 1000000 in
theorem crashContains_any (D S n c M X L cc cb : Nat) (A Bl : Option Addr) (tk pw : Int) (off : Bool) (l : List Nat) (hin : ∀ i ∈ l, i < L) (hl : l.length ≤ 1000) (w : World) (bD : Blk w D 115 (devC S n c (.slice A L cc) tk pw off M)) (bX : Blk w X 45 #[.pointer (some ⟨D, 0, none⟩)]) (hB : Reads w Bl (natsV l)) :
    Calls Tryz.prog 81 #[.slice Bl l.length cb, .func (.func 82) #[] #[.pointer (some ⟨X, 0, none⟩)]] w fun e w' => e = .returned (.bool false) ∧ w' = w := by
  go_enter Tryz.func81, Tryz.ntmps81
  go_wp2_with fail
  refine (crashIndex_any D S n c M X L cc cb A Bl tk pw off l hin hl _ bD bX hB).mono ?_
  rintro e w2 ⟨rfl, rfl⟩
  go_wp2_with fail
  go_ret
  exact ⟨rfl, rfl⟩

theorem reads_keepEx {w W : World} {bs : List Nat} {A : Option Addr} {xs : List Value} (hR : Reads w A xs) (hx : KeepEx w.heap.size bs w W) (ha : ∀ ad, A = some ad → ad.block ∉ bs) : Reads W A xs := by
  rcases hR with h | ⟨b, off, e, hb, hc⟩
  · exact .inl h
  · exact .inr ⟨b, off, e, Nat.lt_of_lt_of_le hb hx.size, fun j u hu => (hx.cell (p := ⟨b, off + j, none⟩) hb (show b ∉ bs from ha ⟨b, off, none⟩ e)).trans (hc j u hu)⟩
theorem DevAt.off_ {w : World} {D : Nat} {B : List Nat} {x : DevS} (h : DevAt w D B x) (b : Bool) : DevAt (w.setCell ⟨D, 4, none⟩ (.bool b)) D B { x with off := b } := by
  obtain ⟨ok, half, ⟨S, c, M, cv, m, hD, hS, hM, hc⟩, lt⟩ := h
  obtain ⟨n1, n2, n3, n4, n5, n6⟩ := m.ne
  have hk : ∀ q, q ≠ D → (w.setCell ⟨D, 4, none⟩ (.bool b)).heap[q]? = w.heap[q]? := fun q hq => Below.heap_setCell w ⟨D, 4, none⟩ _ q hq
  have hD0 : D ≠ 0 := by have := (lt D hD).1; omega
  have hS' : ∀ g, (Value.slice (some ⟨S, 0, none⟩) x.stable.length c).ownBlock = some g → g ≠ D := fun g e => by cases e; exact fun e => n1 e.symm
  refine ⟨⟨ok.lo, ok.hi, ok.sec, ok.cac, ok.len, ok.tk, ok.pw⟩, ⟨by simpa using half.1, fun j hj => (World.cell?_of_block (w := w) (a := ⟨0, j, none⟩) (hk 0 (fun e => hD0 e.symm))).trans (half.2 j hj)⟩, ⟨S, c, M, cv, ⟨m.dev.set_ 4 (.bool b), own_block m.sta fun g e => hk g (hS' g e), own_block m.cac fun g e => hk g (fun e2 => n4 (by rw [← e2]; exact e)), map_block m.map (hk M (fun e => n2 e.symm))⟩, hD, hS, hM, hc⟩, fun q hq => ⟨(lt q hq).1, by simpa using (lt q hq).2⟩⟩

/-- The writes that are kept. -/
def keptW (x : DevS) (keep : List Nat) : List (Int × List Int) := keep.map fun i => x.cache.getD i (0, [])
theorem keptW_step {st : List (List Int)} {x : DevS} {keep : List Nat} {k : Nat} (hk : k < keep.length) (hi : keep[k] < x.cache.length) : stApply st (keptW x (keep.take (k + 1))) = (stApply st (keptW x (keep.take k))).set (x.cache[keep[k]]).1.toNat (x.cache[keep[k]]).2 := by
  unfold stApply keptW
  rw [List.take_succ_eq_append_getElem hk, List.map_append, List.foldl_append, List.map_cons, List.map_nil, List.getD_eq_getElem?_getD, List.getElem?_eq_getElem hi]
  rfl
theorem keptW_sec {x : DevS} (ok : x.Ok) {keep : List Nat} (hk : KeepOk x keep) (k : Nat) : ∀ s ∈ stApply x.stable (keptW x (keep.take k)), s.length = 128 ∧ Bytes s :=
  stApply_sec ok.sec fun p hp => by
    obtain ⟨i, hi, rfl⟩ := List.mem_map.1 hp
    have := hk i (List.mem_of_mem_take hi)
    rw [List.getD_eq_getElem?_getD, List.getElem?_eq_getElem this]
    exact (ok.cac _ (List.getElem_mem this)).2.2

set_option maxRecDepth 100000 in
set_option maxHeartbeats 8000000 in
theorem crash_dev (D : Nat) (B : List Nat) (x : DevS) (A : Option Addr) (ca : Nat) (keep : List Nat) (hk : KeepOk x keep) (hasc : keep.Pairwise (· < ·)) (hl : keep.length ≤ 1000) (w : World) (h : DevAt w D B x) (hR : Reads w A (natsV keep)) (hAB : ∀ ad, A = some ad → ad.block ∉ B) :
    Calls Tryz.prog 31 #[.pointer (some ⟨D, 0, none⟩), .slice A keep.length ca] w (DevDid w D B (0, x.crashed keep)) := by
  obtain ⟨S, c, M, cv, m, hD, hS, hM, hcv⟩ := h.mem
  have ok := h.ok
  have hhalf := h.half
  have hltB := h.lt
  have hz := zeroDvW
  obtain ⟨Ac, cc, g, hcvE, hA⟩ := cv_form m
  subst hcvE
  have hL := ok.len
  have hN := ok.hi
  obtain ⟨wA, hwA⟩ : ∃ wA, wA = w.alloc (.cells #[.pointer (some ⟨D, 0, none⟩)] 45) := ⟨_, rfl⟩
  have bX : Blk wA w.heap.size 45 #[.pointer (some ⟨D, 0, none⟩)] := by rw [hwA]; exact Blk.new _ _ _
  have BA : Below w.heap.size w wA := by rw [hwA]; (repeat' (first | (with_reducible exact Below.refl _ _) | (with_reducible assumption) | (with_reducible refine Below.alloc ?_ ?_ _) | (with_reducible refine Below.drew ?_) | (with_reducible refine below_drewN' ?_ _) | (with_reducible refine Below.setCell ?_ ?_ _) | (with_reducible exact Nat.le_refl _) | omega | (simp; done) | (simp; omega)))
  have mA : DevMem wA D S c M (.slice Ac x.cache.length cc) x := ⟨m.dev.belowAll BA, own_below m.sta BA, own_below m.cac BA, map_block m.map (BA.block M m.map.lt)⟩
  have hRA := hR.below BA
  have hXl : ∀ b ∈ B, b < w.heap.size := fun b hb => (hltB b hb).2
  have HKP := Lib.hid hk
  have HASC := Lib.hid hasc
  have HB := Lib.hid (And.intro hD (And.intro hS (And.intro hM hcv)))
  have HH := Lib.hid hhalf
  have HLT := Lib.hid hltB
  have HXL := Lib.hid hXl
  have HAB := Lib.hid hAB
  clear hk hasc h m hR hD hS hM hcv hhalf hltB hXl hAB
  have hok := devOk_any D S x.stable.length c (.slice Ac x.cache.length cc) x.taken x.power x.off M wA mA.dev
  have hcf := crashContains_any D S x.stable.length c M w.heap.size x.cache.length cc ca Ac A x.taken x.power x.off keep HKP.out hl wA mA.dev bX hRA
  have hmf : ∀ (fn : Fn) (first cap : Array Value) (w : World), (Instr.makeFunc fn first cap).run Tryz.prog w = .ok (.func fn first cap) w := fun _ _ _ _ => rfl
  have cX := bX.cells
  have lX := bX.lt
  go_enter Tryz.func31, Tryz.ntmps31
  go_wp2_with fail
  rw [← hwA]
  clear hwA
  go_wp2_with fail
  refine hok.mono ?_
  rintro e w1 ⟨rfl, hw1⟩
  replace hw1 := hw1.symm
  subst hw1
  go_wp2_with fail
  refine hcf.mono ?_
  rintro e w1 ⟨rfl, hw1⟩
  replace hw1 := hw1.symm
  subst hw1
  clear hok hcf cX lX
  go_wp2_with fail
  -- they ascend
  go_loopw [5] (fun q wr => ∃ k : Nat, q = .int .i64 ((k : Int) + 1) ∧ (k = 0 ∨ k < keep.length) ∧ Below wA.heap.size wA wr) (fun q _ => keep.length - (RowKit.intOf q).toNat)
  case atStart => exact ⟨0, rfl, .inl rfl, Below.refl _ _⟩
  case round =>
    obtain ⟨k, rfl, hk0, hb⟩ := hrel
    by_cases hlt : k + 1 < keep.length
    · obtain ⟨b, off, rfl, hb0, hc0⟩ := (hRA.below hb).at_ (k := k) (by rw [natsV_length]; omega)
      obtain ⟨b', off', he, hb1, hc1⟩ := (hRA.below hb).at_ (k := k + 1) (by rw [natsV_length]; exact hlt)
      cases he
      have hp := List.pairwise_iff_getElem.1 HASC.out k (k + 1) (by omega) hlt (by omega)
      unfold natsV at hc0 hc1
      rw [List.getElem_map] at hc0 hc1
      generalize keep[k] = x0 at hc0 hp
      generalize keep[k + 1] = x1 at hc1 hp
      have hlt' : (k : Int) + 1 < keep.length := by omega
      have hle : ¬ (x1 : Int) ≤ x0 := by omega
      go_wp2_with fail
      go_quiet (fail)
      go_wp2_with fail
      go_roundw
      case rel => exact ⟨k + 1, by go_num, .inr hlt, below_drewN' hb _⟩
      case measure => simp [RowKit.intOf]; omega
    · have hlt' : ¬ (k : Int) + 1 < keep.length := by omega
      have B0 := BA.trans (hb.mono BA.size)
      have m0 : DevMem wr D S c M (.slice Ac x.cache.length cc) x := ⟨mA.dev.belowAll hb, own_below mA.sta hb, own_below mA.cac hb, map_block mA.map (hb.block M mA.map.lt)⟩
      have bX0 := bX.belowAll hb
      obtain ⟨n1, n2, n3, n4, n5, n6⟩ := m0.ne
      have hDSM : ∀ b ∈ [D, S, M], b ∈ B := fun b hb => by
        obtain ⟨h1, h2, h3, -⟩ := HB.out
        simp only [List.mem_cons, List.mem_nil_iff, or_false] at hb
        rcases hb with rfl | rfl | rfl
        · exact h1
        · exact h2
        · exact h3
      have hXn : w.heap.size ∉ [D, S, M] := fun hm => by have := HXL.out _ (hDSM _ hm); omega
      have HAD : Hid (∀ ad, A = some ad → ad.block ∉ [D, S, M]) := Lib.hid fun ad e hm => HAB.out ad e (hDSM _ hm)
      have HRW := Lib.hid (hRA.below hb)
      have HXN := Lib.hid hXn
      have HDSM := Lib.hid hDSM
      have HB0 := Lib.hid B0
      clear hDSM hXn B0 mA bX hRA hb BA hk0 hlt
      obtain ⟨W9, hW9⟩ : ∃ W9, W9 = wr := ⟨_, rfl⟩
      subst hW9
      go_wp2_with fail
      go_loopw [7, 8, 33] (fun _ _ q W => ∃ k : Nat, k ≤ keep.length ∧ q = .int .i64 k ∧ DevMem W D S c M (.slice Ac x.cache.length cc) { x with stable := stApply x.stable (keptW x (keep.take k)) } ∧ KeepEx W9.heap.size [D, S, M] W9 W ∧ Blk W w.heap.size 45 #[.pointer (some ⟨D, 0, none⟩)]) (fun _ _ q _ => keep.length - (RowKit.intOf q).toNat)
      case atStart => exact ⟨0, by omega, rfl, m0, KeepEx.refl _ _ _, bX0⟩
      case round =>
        obtain ⟨k, hk, rfl, mk, hx, bXk⟩ := hrel
        clear m0 bX0
        by_cases hlt2 : k < keep.length
        · have hi : keep[k] < x.cache.length := HKP.out _ (List.getElem_mem hlt2)
          have hA' := hA (by omega)
          subst hA'
          have hstep := keptW_step (st := x.stable) hlt2 hi
          obtain ⟨b, off, rfl, hb0, hc0⟩ := (reads_keepEx HRW.out hx HAD.out).at_ (k := k) (by rw [natsV_length]; exact hlt2)
          unfold natsV at hc0
          rw [List.getElem_map] at hc0
          obtain ⟨iN, hiN⟩ : ∃ iN, keep[k] = iN := ⟨_, rfl⟩
          have HI := Lib.hid hiN
          simp only [hiN] at hi hc0 hstep
          obtain ⟨h0, h1, h2, h3⟩ := ok.cac _ (List.getElem_mem hi)
          have bDk := mk.dev
          unfold devC at bDk
          have cDk := bDk.cells
          have lDk := bDk.lt
          have cXk := bXk.cells
          have lXk := bXk.lt
          obtain ⟨p, hp⟩ : ∃ p, x.cache[iN] = p := ⟨_, rfl⟩
          rw [hp] at h0 h1 h2 h3 hstep
          have hEl : CellsAt wr ⟨g, iN * 129, none⟩ (dwV p) := ⟨rfl, fun j u hu => own_cell mk.cac (by
            have hj : j < 129 := by have := (List.getElem?_eq_some_iff.1 hu).1; rw [dwV_length, h2] at this; exact this
            show (x.cache.flatMap dwV)[iN * 129 + j]? = some u
            rw [flat_get (fun q hq => by rw [dwV_length, (ok.cac q hq).2.2.1]) hj hi, hp]; exact hu)⟩
          have hpl : (dwV p).length = 129 := by rw [dwV_length, h2]
          have hld := run_loadAt_row (P := Tryz.prog) hEl (aggDvW wr) (by rw [hpl]; exact sizeDvW wr)
          have bW0 : Blk (wr.alloc (.cells (dwV (0, zsec)).toArray 111)) wr.heap.size 111 (dwV (0, zsec)).toArray := Blk.new _ _ _
          have hpz : (dwV (0, zsec)).toArray.size = 129 := by simp [dwV_length, zsec_length]
          have hst := run_storeAt_row (P := Tryz.prog) (ty := 111) bW0 (o := 0) (vs := dwV p) (by rw [hpz, hpl]; omega) (dwV_one p) (by rw [hpl]; exact sizeDvW _)
          generalize dwV (0, zsec) = z0 at *
          have hiL : (iN : Int) < x.cache.length := by omega
          go_wp2_with (first
            | (refine wpList_loadBy rfl _ _ rfl (.agg (dwV p).toArray) (.pointer (some ⟨g, iN * 129, none⟩)) rfl hld ?_)
            | (refine wpList_storeBy rfl _ _ _ rfl _ _ rfl rfl hst ?_))
          have hz0 : z0.drop 129 = [] := List.drop_eq_nil_of_le (by simpa using Nat.le_of_eq hpz)
          rw [hz0, List.append_nil]
          obtain ⟨W2, hW2⟩ : ∃ W2, W2 = (wr.alloc (.cells z0.toArray 111)).setRow wr.heap.size (dwV p).toArray := ⟨_, rfl⟩
          rw [← hW2]
          have bW : Blk W2 wr.heap.size 111 (dwV p).toArray := by rw [hW2]; exact bW0.setRow
          have B2 : Below wr.heap.size wr W2 := by rw [hW2]; exact Below.setRow ((Below.refl _ _).alloc (Nat.le_refl _) _) (Nat.le_refl _) _
          clear hW2 hst hld hEl hz0 bW0 hpz hz hc0 cDk lDk cXk lXk
          have m2 : DevMem W2 D S c M (.slice (some ⟨g, 0, none⟩) x.cache.length cc) { x with stable := stApply x.stable (keptW x (keep.take k)) } :=
            ⟨bDk.belowAll B2, own_below mk.sta B2, own_below mk.cac B2, map_block mk.map (B2.block M mk.map.lt)⟩
          have bX2 := bXk.belowAll B2
          have bD2 := m2.dev
          simp only [devC, stApply_length] at bD2
          have cD2 := bD2.cells
          have cX2 := bX2.cells
          have lX2 := bX2.lt
          have cW := bW.cells
          have lW := bW.lt
          have lD2 := bD2.lt
          have cW0 : W2.cell? ⟨wr.heap.size, 0, none⟩ = some (.int .i64 p.1) := by rw [cW]; rfl
          have hpl2 : (secV p.2).length = 128 := by rw [secV_length, h2]
          have hld2 := run_loadAt_row (P := Tryz.prog) (w := W2.drew) (ty := 42) (p := ⟨wr.heap.size, 1, none⟩) (vs := secV p.2) (bW.drew.at_ 1 _ (fun j u hu => by rw [Nat.add_comm]; simpa [dwV] using hu)) (aggSec _) (by rw [hpl2]; exact sizeSec _)
          obtain ⟨pn, hpn⟩ := Int.eq_ofNat_of_zero_le h0
          rw [hpn] at h1 cW0
          clear cW bDk
          refine wp_region_still_tail 10 (by kernel_rfl) (by kernel_rfl) ?_
          simp only [List.take_succ_cons, List.take_zero, List.drop_succ_cons, List.drop_zero]
          change wpStill _ _ W2.drew _ _ _
          repeat (first | (refine wpStill_load rfl _ _ rfl (.agg (secV p.2).toArray) (.pointer (some ⟨wr.heap.size, 1, none⟩)) rfl hld2 ?_) | still_step)
          refine wpStill_nil ?_
          change wpList _ _ _ _ _ W2.drew
          obtain ⟨cur, bS, hfit, own'⟩ := own_setRow m2.sta (pn * 128) (secV p.2) (by simp only [stApply_length]; rw [hpl2]; omega)
          have hst2 := run_storeAt_row (P := Tryz.prog) (w := W2.drew) (ty := 42) bS hfit (secV_one p.2) (by rw [hpl2]; exact sizeSec _)
          obtain ⟨W3, hW3⟩ : ∃ W3, W3 = W2.drew.setRow S (cur.toList.take (pn * 128) ++ secV p.2 ++ cur.toList.drop (pn * 128 + (secV p.2).length)).toArray := ⟨_, rfl⟩
          rw [← hW3] at hst2
          have hx3 : KeepEx W9.heap.size [D, S, M] W9 W3 := (hx.trans (KeepEx.of_below (B2.mono hx.size))).trans (by rw [hW3]; exact (KeepEx.of_below (Below.refl _ _).drew).trans (KeepEx.setRow _ (.inl (by simp)) _))
          have hXS : w.heap.size ≠ S := fun e => HXN.out (by simp [e])
          have bX3 : Blk W3 w.heap.size 45 #[.pointer (some ⟨D, 0, none⟩)] := by rw [hW3]; exact bX2.drew.rowFar hXS
          have m3 : DevMem W3 D S c M (.slice (some ⟨g, 0, none⟩) x.cache.length cc) { x with stable := stApply x.stable (keptW x (keep.take (k + 1))) } := by
            rw [hW3]
            refine ⟨?_, ?_, ?_, ?_⟩
            · have := bD2.drew.rowFar (cs' := (cur.toList.take (pn * 128) ++ secV p.2 ++ cur.toList.drop (pn * 128 + (secV p.2).length)).toArray) n1
              simp only [devC, stApply_length]
              exact this
            · rw [hstep, flat_set (f := secV) (m := 128) (fun s hs => by rw [secV_length]; exact (keptW_sec ok HKP.out k s hs).1) hpl2 (by rw [stApply_length]; omega), hpn]
              simp only [List.length_set, stApply_length] at own' ⊢
              exact own'
            · exact own_block m2.cac fun j e => setRow_other _ _ _ _ (fun e' => by subst e'; exact n6 e)
            · exact map_block m2.map (setRow_other _ _ _ _ (fun e' => n3 e'.symm))
          clear hW3 own' bS hfit hstep hpn cD2 cX2 cW0
          go_wp2_with (refine wpList_storeBy rfl _ _ _ rfl _ _ rfl rfl hst2 ?_)
          go_roundw
          case rel => exact ⟨k + 1, by omega, by go_num, m3, hx3, bX3⟩
          case measure => simp [RowKit.intOf]; omega
        · obtain rfl : k = keep.length := by omega
          rw [List.take_length] at mk
          have cXk := bXk.cells
          have lXk := bXk.lt
          go_wp2_with fail
          refine (empty_any D S c M _ _ wr mk).mono ?_
          rintro e w1 ⟨⟨v, rfl⟩, m1, hx1⟩
          have bX1 : Blk w1 w.heap.size 45 #[.pointer (some ⟨D, 0, none⟩)] := hx1.blk bXk lXk (fun hm => HXN.out (by simp only [List.mem_cons, List.mem_nil_iff, or_false] at hm ⊢; rcases hm with h | h <;> simp [h]))
          have hxA : KeepEx W9.heap.size [D, S, M] W9 w1 := hx.trans ⟨hx1.os, hx1.tape, hx1.output, hx1.size, fun b hb hn => hx1.block b (by have := hx.size; omega) (by simp at hn ⊢; omega)⟩
          have kx : KeepEx w.heap.size B w w1 := (KeepEx.of_below HB0.out).trans ⟨hxA.os, hxA.tape, hxA.output, hxA.size, fun b hb hn => hxA.block b (Nat.lt_of_lt_of_le hb HB0.out.size) (fun hm => hn (HDSM.out b hm))⟩
          have g1 : Grow w B w1 B := ⟨kx, fun b hb => .inl hb⟩
          have h0 : 0 ∉ B := fun hm => by have := (HLT.out 0 hm).1; omega
          obtain ⟨hD, hS, hM, -⟩ := HB.out
          have oky : ({ x with stable := stApply x.stable (keptW x keep), cache := [] } : DevS).Ok :=
            ⟨by show 64 ≤ (stApply _ _).length; rw [stApply_length]; exact ok.lo, by show (stApply _ _).length ≤ 256; rw [stApply_length]; exact ok.hi, fun s hs => keptW_sec ok HKP.out keep.length s (by rw [List.take_length]; exact hs), fun p hp => (by cases hp), by show 0 ≤ 400; omega, ok.tk, ok.pw⟩
          have d1 : DevAt w1 D B { x with stable := stApply x.stable (keptW x keep), cache := [] } :=
            ⟨oky, g1.half HH.out h0, ⟨S, c, M, _, m1, hD, hS, hM, fun g e => by simp [Value.ownBlock] at e⟩, fun b hb => ⟨(HLT.out b hb).1, Nat.lt_of_lt_of_le (HLT.out b hb).2 g1.keep.size⟩⟩
          have d2 := (d1.below (Below.refl w1.heap.size w1).drew).limit (n := -1) (by omega)
          have d3 := d2.off_ false
          have gF : Grow w B ((w1.drew.setCell ⟨D, 3, none⟩ (.int .i64 (-1))).setCell ⟨D, 4, none⟩ (.bool false)) B :=
            (g1.trans (Grow.of_below (Below.refl w1.heap.size w1).drew B)).trans ⟨(KeepEx.setCell _ (.inl hD) _).trans (KeepEx.setCell _ (.inl hD) _), fun b hb => .inl hb⟩
          have bD1 := m1.dev
          unfold devC at bD1
          have c3 : w1.cell? ⟨D, 3, none⟩ = some (.int .i64 x.power) := (bD1.cells 3).trans rfl
          have c4 : w1.cell? ⟨D, 4, none⟩ = some (.bool x.off) := (bD1.cells 4).trans rfl
          have lD := bD1.lt
          have fD := bD1.free
          have cB : w1.cell? ⟨w.heap.size, 0, none⟩ = some (.pointer (some ⟨D, 0, none⟩)) := (bX1.cells 0).trans rfl
          have nXD : w.heap.size ≠ D := fun e => HXN.out (by simp [e])
          have HF := Lib.hid (And.intro d3 gF)
          clear d1 d2 d3 gF bD1 m1 hx1 hxA kx g1 mk hx bXk cXk lXk hD hS hM oky n1 n2 n3 n4 n5 n6
          go_upto_region 17 with fail
          refine wp_region_mix [.take 0, .take 1, .take 2, .take 3, .take 4, .one 5, .take 6, .take 7, .take 8, .one 9] 10 (fun W => W.cell? ⟨w.heap.size, 0, none⟩ = some (.pointer (some ⟨D, 0, none⟩))) (by kernel_rfl) (by kernel_rfl) (fun _ _ _ _ _ h => h) cB ?_
          simp only [List.map_cons, List.map_nil, Ms.fill, List.getD_cons_zero, List.getD_cons_succ]
          iterate 5 (refine mixT_take (by rfl) ?_ (fun w' hw' => ?_) ?_; rotate_left; (focus (go_simp; (try with_reducible rfl))); (try simp only [Act.put, List.setIfInBounds_toArray, List.set_cons_zero, List.set_cons_succ]))
          refine mixT_step (by rfl) fun K hK => ?_
          go_simp
          refine hK _ _ (fun _ => ((Blk.far bX1 (p := ⟨D, 3, none⟩) nXD (.int .i64 (-1))).cells 0).trans rfl) ?_
          clear hK K
          iterate 3 (refine mixT_take (by rfl) ?_ (fun w' hw' => ?_) ?_; rotate_left; (focus (go_simp; (try with_reducible rfl))); (try simp only [Act.put, List.setIfInBounds_toArray, List.set_cons_zero, List.set_cons_succ]))
          refine mixT_step (by rfl) fun K hK => ?_
          go_simp
          refine hK _ _ (fun _ => ((Blk.far (Blk.far bX1 (p := ⟨D, 3, none⟩) nXD (.int .i64 (-1))) (p := ⟨D, 4, none⟩) nXD (.bool false)).cells 0).trans rfl) ?_
          clear hK K
          refine mixT_nil ?_
          go_wp2_with fail
          go_ret
          exact ⟨rfl, B, HF.out.1, HF.out.2⟩
end Go.Proofs.YtloddiipepiocaaGreatDoor
/- P10.9: small functions of the law: Journal, kept. -/
namespace Go.Proofs.YtloddiipepiocaaGreatDoor
open Go.RowKit Go.Maps

set_option maxRecDepth 100000 in
set_option maxHeartbeats 1000000 in
theorem rjournal_any (s j i : Int) (w : World) :
    Calls Tryz.prog 35 #[.agg #[.int .i64 s, .int .i64 j, .int .i64 i]] w fun e w' => e = .returned (.agg #[.int .i64 (rgJ s j i), .int .i64 j]) ∧ Below w.heap.size w w' := by
  obtain ⟨w0, hw0⟩ : ∃ w0, w0 = (w.alloc (.cells #[.int .i64 s, .int .i64 j, .int .i64 i] 23)).alloc (.cells #[.int .i64 0, .int .i64 0] 101) := ⟨_, rfl⟩
  have bL : Blk w0 w.heap.size 23 #[.int .i64 s, .int .i64 j, .int .i64 i] := by rw [hw0]; exact (Blk.new _ _ _).alloc _
  have bR : Blk w0 (w.heap.size + 1) 101 #[.int .i64 0, .int .i64 0] := by rw [hw0]; exact Blk.new' (by simp)
  have B0 : Below w.heap.size w w0 := by rw [hw0]; (repeat' (first | (with_reducible exact Below.refl _ _) | (with_reducible assumption) | (with_reducible refine Below.alloc ?_ ?_ _) | (with_reducible refine Below.drew ?_) | (with_reducible refine below_drewN' ?_ _) | (with_reducible refine Below.setCell ?_ ?_ _) | (with_reducible exact Nat.le_refl _) | omega | (simp; done) | (simp; omega)))
  go_enter Tryz.func35, Tryz.ntmps35
  go_upto_region 1 with fail
  rw [← hw0]
  clear hw0
  have cL := bL.cells
  have lL := bL.lt
  go_wp2_with fail
  refine (regionsR_any s j i w0).mono ?_
  rintro e w1 ⟨rfl, hb1⟩
  have bL1 := bL.belowAll hb1
  have bR1 := bR.belowAll hb1
  have B1 := B0.trans (hb1.mono B0.size)
  obtain ⟨a2, a3, a4, a5, hv⟩ : ∃ a2 a3 a4 a5 : Int, rgV s j i = .agg #[.int .i64 (rgJ s j i), .int .i64 a2, .int .i64 a3, .int .i64 a4, .int .i64 a5] := ⟨_, _, _, _, rfl⟩
  rw [hv]
  obtain ⟨J, hJ⟩ : ∃ J, rgJ s j i = J := ⟨_, rfl⟩
  have HJ := Lib.hid hJ
  rw [hJ]
  clear hJ
  clear hv cL lL bL bR B0 hb1
  have cL := bL1.cells
  have lL := bL1.lt
  have cR := bR1.cells
  have fR := bR1.free
  have lR := bR1.lt
  go_wp2_with fail
  refine bodyPost_ret (v := .agg #[.int .i64 J, .int .i64 j]) (by simp [results, Tryz.results35, go_sem, cR, lR]) rfl ?_
  exact ⟨by rw [HJ.out], by (repeat' (first | (with_reducible exact Below.refl _ _) | (with_reducible assumption) | (with_reducible refine Below.alloc ?_ ?_ _) | (with_reducible refine Below.drew ?_) | (with_reducible refine below_drewN' ?_ _) | (with_reducible refine Below.setCell ?_ ?_ _) | (with_reducible exact Nat.le_refl _) | omega | (simp; done) | (simp; omega)))⟩

theorem natsV_snoc (l : List Nat) (k : Nat) : natsV (l ++ [k]) = natsV l ++ [.int .i64 (k : Int)] := by unfold natsV; rw [List.map_append]; rfl
theorem reads_nat1 (w : World) (a : Int) : Reads (w.alloc (.cells #[.int .i64 a] 3)) (some ⟨w.heap.size, 0, none⟩) [.int .i64 a] := by
  have := Blk.new w 3 #[.int .i64 a]
  exact .inr ⟨_, 0, rfl, this.lt, fun k u hu => by rw [Nat.zero_add]; exact (this.cells k).trans (by simpa using hu)⟩

set_option maxRecDepth 100000 in
set_option maxHeartbeats 2000000 in
theorem kept10_any (n : Nat) (hn : n ≤ 1000) (b : Int) (hb : 0 ≤ b ∧ b < 18446744073709551616) (w : World) :
    Calls Tryz.prog 32 #[.int .i64 n, .int .u64 b] w fun e w' => ∃ (A : Option Addr) (c : Nat) (keep : List Nat), e = .returned (.slice A keep.length c) ∧ Reads w' A (natsV keep) ∧ (∀ ad, A = some ad → w.heap.size ≤ ad.block) ∧ (∀ i ∈ keep, i < n) ∧ keep.Pairwise (· < ·) ∧ keep.length ≤ n ∧ Below w.heap.size w w' := by
  obtain ⟨i0, hi, hz0, hz1, hz2⟩ := info_parts Tryz.info3
  go_enter Tryz.func32, Tryz.ntmps32
  go_wp2_with fail
  go_loopw [5, 6] (fun v q wr => ∃ (k : Nat) (keep : List Nat), k ≤ n ∧ q = .int .i64 k ∧ (∀ i ∈ keep, i < k) ∧ keep.Pairwise (· < ·) ∧ keep.length ≤ k ∧ wr.ownsRow w.heap.size 3 1 v keep.length (natsV keep) ∧ Below w.heap.size w wr) (fun _ q _ => n - (RowKit.intOf q).toNat)
  case atStart => exact ⟨0, [], Nat.zero_le _, rfl, fun _ h => (by cases h), List.Pairwise.nil, Nat.le_refl _, World.ownsRow_nil _ _ _ _, Below.refl _ _⟩
  case round =>
    obtain ⟨k, keep, hk, rfl, h1, h2, h3, hown, hB⟩ := hrel
    obtain ⟨fa, fc, rfl⟩ := own_slice hown
    by_cases hlt : k < n
    · have d1 : (k : Int) < n := by omega
      have HO := Lib.hid hown
      have H1 := Lib.hid h1
      have H2 := Lib.hid h2
      have g1 : (k : Int).tmod 64 = k % 64 := Int.tmod_eq_emod_of_nonneg (by omega)
      have g2 : 0 ≤ (k : Int) % 64 ∧ (k : Int) % 64 < 64 := by omega
      clear hown h1 h2
      go_upto_region 5 with fail
      go_cut [18] from 12 to 17 (fun s18 wx => ∃ bb : Bool, s18 = .bool bb ∧ wx = wr)
      case first =>
        as_aux_lemma =>
          generalize (k : Int) % 64 = r at *
          go_wp2_with fail
          go_meet
          case rel => exact ⟨_, rfl, rfl⟩
      case rest =>
        obtain ⟨bb, rfl, hwx⟩ := hcut
        replace hwx := hwx.symm
        subst hwx
        clear g1 g2
        cases bb
        · go_wp2_with fail
          go_roundw
          case rel => exact ⟨k + 1, keep, by omega, by go_num, fun i hi => Nat.lt_succ_of_lt (H1.out i hi), H2.out, by omega, HO.out, hB⟩
          case measure => simp [RowKit.intOf]; omega
        · obtain ⟨X, hX⟩ : ∃ X, X = wr.alloc (.cells #[.int .i64 (k : Int)] 3) := ⟨_, rfl⟩
          have bX : Below wr.heap.size wr X := by rw [hX]; exact (Below.refl _ _).alloc (Nat.le_refl _) _
          have rX : Reads X (some ⟨wr.heap.size, 0, none⟩) [.int .i64 (k : Int)] := by rw [hX]; exact reads_nat1 _ _
          have HX := Lib.hid hX
          have hoX := own_below HO.out bX
          have hBX := hB.trans (bX.mono hB.size)
          have hbs : w.heap.size ≤ X.heap.size := hBX.size
          have e2 : IntKind.i64.wrap (k : Int) = k := by rw [IntKind.wrap_i64]; omega
          clear hX hB bX HO
          go_wp2_with (at_builtin; rw [← HX.out]; refine wpList_append_any _ rfl (.tmp 19) (.tmp 21) _ rfl w.heap.size 3 i0 (.int .i64 0) 8 Tryz.underlying71 hi hz0 hz1 hz2 rfl (.slice fa keep.length fc) _ _ rfl hoX (some ⟨wr.heap.size, 0, none⟩) 1 1 [.int .i64 (k : Int)] rfl rfl (fun h => by cases h) rX (by simp [Value.oneCell']) (by simp only [maxLen]; omega) (by omega) hbs ?_; intro v' w4 hown hgrow hat; have hB4 := hBX.grown hgrow hbs (fun q hq => (own_lt hoX q hq).1))
          go_roundw
          case rel => exact ⟨k + 1, keep ++ [k], by omega, by go_num, fun i hi => by
            rcases List.mem_append.1 hi with hi | hi
            · exact Nat.lt_succ_of_lt (H1.out i hi)
            · have : i = k := by simpa using hi
              omega, List.pairwise_append.2 ⟨H2.out, List.pairwise_singleton _ _, fun a ha b hb => by
              have : b = k := by simpa using hb
              have := H1.out a ha
              omega⟩, by rw [List.length_append]; simp; omega, by rw [List.length_append, natsV_snoc]; exact hown, hB4⟩
          case measure => simp [RowKit.intOf]; omega
    · obtain rfl : k = n := by omega
      have HO := Lib.hid hown
      clear hown
      go_wp2_with fail
      go_ret
      refine ⟨fa, fc, keep, rfl, Reads.of_own HO.out, fun ad e => ?_, h1, h2, h3, hB⟩
      subst e
      exact (own_lt HO.out ad.block rfl).1
end Go.Proofs.YtloddiipepiocaaGreatDoor
