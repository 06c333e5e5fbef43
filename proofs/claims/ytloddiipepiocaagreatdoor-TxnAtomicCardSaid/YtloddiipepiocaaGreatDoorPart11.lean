/- Layer 6: Write. -/
import Derived.Test.YtloddiipepiocaaGreatDoorPart10
import Derived.Test.YtloddiipepiocaaGreatDoorPart06
set_option linter.unusedVariables false
set_option linter.unusedSimpArgs false
namespace Go.Proofs.YtloddiipepiocaaGreatDoor
open Go.RowKit Go.Maps

/-- What Write returns, and the device behind it. -/
def DevS.added (x : DevS) (a : Int) (s : List Int) : DevS := { x with cache := x.cache ++ [(a, s)], taken := x.taken + 1, power := if 0 < x.power then x.power - 1 else x.power }
def DevS.room (x : DevS) : DevS := if x.cache.length = 400 then x.flushed else x
def DevS.write (x : DevS) (a : Int) (s : List Int) : Int × DevS :=
  if x.atE a ≠ 0 then (x.atE a, x)
  else if x.power = 0 ∨ x.taken = 1000000000000 then (13, { x with off := true })
  else (0, x.room.added a s)
theorem DevS.Ok.room {x : DevS} (h : x.Ok) : x.room.Ok ∧ x.room.cache.length < 400 ∧ x.room.stable.length = x.stable.length ∧ x.room.taken = x.taken ∧ x.room.power = x.power ∧ x.room.off = x.off := by
  unfold DevS.room
  split
  · exact ⟨h.flushed, by show 0 < 400; omega, stApply_length _ _, rfl, rfl, rfl⟩
  · have := h.len
    exact ⟨h, by omega, rfl, rfl, rfl, rfl⟩
theorem DevS.Ok.added {x : DevS} (h : x.Ok) {a : Int} {s : List Int} (ha : 0 ≤ a ∧ a < x.stable.length) (hs : s.length = 128 ∧ Bytes s) (hL : x.cache.length < 400) (ht : x.taken < 1000000000000) : (x.added a s).Ok :=
  ⟨h.lo, h.hi, h.sec, fun p hp => by
    rcases List.mem_append.1 hp with hp | hp
    · exact h.cac p hp
    · simp at hp; subst hp; exact ⟨ha.1, ha.2, hs⟩, by show (x.cache ++ _).length ≤ 400; simp; omega, by have := h.tk; show 0 ≤ x.taken + 1 ∧ x.taken + 1 ≤ 1000000000000; omega, by
    have := h.pw
    show -1 ≤ (if 0 < x.power then x.power - 1 else x.power) ∧ (if 0 < x.power then x.power - 1 else x.power) ≤ 1000000000000
    split <;> omega⟩
theorem DevS.Ok.write {x : DevS} (h : x.Ok) (a : Int) {s : List Int} (hs : s.length = 128 ∧ Bytes s) : (x.write a s).2.Ok := by
  unfold DevS.write
  split
  · exact h
  · rename_i hE
    have hE : Go.Proofs.YtloddiipepiocaaGreatDoor.atE x.off x.stable.length a = 0 := Decidable.not_not.1 hE
    split
    · exact ⟨h.lo, h.hi, h.sec, h.cac, h.len, h.tk, h.pw⟩
    · obtain ⟨h1, h2, h3, h4, h5, h6⟩ := h.room
      exact h1.added (by rw [h3]; exact atE_zero hE) hs h2 (by have := h.tk; omega)

theorem newestD_app (c r : List Int) (k : Nat) (hk : k ≤ c.length) : newestD (c ++ r) k = newestD c k := by
  induction k with
  | zero => rfl
  | succ k ih =>
    unfold newestD
    rw [ih (by omega), List.getD_eq_getElem?_getD, List.getElem?_append_left (by omega), List.getD_eq_getElem?_getD]
theorem newestD_added (c : List (Int × List Int)) (a : Int) (s : List Int) : newestD (atsOf (c ++ [(a, s)])) (c.length + 1) = (newestD (atsOf c) c.length).put (.int .i64 a) (.lit (.int .i64 c.length)) := by
  have e : atsOf (c ++ [(a, s)]) = atsOf c ++ [a] := by unfold atsOf; simp
  rw [e]
  unfold newestD
  rw [newestD_app _ _ _ (by rw [atsOf_length]; exact Nat.le_refl _)]
  have : (atsOf c ++ [a]).getD c.length 0 = a := by
    rw [List.getD_eq_getElem?_getD, List.getElem?_append_right (by rw [atsOf_length]; exact Nat.le_refl _), atsOf_length]
    simp
  rw [this]
  cases c.length <;> rfl

theorem Tryz.infoDvW3 : (Tryz.prog.info? 111).map (fun i => (i.zero, i.size, i.bytes)) = some (some (.agg (#[.int .i64 0] ++ fill (.int .u8 0) 128)), 129, 136) := by kernel_rfl

theorem write_w2 {V : World} {D : Nat} {t : TypeId} {v0 v1 v2 v3 v4 v5 : Value} (b : Blk V D t #[v0, v1, v2, v3, v4, v5]) (u1 u2 : Value) :
    KeepEx V.heap.size [D] V ((V.setCell ⟨D, 1, none⟩ u1).setCell ⟨D, 2, none⟩ u2) ∧ Blk ((V.setCell ⟨D, 1, none⟩ u1).setCell ⟨D, 2, none⟩ u2) D t #[v0, u1, u2, v3, v4, v5] :=
  ⟨(KeepEx.setCell V (.inl (by simp)) u1).trans (KeepEx.setCell _ (.inl (by simp)) u2), (b.set_ 1 u1).set_ 2 u2⟩
theorem write_w3 {V : World} {D : Nat} {t : TypeId} {v0 v1 v2 v3 v4 v5 : Value} (b : Blk V D t #[v0, v1, v2, v3, v4, v5]) (u1 u2 u3 : Value) :
    KeepEx V.heap.size [D] V (((V.setCell ⟨D, 1, none⟩ u1).setCell ⟨D, 2, none⟩ u2).setCell ⟨D, 3, none⟩ u3) ∧ Blk (((V.setCell ⟨D, 1, none⟩ u1).setCell ⟨D, 2, none⟩ u2).setCell ⟨D, 3, none⟩ u3) D t #[v0, u1, u2, u3, v4, v5] :=
  ⟨(write_w2 b u1 u2).1.trans (KeepEx.setCell _ (.inl (by simp)) u3), (write_w2 b u1 u2).2.set_ 3 u3⟩

/-- What the last steps of Write leave is a device again. -/
theorem write_end {D S c M g2 cap2 : Nat} {F : List Nat} {y : DevS} {a : Int} {s : List Int} {w V V1 V2 : World} (W : World) (cv1 : Value) (tmp : Obj) (okA : (y.added a s).Ok) (mV : DevMem V D S c M cv1 y) (hD : D ∈ F) (hS : S ∈ F) (hM : M ∈ F)
    (hCV : ∀ g, cv1.ownBlock = some g → g ∈ F) (hLt : ∀ b ∈ F, 0 < b ∧ b < V.heap.size) (hHV : HalfAt V) (gWV : Grow w F V F)
    (hM1 : V1.ownsMap Tryz.prog 3 (plainElem Tryz.prog 3) M (y.cache.length + 1) ((newestD (atsOf y.cache) y.cache.length).put (.int .i64 a) (.lit (.int .i64 y.cache.length))))
    (hg1 : V.drew.grownBy V1 (some M)) (hg2 : (V1.drew.alloc tmp).grownBy V2 cv1.ownBlock)
    (hown2 : V2.ownsRow 0 111 129 (.slice (some ⟨g2, 0, none⟩) (y.cache.length + 1) cap2) (y.cache.length + 1) (y.cache.flatMap dwV ++ dwV (a, s)))
    (hat2 : (Value.slice (some ⟨g2, 0, none⟩) (y.cache.length + 1) cap2).ownBlock = cv1.ownBlock ∨ (Value.slice (some ⟨g2, 0, none⟩) (y.cache.length + 1) cap2).ownBlock = some (V1.drew.alloc tmp).heap.size)
    (hW : KeepEx V2.heap.size [D] V2 W) (bD : Blk W D 115 (devC S y.stable.length c (.slice (some ⟨g2, 0, none⟩) (y.cache.length + 1) cap2) (y.taken + 1) (if 0 < y.power then y.power - 1 else y.power) y.off M)) :
    ∃ F', DevAt W D F' (y.added a s) ∧ Grow w F W F' := by
  obtain ⟨n1, n2, n3, n4, n5, n6⟩ := mV.ne
  have z0 := gWV.keep.size
  have z1 : V.heap.size ≤ V1.heap.size := hg1.size
  have z2 : V1.heap.size + 1 ≤ V2.heap.size := by have := hg2.size; simpa using this
  have z3 := hW.size
  have hg2l : g2 < V2.heap.size := (hown2.lt g2 rfl).2
  have hgF : g2 ∈ F ∨ V.heap.size ≤ g2 := by
    rcases hat2 with e | e
    · exact .inl (hCV g2 e.symm)
    · right
      simp only [Value.ownBlock, Option.some.injEq, World.size_alloc] at e
      have : V1.drew.heap.size = V1.heap.size := rfl
      omega
  have hgD : g2 ≠ D := by
    rintro rfl
    rcases hat2 with e | e
    · exact n4 e.symm
    · simp only [Value.ownBlock, Option.some.injEq, World.size_alloc] at e
      have : V1.drew.heap.size = V1.heap.size := rfl
      have := (hLt _ hD).2
      omega
  have key : ∀ k, k < V.heap.size → k ≠ D → k ≠ M → cv1.ownBlock ≠ some k → W.heap[k]? = V.heap[k]? := fun k hk h1 h2 h3 => by
    rw [hW.block k (by omega) (by simpa using h1), hg2.block k (by simp; have : V1.drew.heap.size = V1.heap.size := rfl; omega) (fun e => h3 e.symm), Below.heap_alloc V1.drew _ k (by show k < V1.heap.size; omega)]
    exact hg1.block k hk (by simpa using h2)
  have keepV : KeepEx V.heap.size F V W := ⟨hW.os.trans (hg2.os.trans hg1.os), hW.tape.trans (hg2.tape.trans hg1.tape), hW.output.trans (hg2.output.trans hg1.output), by omega, fun k hk hn => key k hk (fun e => hn (e ▸ hD)) (fun e => hn (e ▸ hM)) (fun e => hn (hCV k e))⟩
  have g2w : Grow V F W (g2 :: F) := ⟨keepV, fun b hb => by
    rcases List.mem_cons.1 hb with rfl | hb
    · exact hgF
    · exact .inl hb⟩
  refine ⟨g2 :: F, ⟨okA, g2w.half hHV (fun hm => by have := (hLt 0 hm).1; omega), ⟨S, c, M, .slice (some ⟨g2, 0, none⟩) (y.cache.length + 1) cap2, ⟨?_, ?_, ?_, ?_⟩, List.mem_cons_of_mem _ hD, List.mem_cons_of_mem _ hS, List.mem_cons_of_mem _ hM, fun g e => ?_⟩, fun b hb => ?_⟩, gWV.trans g2w⟩
  · exact bD
  · exact own_block mV.sta fun g e => by
      cases e
      exact key S (hLt S hS).2 (fun e => n1 e.symm) n3 n6
  · have hl : (y.added a s).cache.length = y.cache.length + 1 := by show (y.cache ++ [(a, s)]).length = _; simp
    rw [hl, show (y.added a s).cache.flatMap dwV = y.cache.flatMap dwV ++ dwV (a, s) by show (y.cache ++ [(a, s)]).flatMap dwV = _; simp]
    exact own_block hown2 fun g e => by
      cases e
      exact hW.block g2 hg2l (by simpa using hgD)
  · have hl : (y.added a s).cache.length = y.cache.length + 1 := by show (y.cache ++ [(a, s)]).length = _; simp
    rw [hl]
    show W.ownsMap _ _ _ _ _ (newestD (atsOf (y.cache ++ [(a, s)])) (y.cache.length + 1))
    rw [newestD_added]
    refine map_block hM1 ?_
    have hMl := (hLt M hM).2
    rw [hW.block M (by omega) (by simpa using fun e => n2 e.symm), hg2.block M (by simp; have : V1.drew.heap.size = V1.heap.size := rfl; omega) (fun e => n5 e.symm)]
    exact Below.heap_alloc V1.drew _ M (by show M < V1.heap.size; omega)
  · simp only [Value.ownBlock, Option.some.injEq] at e
    subst e
    simp
  · rcases List.mem_cons.1 hb with rfl | hb
    · refine ⟨?_, by omega⟩
      rcases hgF with h | h
      · exact (hLt _ h).1
      · have := hHV.1; omega
    · exact ⟨(hLt b hb).1, by have := (hLt b hb).2; omega⟩

set_option maxRecDepth 100000 in
set_option maxHeartbeats 1000000 in
theorem write_dev (D : Nat) (F : List Nat) (x : DevS) (a : Int) (s : List Int) (hs : s.length = 128 ∧ Bytes s) (w : World) (h : DevAt w D F x) :
    Calls Tryz.prog 102 #[.pointer (some ⟨D, 0, none⟩), .int .i64 a, .agg (bytesV s)] w fun e w' => e = .returned (.int .i64 (x.write a s).1) ∧ ∃ F', DevAt w' D F' (x.write a s).2 ∧ Grow w F w' F' := by
  have hOk := h.ok.write a hs
  unfold DevS.write at hOk ⊢
  by_cases hE : x.atE a = 0
  rotate_left
  · rw [if_pos hE]
    obtain ⟨ok, hH, ⟨S, c, M, cv, m, hD, hS, hM, hC⟩, lt⟩ := h
    have hat := at_any D S x.stable.length c cv x.taken x.power x.off M a (w.alloc (.cells (bytesV s) 42)) (m.dev.alloc _)
    have h' : DevAt w D F x := ⟨ok, hH, ⟨S, c, M, cv, m, hD, hS, hM, hC⟩, lt⟩
    obtain ⟨E, hEq⟩ : ∃ E, x.atE a = E := ⟨_, rfl⟩
    have hat : Calls Tryz.prog 153 #[.pointer (some ⟨D, 0, none⟩), .int .i64 a] (w.alloc (.cells (bytesV s) 42)) fun e w' => e = .returned (.int .i64 E) ∧ w' = w.alloc (.cells (bytesV s) 42) := by rw [← hEq]; exact hat
    rw [hEq] at hE ⊢
    have hE' : (E != 0) = true := by simpa using hE
    clear m hEq hE
    go_enter Tryz.func102, Tryz.ntmps102
    go_wp2_with fail
    refine hat.mono ?_
    rintro e w1 ⟨rfl, rfl⟩
    go_wp2_with fail
    go_ret
    have hb : Below w.heap.size w (w.alloc (.cells (bytesV s) 42)) := (Below.refl _ _).alloc (Nat.le_refl _) _
    exact ⟨rfl, F, h'.below hb, Grow.of_below hb F⟩
  rw [if_neg (by simpa using hE)] at hOk ⊢
  obtain ⟨ok, hH, ⟨S, c, M, cv, m, hD, hS, hM, hC⟩, lt⟩ := h
  have h0 : 0 ∉ F := fun hm => by have := (lt 0 hm).1; omega
  have ha := atE_zero hE
  have hat := at_any D S x.stable.length c cv x.taken x.power x.off M a (w.alloc (.cells (bytesV s) 42)) (m.dev.alloc _)
  have hat : Calls Tryz.prog 153 #[.pointer (some ⟨D, 0, none⟩), .int .i64 a] (w.alloc (.cells (bytesV s) 42)) fun e w' => e = .returned (.int .i64 0) ∧ w' = w.alloc (.cells (bytesV s) 42) := by
    rw [show Go.Proofs.YtloddiipepiocaaGreatDoor.atE x.off x.stable.length a = 0 from hE] at hat; exact hat
  clear hE
  have hb : Below w.heap.size w (w.alloc (.cells (bytesV s) 42)) := (Below.refl _ _).alloc (Nat.le_refl _) _
  have bX : Blk (w.alloc (.cells (bytesV s) 42)) w.heap.size 42 (bytesV s) := Blk.new _ _ _
  have mA : DevMem (w.alloc (.cells (bytesV s) 42)) D S c M cv x := ⟨m.dev.alloc _, own_below m.sta hb, own_below m.cac hb, m.map.alloc _⟩
  have ltA : ∀ b ∈ F, 0 < b ∧ b < (w.alloc (.cells (bytesV s) 42)).heap.size := fun b hm => ⟨(lt b hm).1, by have := (lt b hm).2; simp; omega⟩
  have hHA := hH.below hb hH.1
  have gA := Grow.of_below hb F
  have nX : w.heap.size ∉ F := fun hm => by have := (lt _ hm).2; omega
  obtain ⟨W, hW⟩ : ∃ W, W = w.alloc (.cells (bytesV s) 42) := ⟨_, rfl⟩
  rw [← hW] at hat hb bX mA ltA hHA gA
  by_cases hp : x.power = 0 ∨ x.taken = 1000000000000
  · rw [if_pos hp] at hOk ⊢
    have hpd : (x.power == 0) = true ∨ (x.power == 0) = false ∧ (x.taken == 1000000000000) = true := by
      by_cases h : x.power = 0
      · exact .inl (by simpa using h)
      · rcases hp with hp | hp
        · exact absurd hp h
        · exact .inr ⟨by simpa using h, by simpa using hp⟩
    have bD1 : Blk (W.setCell ⟨D, 4, none⟩ (.bool true)) D 115 (devC S x.stable.length c cv x.taken x.power true M) := mA.dev.set_ 4 _
    obtain ⟨n1, n2, n3, n4, n5, n6⟩ := mA.ne
    have mB : DevMem (W.setCell ⟨D, 4, none⟩ (.bool true)) D S c M cv { x with off := true } :=
      ⟨bD1, own_block mA.sta fun g e => by cases e; exact Below.heap_setCell _ _ _ _ (fun e => n1 e.symm), own_block mA.cac fun g e => Below.heap_setCell _ _ _ _ (fun e' => by subst e'; exact n4 e), map_block mA.map (Below.heap_setCell _ _ _ _ (fun e => n2 e.symm))⟩
    have gB : Grow W F (W.setCell ⟨D, 4, none⟩ (.bool true)) F := ⟨KeepEx.setCell _ (.inl hD) _, fun b hb => .inl hb⟩
    have bD := mA.dev
    unfold devC at bD
    have cD := bD.cells
    have fD := bD.free
    have lD := bD.lt
    have hfin : DevAt (W.setCell ⟨D, 4, none⟩ (.bool true)) D F { x with off := true } := ⟨hOk, gB.half hHA h0, ⟨S, c, M, cv, mB, hD, hS, hM, hC⟩, fun b hb => by simpa using ltA b hb⟩
    clear mA mB m bD1 hp
    rcases hpd with hp | ⟨hp, hq⟩
    all_goals
      go_enter Tryz.func102, Tryz.ntmps102
      go_wp2_with fail
      rw [← hW]
      clear hW
      refine hat.mono ?_
      rintro e w1 ⟨rfl, rfl⟩
      go_wp2_with fail
      go_ret
      exact ⟨rfl, F, hfin, gA.trans gB⟩
  rw [if_neg hp] at hOk ⊢
  have hp1 : (x.power == 0) = false := by simpa using fun h => hp (.inl h)
  have hp2 : (x.taken == 1000000000000) = false := by simpa using fun h => hp (.inr h)
  have hp3 : x.taken < 1000000000000 := by have := ok.tk; omega
  clear hp m
  obtain ⟨okY, hLy, hnY, htY, hpY, hoY⟩ := ok.room
  have ht1 : 0 ≤ x.room.taken ∧ x.room.taken < 1000000000000 := by have := ok.tk; rw [htY]; omega
  clear hnY htY hpY hoY
  have hL := ok.len
  have hL3 := ok.hi
  obtain ⟨A0, cc0, g0, hcv0, hA0⟩ := cv_form mA
  subst hcv0
  have bD := mA.dev
  unfold devC at bD
  have cD := bD.cells
  have lD := bD.lt
  by_cases hf : x.cache.length = 400
  focus
    have hfd : ((x.cache.length : Int) == 400) = true := by rw [hf]; rfl
    have hr : x.room = x.flushed := if_pos hf
    rw [hr] at okY hLy ht1 hOk ⊢
    have hst := stable_any D S c M _ x ok W mA
    have HB := Lib.hid hb
    have HBX := Lib.hid bX
    go_enter Tryz.func102, Tryz.ntmps102
    go_wp2_with fail
    rw [← hW]
    clear hW hb gA bX
    refine hat.mono ?_
    rintro e w1 ⟨rfl, rfl⟩
    go_wp2_with fail
    refine hst.mono ?_
    rintro e V ⟨⟨v, rfl⟩, mV, hxV⟩
    go_wp2_with fail
    have bXV : Blk V w.heap.size 42 (bytesV s) := (hxV.block _ HBX.out.lt (by simp; exact ⟨fun e => nX (e ▸ hD), fun e => nX (e ▸ hS), fun e => nX (e ▸ hM)⟩)).trans HBX.out
    have gV : Grow w1 F V F := ⟨⟨hxV.os, hxV.tape, hxV.output, hxV.size, fun k hk hn => hxV.block k hk (by simp; exact ⟨fun e => hn (e ▸ hD), fun e => hn (e ▸ hS), fun e => hn (e ▸ hM)⟩)⟩, fun b hb => .inl hb⟩
    have hCV : ∀ g, (Value.slice none 0 0).ownBlock = some g → g ∈ F := fun g e => by cases e
    generalize (Value.slice none 0 0) = cvV at mV hCV
    clear hxV hst mA cD bD hr hfd hat
    generalize hyx : x.flushed = y at *
    have HYX := Lib.hid hyx
    clear hyx
    have gWV : Grow w F V F := (Grow.of_below HB.out F).trans gV
    clear gV HB
  rotate_left
  focus
    have hfd : ((x.cache.length : Int) == 400) = false := by simpa using (by omega : ¬ (x.cache.length : Int) = 400)
    have hr : x.room = x := if_neg hf
    rw [hr] at okY hLy ht1 hOk ⊢
    have HB := Lib.hid hb
    have HBX := Lib.hid bX
    go_enter Tryz.func102, Tryz.ntmps102
    go_wp2_with fail
    rw [← hW]
    clear hW hb gA bX
    refine hat.mono ?_
    rintro e V ⟨rfl, rfl⟩
    go_wp2_with fail
    have mV := mA
    have bXV := HBX.out
    have gV : Grow V F V F := Grow.refl _ _
    have hCV := hC
    generalize (Value.slice A0 x.cache.length cc0) = cvV at mV hCV
    clear mA cD bD hr hfd hat
    have gWV : Grow w F V F := (Grow.of_below HB.out F).trans gV
    clear gV HB
    rename DevS => y
  all_goals
    have hLt : ∀ b ∈ F, 0 < b ∧ b < V.heap.size := fun b hm => ⟨(lt b hm).1, Nat.lt_of_lt_of_le (lt b hm).2 gWV.keep.size⟩
    have hHV := gWV.half hH h0
    have hDlV := (hLt D hD).2
    have hMlV := (hLt M hM).2
    have hSlV := (hLt S hS).2
    obtain ⟨A1, cc1, g1, hcv1, hA1⟩ := cv_form mV
    subst hcv1
    have wa : (Lit.int .i64 a).wf = true := by simp [Lit.wf, IntKind.min, IntKind.max, IntKind.signed, IntKind.bits]; omega
    have wl : (Lit.int .i64 (y.cache.length : Int)).wf = true := by simp [Lit.wf, IntKind.min, IntKind.max, IntKind.signed, IntKind.bits]; omega
    obtain ⟨V1, hrun1, hM1, hg1⟩ := mV.map.drew.update keyInt Tryz.underlying113 (by simp only [maxLen]; omega) (keyOf_int_mk Tryz.underlying3 wa) (plainElem_int Tryz.underlying3 wl)
    have bDV := mV.dev
    have bD1 := bDV.drew.grown hg1 (by simp; exact fun e => mV.ne.2.1 e)
    unfold devC at bDV
    have cDV := bDV.cells
    refine wp_region_still_tail 11 (by kernel_rfl) (by kernel_rfl) ?_
    simp only [List.take_succ_cons, List.take_zero, List.drop_succ_cons, List.drop_zero]
    change wpStill _ _ V.drew _ _ _
    repeat still_step
    refine wpStill_nil ?_
    change wpList _ _ _ _ _ V.drew
    go_wp2_with fail
    clear hrun1 cDV
    have hz1 := hg1.size
    have hDlt1 : D < V1.heap.size := by have : V.drew.heap.size = V.heap.size := rfl; omega
    have bX1 : Blk V1 w.heap.size 42 (bytesV s) := bXV.drew.grown hg1 (by simp; exact fun e => nX (e ▸ hM))
    have sta1 : V1.ownsRow 0 42 128 (.slice (some ⟨S, 0, none⟩) y.stable.length c) y.stable.length (y.stable.flatMap secV) := own_block mV.sta fun g e => by cases e; exact hg1.block S hSlV (by simp; exact fun e => mV.ne.2.2.1 e)
    have cac1 : V1.ownsRow 0 111 129 (.slice A1 y.cache.length cc1) y.cache.length (y.cache.flatMap dwV) := own_block mV.cac fun g e => hg1.block g (hLt g (hCV g e)).2 (by rw [← e]; exact mV.ne.2.2.2.2.1)
    obtain ⟨iD, hiD, hiz, his, hib⟩ := info_parts Tryz.infoDvW3
    have hpl : (dwV (a, s)).length = 129 := by rw [dwV_length, hs.1]
    have hbA : Blk (V1.drew.alloc (.cells (dwV (a, s)).toArray 111)) V1.heap.size 111 (dwV (a, s)).toArray := Blk.new _ _ _
    obtain ⟨v2, V2, hrun2, hown2, hg2, -, hat2⟩ := run_append_own_at (P := Tryz.prog) (V1.drew.alloc (.cells (dwV (a, s)).toArray 111)) 0 31 31 111 iD _ 129 136 Tryz.underlying31 hiD hiz his hib
      (by show (#[Value.int .i64 0] ++ fill (.int .u8 0) 128).size = 129; rw [Array.size_append, fill_size]; rfl) (by omega) _ _ _ (own_below cac1 ((Below.refl _ _).drew.alloc (Nat.le_refl _) _)) ⟨V1.heap.size, 0, none⟩ 1 1 (dwV (a, s)) (by rw [hpl]) (fun j u hu => by rw [addr_add, Nat.zero_add, hbA.cells]; simpa using hu) (dwV_one _) (by simp only [maxLen]; omega) (by omega) (by omega)
    have nD2 : some D ≠ Value.ownBlock (.slice A1 y.cache.length cc1) := fun e => mV.ne.2.2.2.1 e.symm
    have nX2 : some w.heap.size ≠ Value.ownBlock (.slice A1 y.cache.length cc1) := fun e => nX (hCV _ e.symm)
    have bX2 : Blk V2 w.heap.size 42 (bytesV s) := (bX1.drew.alloc _).grown hg2 nX2
    have bD2 := (bD1.drew.alloc (.cells (dwV (a, s)).toArray 111)).grown hg2 nD2
    have bD1c := bD1
    have bD2c := bD2
    unfold devC at bD1c bD2c
    have hS1 : V1.cell? ⟨D, 1, none⟩ = some (.slice A1 y.cache.length cc1) ∧ CellsAt V1 ⟨w.heap.size, 0, none⟩ (secV s) := ⟨by rw [bD1c.cells]; rfl, bX1.at_ 0 _ (fun j u hu => by rw [Nat.zero_add]; simpa [secV, bytesV] using hu)⟩
    have hSA : (V1.drew.alloc (.cells (dwV (a, s)).toArray 111)).cell? ⟨D, 1, none⟩ = some (.slice A1 y.cache.length cc1) ∧ CellsAt (V1.drew.alloc (.cells (dwV (a, s)).toArray 111)) ⟨w.heap.size, 0, none⟩ (secV s) := ⟨by rw [(bD1c.drew.alloc _).cells]; rfl, (bX1.drew.alloc _).at_ 0 _ (fun j u hu => by rw [Nat.zero_add]; simpa [secV, bytesV] using hu)⟩
    have hS2 : V2.cell? ⟨D, 1, none⟩ = some (.slice A1 y.cache.length cc1) ∧ CellsAt V2 ⟨w.heap.size, 0, none⟩ (secV s) := ⟨by rw [bD2c.cells]; rfl, bX2.at_ 0 _ (fun j u hu => by rw [Nat.zero_add]; simpa [secV, bytesV] using hu)⟩
    have cD2 := bD2c.cells
    have fD2 := bD2c.free
    have lD2 := bD2c.lt
    refine wp_region_lastT 9 (fun w' => w'.cell? ⟨D, 1, none⟩ = some (.slice A1 y.cache.length cc1) ∧ CellsAt w' ⟨w.heap.size, 0, none⟩ (secV s)) (by kernel_rfl) (by kernel_rfl) (fun _ _ _ _ _ h => h) hS1 ?_
    simp only [List.take_succ_cons, List.take_zero, List.drop_succ_cons, List.drop_zero]
    repeat (first
      | (refine headS_load rfl 42 _ rfl (.agg (secV s).toArray) (.pointer (some ⟨w.heap.size, 0, none⟩)) rfl (fun w' hw' => run_loadAt_row hw'.2 (aggSec _) (by rw [secV_length, hs.1]; exact sizeSec _)) ?_)
      | (refine headS_build rfl _ _ rfl [(0, .int .i64 a), (1, .agg (secV s).toArray)] rfl (.agg (dwV (a, s)).toArray) (run_buildDvW a s hs.1) ?_)
      | (refine headS_step rfl ?_ (fun w' hw' => ?_) ?_
         rotate_left
         focus
           obtain ⟨hw1, -⟩ := hw'
           go_simp
           (try with_reducible rfl)
         (try simp only [Act.put, List.setIfInBounds_toArray, List.set_cons_zero, List.set_cons_succ])))
    refine headS_nil ?_
    refine tailS_slice rfl 31 1 _ rfl [(0, .agg (dwV (a, s)).toArray)] rfl (.slice (some ⟨V1.heap.size, 0, none⟩) 1 1) (run_sliceDvW (a, s) hs.1 _) (fun _ => hSA) ?_
    refine tailS_append rfl _ _ 31 rfl (.slice A1 y.cache.length cc1) (.slice (some ⟨V1.heap.size, 0, none⟩) 1 1) v2 rfl rfl hrun2 (fun _ => hS2) ?_
    simp only [Act.put, List.setIfInBounds_toArray, List.set_cons_zero, List.set_cons_succ]
    obtain ⟨g2, cap2, rfl, -, hg2l⟩ := own_form hown2 (by omega)
    repeat (
      refine tailS_step fun K hK => ?_
      go_simp
      refine hK _ _ (by first | (intro _; exact hS2) | (intro h; exact absurd rfl h)) ?_
      clear hK K)
    show Exit.then _ _ _ _ _
    have hL1 : y.cache.length < 400 := hLy
    have hwt : IntKind.i64.wrap (y.taken + 1) = y.taken + 1 := by rw [IntKind.wrap_i64]; omega
    have hwp : IntKind.i64.wrap (y.power - 1) = y.power - 1 := by have := okY.pw; rw [IntKind.wrap_i64]; omega
    clear hS1 hSA hS2 hrun2
    have hfin := @write_end D S c M g2 cap2 F y a s w V V1 V2
    have hDl : D < V2.heap.size := by omega
    obtain ⟨pw', hpe, hpc⟩ : ∃ pw', (if 0 < y.power then y.power - 1 else y.power) = pw' ∧ (0 < y.power ∧ y.power - 1 = pw' ∨ ¬ 0 < y.power ∧ y.power = pw') := by
      by_cases h : 0 < y.power
      · exact ⟨_, if_pos h, .inl ⟨h, rfl⟩⟩
      · exact ⟨_, if_neg h, .inr ⟨h, rfl⟩⟩
    rw [hpe] at hfin
    have HF := Lib.hid hfin
    clear hfin hpe
    rcases hpc with ⟨hpw, rfl⟩ | ⟨hpw, rfl⟩
    all_goals
      go_wp2_with fail
      go_ret
      refine ⟨rfl, ?_⟩
      (try rw [HYX.out])
      refine HF.out _ _ _ hOk mV hD hS hM hCV hLt hHV gWV hM1 hg1 hg2 hown2 hat2 ?_ ?_
      · first
          | with_reducible exact (write_w3 bD2c _ _ _).1
          | with_reducible exact (write_w2 bD2c _ _).1
      · unfold devC
        first
          | with_reducible exact (write_w3 bD2c _ _ _).2
          | with_reducible exact (write_w2 bD2c _ _).2

end Go.Proofs.YtloddiipepiocaaGreatDoor
