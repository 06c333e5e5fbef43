/- Parts of the proof, put together by program: IE, IF, IG, IJ, IM, IK. -/
import Derived.Test.YtjocnooekgnedaaGreatDoorPart47
import Derived.Shelf.SlSortCmp.WholeK
import Derived.Shelf.SlSortCmp.NoneTotal
import Derived.Test.YtjocnooekgnedaaGreatDoorPart32
import Derived.Test.YtjocnooekgnedaaGreatDoorPart33
import Derived.Test.YtjocnooekgnedaaGreatDoorPart31
import Derived.Test.YtjocnooekgnedaaGreatDoorPart01
import Derived.Test.YtjocnooekgnedaaGreatDoorPart24
set_option linter.unusedVariables false
set_option linter.unusedSimpArgs false
/- Layer 10: slices.SortFunc of records. -/
namespace Go.Proofs.YtjocnooekgnedaaGreatDoor
open Go.RowKit Go.Maps Go.Shelf Go.Sort

/-! A row of cells written anew by the sort. -/
theorem holds_of_blockV {w : World} {g : Nat} {cur : Array Value} {e : TypeId} {F : Array Value} (hb : w.heap[g]? = some (.cells cur e (0, 0))) (ht : cur.toList.take F.size = F.toList) : Holds id w g 0 F := by
  intro j hj
  refine ⟨?_, by simp [World.frozen?, hb]⟩
  have h1 : (cur.toList.take F.size)[j]? = F.toList[j]? := by rw [ht]
  rw [List.getElem?_take_of_lt hj] at h1
  simp only [World.cell?, hb, Nat.zero_add]
  simp only [Option.isSome_none, Bool.false_eq_true, if_false]
  rw [← Array.getElem?_toList, h1]
  simp [hj]
theorem heap_sortedV {w : World} {g n : Nat} {os : Array Obj} {cur : Array Value} {e : TypeId} {fr : Nat × Nat} (F : Array Value) (hb : w.heap[g]? = some (.cells cur e fr)) :
    (grow (putRow id (Sort.ahead w n) g 0 F) os).heap[g]? = some (.cells (putCells id 0 F cur) e fr) := by
  have hg : g < w.heap.size := (Array.getElem?_eq_some_iff.1 hb).1
  rw [heap_grow_old _ _ (by simpa using hg)]
  simp [putRow, mapBlock, Sort.ahead, Array.getElem?_modify, hb, onCells]
theorem grownBy_sortedV {w : World} {g n : Nat} {os : Array Obj} (F : Array Value) : w.grownBy (grow (putRow id (Sort.ahead w n) g 0 F) os) (some g) := by
  refine ⟨rfl, rfl, rfl, by simp, fun k hk hne => ?_⟩
  rw [heap_grow_old _ _ (by simpa using hk)]
  have : g ≠ k := fun e => hne (by rw [e])
  simp [putRow, mapBlock, Sort.ahead, Array.getElem?_modify, this]
theorem take_putCellsV (cur F : Array Value) (h : F.size ≤ cur.size) : (putCells id 0 F cur).toList.take F.size = F.toList := by
  apply List.ext_getElem?
  intro j
  by_cases hj : j < F.size
  · rw [List.getElem?_take_of_lt hj, Array.getElem?_toList]
    simp [putCells, hj, show j < cur.size by omega]
  · rw [List.getElem?_take_eq_none (by omega), List.getElem?_eq_none (by simpa using hj)]
theorem flat_length {α : Type} {f : α → List Value} {m : Nat} : ∀ {l : List α}, (∀ s ∈ l, (f s).length = m) → (l.flatMap f).length = l.length * m
  | [], _ => by simp
  | x :: t, h => by
    rw [List.flatMap_cons, List.length_append, h x (by simp), flat_length (fun s hs => h s (List.mem_cons_of_mem _ hs)), List.length_cons, Nat.add_mul, Nat.one_mul, Nat.add_comm]
theorem flatB (d : Array BRec) : (flatK encB 3 d).toList = (d.toList.map (·.1)).flatMap recV := by
  apply List.ext_getElem?
  intro t
  have hl : ((d.toList.map (·.1)).flatMap recV).length = d.size * 3 := by rw [flat_length (f := recV) (m := 3) (fun _ _ => rfl)]; simp
  by_cases ht : t < d.size * 3
  · have h1 := get_flatK encB 3 d t ht
    have hq : t / 3 < d.size := by omega
    have hs : t < (flatK encB 3 d).size := by rw [size_flatK]; exact ht
    rw [getElem!_pos _ t hs, getElem!_pos d (t / 3) hq] at h1
    have h2 := flat_get (f := recV) (m := 3) (fun _ _ => rfl) (i := t / 3) (j := t % 3) (by omega) (show t / 3 < (d.toList.map (·.1)).length by simpa using hq)
    rw [show t / 3 * 3 + t % 3 = t by omega] at h2
    rw [h2, Array.getElem?_toList, Array.getElem?_eq_getElem hs, h1]
    have hq2 : t / 3 < (d.toList.map (·.1)).length := by simpa using hq
    have e : recV ((d.toList.map (·.1))[t / 3]'hq2) = encB d[t / 3] := by simp [encB, recV]
    rw [e, List.getElem?_eq_getElem (show t % 3 < (encB d[t / 3]).length by show t % 3 < 3; omega), getElem!_pos]
  · rw [List.getElem?_eq_none (by simpa using ht), List.getElem?_eq_none (by rw [hl]; omega)]

def SortRecs (base g cap : Nat) (xs : List Rec) (w : World) (e : Ending) (w' : World) : Prop :=
  e = .returned (.tuple #[]) ∧ ∃ ys : List Rec, ys.Perm xs ∧ ys.Pairwise (fun a b : Rec => a.at_ ≤ b.at_) ∧ w'.ownsRow base 122 3 (.slice (some ⟨g, 0, none⟩) ys.length cap) ys.length (ys.flatMap recV) ∧ w.grownBy w' (some g)

theorem sort_recs (base g cap : Nat) (xs : List Rec) (hl0 : xs.length ≤ 1000) (hx : ∀ r ∈ xs, 0 ≤ r.at_ ∧ r.at_ ≤ 100000) (w : World) (ho : w.ownsRow base 122 3 (.slice (some ⟨g, 0, none⟩) xs.length cap) xs.length (xs.flatMap recV)) :
    Calls Tryz.prog 57 #[.slice (some ⟨g, 0, none⟩) xs.length cap, .func (.func 58) #[] #[]] w (SortRecs base g cap xs w) := by
  obtain ⟨d, hd⟩ : ∃ d : Array BRec, d.toList.map (·.1) = xs := by
    refine ⟨(xs.attach.map fun r => (⟨r.1, hx r.1 r.2⟩ : BRec)).toArray, ?_⟩
    show List.map (fun x : BRec => x.1) (xs.attach.map fun r => (⟨r.1, hx r.1 r.2⟩ : BRec)) = xs
    rw [List.map_map]
    exact List.attach_map_subtype_val xs
  have hsz : d.size = xs.length := by rw [← hd]; simp
  rcases ho.2 with ⟨h0, _⟩ | ⟨g', cap', cur, hv, hbase, hb, hnc, hcm, hcs, ht⟩
  · simp at h0
  simp only [Value.slice.injEq, Option.some.injEq, Addr.mk.injEq, and_true, true_and] at hv
  obtain ⟨rfl, rfl⟩ := hv
  have hF : (flatK encB 3 d).toList = xs.flatMap recV := by rw [flatB, hd]
  have hFs : (flatK encB 3 d).size = xs.length * 3 := by rw [size_flatK, hsz]
  have hH : HoldsK encB 3 w g 0 d := holds_of_blockV hb (by rw [hFs, hF]; exact ht)
  have eg : ∀ args w, (callFunc 58 args).run Tryz.prog w = .ok (.enter 58 args) w := enters_of Tryz.func58 (by kernel_rfl) rfl
  have hblk : g < w.heap.size := (Array.getElem?_eq_some_iff.1 hb).1
  have hcon := AnyQ.slices_SortFunc Tryz.sortRec 3 isAggRec sizeRec encB (fun _ => rfl) (fun x v hv => by simp [encB] at hv; rcases hv with rfl | rfl | rfl <;> rfl) cfB swoB 58 #[] g 0 cap d w eg (fun _ _ _ _ x y => cmp_rec x y _) hH hblk (by omega)
  rw [hsz] at hcon
  refine Calls.mono hcon ?_
  rintro e w' ⟨rfl, d', n, os, hp, hs, rfl⟩
  rw [← hsz] at hp hs
  obtain ⟨k1, k2, k3⟩ := sort_list hp hs
  rw [hd] at k1
  have hl : (d'.toList.map (·.1)).length = xs.length := k1.length_eq
  have hFs' : (flatK encB 3 d').size = xs.length * 3 := by rw [size_flatK, k3, hsz]
  refine ⟨rfl, d'.toList.map (·.1), k1, k2, ⟨?_, .inr ⟨g, cap, _, by rw [hl], hbase, heap_sortedV _ hb, by rw [hl]; exact hnc, hcm, by simp [putCells, hcs], ?_⟩⟩, grownBy_sortedV _⟩
  · rw [flat_length (f := recV) (m := 3) (fun _ _ => rfl)]
  · rw [hl, ← hFs', take_putCellsV _ _ (by rw [hFs', hcs]; exact Nat.mul_le_mul_right _ hnc), flatB]

end Go.Proofs.YtjocnooekgnedaaGreatDoor
/- Layer 10: Records. -/
namespace Go.Proofs.YtjocnooekgnedaaGreatDoor
open Go.RowKit Go.Maps

theorem sorted_recs {y : TxS} (hc : y.Clean) {zs ys : List Rec} (hz : zs.Perm (y.writes ++ if y.changed then [y.bmap] else [])) (hp : ys.Perm zs) (hs : ys.Pairwise (fun a b : Rec => a.at_ ≤ b.at_)) : ys = y.recs :=
  asc_perm (recs_asc hc) hs ((hp.trans hz).trans (recs_perm hc).symm)
theorem wp_append_run {P : Program} {w w' : World} {o : Oper} {a : Act} {K : Act → World → Prop} {Q : Exit → Act → World → Prop} (s x : Operand) (t : TypeId)
    (ho : o.op = .call { callee := .builtin .append, args := #[s, x], argTypes := #[t, t] }) (v X v' : Value) (hs : a.eval s = v) (hx : a.eval x = X)
    (hrun : (Builtin.append_ #[t, t] o.type #[v, X]).run P w = .ok v' w') (h : K (a.put o.dst v') w') : o.wp P a w K Q := by
  unfold Oper.wp execOp
  simp only [ho, resolve, invoke, builtin, Sem.run_bind, Sem.run_pure, Result.andThen_ok, List.map_toArray, List.map_cons, List.map_nil, hs, hx, hrun]
  exact h

set_option maxRecDepth 100000 in
set_option maxHeartbeats 1000000 in
theorem txrecords_bad (tv : Value) (E : Int) (w : World) (h : StE w tv E) (hE : E ≠ 0) :
    Calls Tryz.prog 27 #[tv] w fun e w' => e = .returned (.tuple #[.slice none 0 0, .int .i64 E]) ∧ Below w.heap.size w w' := by
  have hst := state_any tv E w h
  have hE' : (E != 0) = true := by simpa using hE
  clear h hE
  go_enter Tryz.func27, Tryz.ntmps27
  go_wp2_with fail
  refine hst.mono ?_
  rintro e w1 ⟨rfl, hb1⟩
  go_wp2_with fail
  go_ret2
  exact ⟨rfl, hb1⟩

def RecsPost (y : TxS) (w : World) (e : Ending) (w' : World) : Prop :=
  ∃ v, e = .returned (.tuple #[v, .int .i64 0]) ∧ w'.ownsRow w.heap.size 122 3 v y.recs.length (y.recs.flatMap recV) ∧ Below w.heap.size w w'

/-- What the sort is called with, and what it leaves. -/
theorem sort_any (base : Nat) (v : Value) (zs : List Rec) (hl0 : zs.length ≤ 1000) (hz : ∀ r ∈ zs, 0 ≤ r.at_ ∧ r.at_ ≤ 100000) (w : World) (hbz : base ≤ w.heap.size) (ho : w.ownsRow base 122 3 v zs.length (zs.flatMap recV)) :
    Calls Tryz.prog 57 #[v, .func (.func 58) #[] #[]] w fun e w' => e = .returned (.tuple #[]) ∧ ∃ ys : List Rec, ys.Perm zs ∧ ys.Pairwise (fun a b : Rec => a.at_ ≤ b.at_) ∧ w'.ownsRow base 122 3 v ys.length (ys.flatMap recV) ∧ Below base w w' := by
  rcases Nat.eq_zero_or_pos zs.length with h0 | h0
  · obtain rfl := List.eq_nil_of_length_eq_zero h0
    obtain ⟨A, c, rfl⟩ := own_slice ho
    refine Calls.mono (AnyF.slices_SortFunc_none Tryz.sortRec A c _ w) ?_
    rintro e w' ⟨rfl, rfl⟩
    exact ⟨rfl, [], List.Perm.refl _, List.Pairwise.nil, ho, Below.refl _ _⟩
  · obtain ⟨g, cap, rfl, hg, _⟩ := own_form ho h0
    refine (sort_recs base g cap zs hl0 hz w ho).mono ?_
    rintro e w' ⟨rfl, ys, h1, h2, h3, h4⟩
    refine ⟨rfl, ys, h1, h2, by rw [h1.length_eq] at h3 ⊢; exact h3, (Below.refl base w).grown h4 hbz (fun k e => by cases e; exact hg)⟩

set_option maxRecDepth 100000 in
set_option maxHeartbeats 4000000 in
theorem records_tx (T : Nat) (F : List Nat) (D : Nat) (y : TxS) (w : World) (h : TxAt w T F D y) (hc : y.Clean) (hE : y.stateE = 0) :
    Calls Tryz.prog 27 #[.pointer (some ⟨T, 0, none⟩)] w (RecsPost y w) := by
  have hst := state_any _ _ w h.st
  rw [hE] at hst
  obtain ⟨ok, ⟨M, wv, nv, bT, hT, hM, hMT, ⟨E, hRM, hO⟩, hw, ⟨A, cn, rfl, hRd, hA⟩⟩, lt⟩ := h
  have hbd := rg_bds ok.rg
  have hlen : y.writes.length ≤ 80 := by have := ok.len; unfold TxS.left TxS.most at this; split at this <;> omega
  have hnl : y.now.length ≤ 1000 := by rw [ok.now]; have := (rg_ok ok.rg).2.2.2.2; omega
  have HCK := Lib.hid (ok_ckE ok)
  have hrec : ∀ r ∈ y.writes, 0 ≤ r.at_ ∧ r.at_ ≤ 100000 := fun r hr => by have := ok.recs r hr; omega
  have HREC := Lib.hid hrec
  have hbm : 0 ≤ y.bmap.at_ ∧ y.bmap.at_ ≤ 100000 := by show 0 ≤ 1 + y.j ∧ 1 + y.j ≤ 100000; omega
  have HBM := Lib.hid hbm
  have HNL := Lib.hid hnl
  have HC := Lib.hid hc
  have hSof : ∀ W : World, Below w.heap.size w W → W.cell? ⟨T, 13, none⟩ = some (.int .i64 y.s) ∧ W.cell? ⟨T, 14, none⟩ = some (.int .i64 y.j) ∧ W.cell? ⟨T, 15, none⟩ = some (.int .i64 y.i) ∧ W.cell? ⟨T, 16, none⟩ = some (.slice A y.now.length cn) := fun W hb => ⟨((bT.belowAll hb).cells 13).trans rfl, ((bT.belowAll hb).cells 14).trans rfl, ((bT.belowAll hb).cells 15).trans rfl, ((bT.belowAll hb).cells 16).trans rfl⟩
  have HS := Lib.hid hSof
  clear hSof
  clear hrec hbm hc hw hA lt ok hE hbd hnl
  unfold RecsPost
  go_enter Tryz.func27, Tryz.ntmps27
  go_wp2_with fail
  refine hst.mono ?_
  rintro e w1 ⟨rfl, hb1⟩
  have bT1 := bT.belowAll hb1
  have hO1 := map_block hO (hb1.block M hO.lt)
  have c17 : w1.cell? ⟨T, 17, none⟩ = some (.map (some M)) := (bT1.cells 17).trans rfl
  have lT := bT1.lt
  clear hst hO bT
  go_wp2_with fail
  refine (values_any (some M) w1).mono ?_
  rintro e w2 ⟨rfl, hw2⟩
  have bB : Blk w2 w1.heap.size 59 #[.map (some M)] := by rw [hw2]; exact Blk.new _ _ _
  have B2 : Below w1.heap.size w1 w2 := by rw [hw2]; exact (Below.refl _ _).alloc (Nat.le_refl _) _
  have hO2 := map_block hO1 (B2.block M hO1.lt)
  clear hw2 c17 lT
  go_wp2_with fail
  refine (collect_recs w1.heap.size M y.writes (by omega) E hRM w2 bB hO2).mono ?_
  rintro e w3 ⟨v, xs, rfl, hp, ho, -, hb3⟩
  have B13 : Below w1.heap.size w1 w3 := B2.trans (hb3.mono B2.size)
  have B3 : Below w.heap.size w w3 := hb1.trans (B13.mono hb1.size)
  have z3 : w.heap.size ≤ w2.heap.size := Nat.le_trans hb1.size B2.size
  have ho3 := own_base ho z3
  have bT3 := bT1.belowAll B13
  have hRd3 := hRd.below B3
  have hxl : xs.length = y.writes.length := hp.length_eq
  clear bB hO2 hO1 bT1 hRM ho hb3 B2 B13 hRd
  have c18 : w3.cell? ⟨T, 18, none⟩ = some (.bool y.changed) := (bT3.cells 18).trans rfl
  have lT := bT3.lt
  cases hch : y.changed
  · rw [hch] at c18
    have HP : Hid (xs.Perm (y.writes ++ if y.changed then [y.bmap] else [])) := Lib.hid (by rw [hch]; simpa using hp)
    have HX : Hid (∀ r ∈ xs, 0 ≤ r.at_ ∧ r.at_ ≤ 100000) := Lib.hid fun r hr => HREC.out r (hp.mem_iff.1 hr)
    have hx80 : xs.length ≤ 80 := by omega
    clear hp hxl hlen
    go_wp2_with fail
    refine (sort_any w.heap.size v xs (by omega) HX.out w3 B3.size ho3).mono ?_
    rintro e w4 ⟨rfl, ys, k1, k2, ho4, hb4⟩
    obtain rfl := sorted_recs HC.out HP.out k1 k2
    have B4 := B3.trans hb4
    clear c18 k1 k2
    go_wp2_with fail
    go_ret2
    exact ⟨v, rfl, ho4, B4⟩
  · have c18' := c18
    rw [hch] at c18'
    clear c18
    have HP : Hid ((xs ++ [y.bmap]).Perm (y.writes ++ if y.changed then [y.bmap] else [])) := Lib.hid (by rw [hch]; exact hp.append_right _)
    have HX : Hid (∀ r ∈ xs ++ [y.bmap], 0 ≤ r.at_ ∧ r.at_ ≤ 100000) := Lib.hid fun r hr => by
      rcases List.mem_append.1 hr with hr | hr
      · exact HREC.out r (hp.mem_iff.1 hr)
      · simp at hr; subst hr; exact HBM.out
    have hx80 : xs.length ≤ 80 := by omega
    clear hp hxl hlen
    go_wp2_with fail
    clear c18' lT
    refine wp_region_mix [.take 0, .take 1, .take 2, .take 3, .take 4, .take 5, .take 6, .take 7, .one 8, .one 9, .one 10, .one 11] 12 (fun w' => w'.cell? ⟨T, 13, none⟩ = some (.int .i64 y.s) ∧ w'.cell? ⟨T, 14, none⟩ = some (.int .i64 y.j) ∧ w'.cell? ⟨T, 15, none⟩ = some (.int .i64 y.i) ∧ w'.cell? ⟨T, 16, none⟩ = some (.slice A y.now.length cn)) (by kernel_rfl) (by kernel_rfl) (fun _ _ _ _ _ h => h) (HS.out _ B3.drew) ?_
    simp only [List.map_cons, List.map_nil, Ms.fill, List.getD_cons_zero, List.getD_cons_succ]
    iterate 8 (refine mixT_take (by rfl) ?_ (fun w' hw' => ?_) ?_; rotate_left; (focus (go_simp; (try with_reducible rfl))); (try simp only [Act.put, List.setIfInBounds_toArray, List.set_cons_zero, List.set_cons_succ]))
    refine mixT_step (by rfl) fun K hK => ?_
    go_simp
    refine (bitmap_any T 61 _ (1 + y.j) y.s y.j y.i A cn y.now HNL.out HCK.out w3.drew bT3.drew rfl (hRd3.below (Below.refl _ _).drew)).mono ?_
    rintro e w4 ⟨rfl, hb4⟩
    have B34 : Below w3.heap.size w3 w4 := (Below.refl _ _).drew.trans hb4
    have B4 : Below w.heap.size w w4 := B3.trans (B34.mono B3.size)
    have ho4 := own_below ho3 B34
    refine hK _ _ (fun _ => HS.out _ B4) ?_
    clear hK K hb4 ho3 bT3 hRd3 B34
    refine mixT_step (by rfl) fun K hK => ?_
    go_simp
    obtain ⟨w5, hw5⟩ : ∃ w5, w5 = w4.alloc (.cells #[.int .i64 (1 + y.j), .int .i64 5, .string (mapS y.now)] 122) := ⟨_, rfl⟩
    have b5 : Blk w5 w4.heap.size 122 #[.int .i64 (1 + y.j), .int .i64 5, .string (mapS y.now)] := by rw [hw5]; exact Blk.new _ _ _
    have B45 : Below w4.heap.size w4 w5 := by rw [hw5]; exact (Below.refl _ _).alloc (Nat.le_refl _) _
    rw [← hw5]
    clear hw5
    have B5 : Below w.heap.size w w5 := B4.trans (B45.mono B4.size)
    have ho5 := own_below ho4 B45
    refine hK _ _ (fun _ => HS.out _ B5) ?_
    clear hK K ho4
    refine mixT_step (by rfl) fun K hK => ?_
    obtain ⟨iD, hiD, hiz, his, hib8⟩ := info_parts Tryz.infoRec
    obtain ⟨v6, w6, hrun, ho6, hg6, -⟩ := run_append_own_at (P := Tryz.prog) w5 w.heap.size 70 70 122 iD _ 3 32 Tryz.underlying70 hiD hiz his hib8 rfl (by omega) _ _ _ ho5 ⟨w4.heap.size, 0, none⟩ 1 1 (recV y.bmap) rfl (fun j u hu => by rw [addr_add, Nat.zero_add, b5.cells]; simpa [recV, TxS.bmap] using hu) (by intro u hu; simp [recV] at hu; rcases hu with rfl | rfl | rfl <;> rfl) (by simp only [maxLen]; omega) (by omega) B5.size
    have B6 : Below w.heap.size w w6 := B5.grown hg6 B5.size (fun k hk => (ho5.lt k hk).1)
    refine wp_append_run _ _ 70 rfl _ _ v6 rfl rfl hrun ?_
    refine hK _ _ (fun _ => HS.out _ B6) ?_
    clear hK K hrun
    refine mixT_step (by rfl) fun K hK => ?_
    go_simp
    refine hK _ _ (fun _ => HS.out _ B6) ?_
    clear hK K
    refine mixT_nil ?_
    have ho7 : w6.ownsRow w.heap.size 122 3 v6 (xs ++ [y.bmap]).length ((xs ++ [y.bmap]).flatMap recV) := by
      rw [List.length_append, List.flatMap_append]; simpa using ho6
    clear ho6 ho5 hg6 b5 B45 B4 B5
    go_wp2_with fail
    refine (sort_any w.heap.size v6 (xs ++ [y.bmap]) (by simp; omega) HX.out w6 B6.size ho7).mono ?_
    rintro e w7 ⟨rfl, ys, k1, k2, ho8, hb8⟩
    obtain rfl := sorted_recs HC.out HP.out k1 k2
    have B8 := B6.trans hb8
    clear k1 k2 ho7
    go_wp2_with fail
    go_ret2
    exact ⟨v6, rfl, ho8, B8⟩

end Go.Proofs.YtjocnooekgnedaaGreatDoor
/- Layer 10: Commit of a transaction. -/
namespace Go.Proofs.YtjocnooekgnedaaGreatDoor
open Go.RowKit Go.Maps


theorem Reads.of_own3 {w : World} {base : Nat} {e : TypeId} {A : Option Addr} {n c : Nat} {xs : List Value} (h : w.ownsRow base e 3 (.slice A n c) n xs) : Reads w A xs := by
  obtain ⟨h1, h2⟩ := h
  rcases h2 with ⟨_, h2⟩ | ⟨g, cap, cur, hv, hg, hh, h3, h4, h5, h6⟩
  · left; subst h2; simpa using h1
  · right
    simp only [Value.slice.injEq] at hv
    refine ⟨g, 0, hv.1, ?_, fun j u hu => ?_⟩
    · exact (Array.getElem?_eq_some_iff.1 hh).1
    · rw [cell_of_row w g (0 + j) cur e (0, 0) hh]
      rw [← h6, List.getElem?_take] at hu
      split at hu
      · simpa using hu
      · simp at hu

/-- What Commit returns, and the device behind it. -/
def TxS.commit (y : TxS) (x : DevS) : Int × DevS := if y.recs = [] then (0, x) else x.commit 1 y.j y.recs
def TxS.end_ (y : TxS) : TxS := { y with ended := true }
def CommitDid (w : World) (T : Nat) (F : List Nat) (D : Nat) (y : TxS) (B : List Nat) (x : DevS) (e : Ending) (w' : World) : Prop :=
  e = .returned (.int .i64 (y.commit x).1) ∧ ∃ B', TD w' T F D y.end_ B' (y.commit x).2 ∧ Grow w (F ++ B) w' (F ++ B')
theorem recs_ok {y : TxS} (ok : y.Ok) (hc : y.Clean) : RecsOk y.recs := by
  have hbd := rg_bds ok.rg
  refine ⟨by rw [recs_length hc]; have := ok.len; unfold TxS.left TxS.most at this; split at this <;> split <;> omega, fun r hr => ?_⟩
  have hr := (recs_perm hc).mem_iff.1 hr
  rcases List.mem_append.1 hr with hr | hr
  · have h1 := ok.recs r hr
    have h2 := hc.small r hr
    exact ⟨by omega, by unfold maxLen; omega⟩
  · split at hr
    · simp at hr; subst hr
      exact ⟨by show -9223372036854775808 ≤ 1 + y.j ∧ 1 + y.j ≤ 9223372036854775807; omega, by show (mapS _).size ≤ maxLen; rw [mapS_size]; unfold maxLen; omega⟩
    · cases hr


end Go.Proofs.YtjocnooekgnedaaGreatDoor
/- Layer 10 in plain words: a device that transactions live on: Commit of one, Begin of the next. No program in sight. -/
namespace Go.Proofs.YtjocnooekgnedaaGreatDoor
open Go.RowKit Go.Maps

/-- A device with a layout, the blocks of us being used. -/
structure Live (x : DevS) (s j i : Int) (us : List Bool) (N : Nat) : Prop where
  runs : x.Runs N
  size : (x.stable.length : Int) = s
  head : ∃ q, HeadAt x 1 q
  map_ : x.ge (1 + j) = 0 ∧ ∃ q, x.fr (1 + j) = ⟨5, q, mapS us⟩
  len : us.length = (rgB s j i).toNat
theorem Live.mono {x : DevS} {s j i : Int} {us : List Bool} {N M : Nat} (h : Live x s j i us N) (hm : M ≤ N) : Live x s j i us M := ⟨h.runs.mono hm, h.size, h.head, h.map_, h.len⟩
theorem Fresh.live {y : DevS} {s j i : Int} {N : Nat} (h : Fresh y s j i N) : Live y s j i (List.replicate (rgB s j i).toNat false) N := ⟨h.runs, h.size, ⟨1, h.head⟩, ⟨h.map_.1, 1, h.map_.2⟩, List.length_replicate ..⟩
/-- A transaction that has begun. -/
def begTx (s j i : Int) (us : List Bool) : TxS := ⟨s, j, i, us, us, [], false, false, false⟩
theorem begTx_clean {s j i : Int} (hj : 0 ≤ j) (us : List Bool) : (begTx s j i us).Clean := ⟨List.Pairwise.nil, fun _ h => (by cases h), fun _ h => (by cases h), hj⟩
theorem freeTx_beg (s j i : Int) : freeTx s j i = begTx s j i (List.replicate (rgB s j i).toNat false) := rfl

theorem begin_live {y : DevS} {s j i : Int} {us : List Bool} {N : Nat} (h : rgE s j i = 0) (hy : Live y s j i us N) : (∀ E, y.beginE s j i E ↔ E = 0) ∧ y.begins s j i = begTx s j i us ∧ (y.fr (1 + j)).data.size ≤ 1000 := by
  have hb := rg_bds h
  have hB : rgB s j i = s - (2 + j + i) := (rg_ok h).2.2.2.2
  obtain ⟨hg, q, hf0⟩ := hy.map_
  have hl := hy.len
  have hst : strL (mapS us) = encL us us.length := strL_str (encL_bytes _ _)
  have hde := dec_enc (us := us) (by rw [hl]; omega)
  rw [← hst, hl] at hde
  have hmo : mapOk (y.fr (1 + j)).data (rgB s j i).toNat := by
    rw [hf0]
    exact ⟨by rw [hst, encL_length], hde.2⟩
  have hf : findE y.stable.length s j i = 0 := by
    unfold findE; rw [if_neg (by simpa using h), if_neg (by have := hy.size; omega), if_neg (by have := hy.size; omega)]
  refine ⟨fun E => ⟨fun hE => ?_, fun hE => ?_⟩, ?_, ?_⟩
  · rcases hE with ⟨h1, -⟩ | ⟨-, h1, -⟩ | ⟨-, -, h1, -⟩ | ⟨-, -, -, -, h1⟩
    · exact absurd hf h1
    · exact absurd hg h1
    · exact absurd ⟨hmo, by rw [hf0]⟩ h1
    · exact h1
  · exact .inr (.inr (.inr ⟨hf, hg, hmo, by rw [hf0], hE⟩))
  · unfold DevS.begins begTx
    rw [hf0]
    simp only
    rw [hde.1]
  · rw [hf0]
    show (mapS _).size ≤ 1000
    rw [mapS_size]; omega

theorem recE_good {y : TxS} (ok : y.Ok) (hc : y.Clean) {r : Rec} (hr : r ∈ y.recs) {l : List Rec} (hl : r.at_ ∉ l.map (·.at_)) : recE y.s 1 y.j l r = 0 := by
  have hbd := rg_bds ok.rg
  have h := (recs_perm hc).mem_iff.1 hr
  have h9 : ¬ (1 ≤ r.at_ ∧ r.at_ < 1 + y.j) ∧ 0 ≤ r.at_ ∧ r.at_ < y.s ∧ 1 ≤ r.kind ∧ r.kind ≤ 255 ∧ r.data.size ≤ 96 := by
    rcases List.mem_append.1 h with h | h
    · have h1 := ok.recs r h
      have h2 := hc.out r h
      have h3 := hc.small r h
      omega
    · split at h
      · simp at h; subst h
        refine ⟨by show ¬ (1 ≤ 1 + y.j ∧ 1 + y.j < 1 + y.j); omega, by show 0 ≤ 1 + y.j; omega, by show 1 + y.j < y.s; omega, by show (1 : Int) ≤ 5; omega, by show (5 : Int) ≤ 255; omega, by show (mapS _).size ≤ 96; rw [mapS_size]; omega⟩
      · cases h
  unfold recE
  rw [if_neg h9.1, if_neg (by omega), if_neg (by omega), if_neg hl]
theorem recs_valid {y : TxS} (ok : y.Ok) (hc : y.Clean) : validE y.s 1 y.j y.recs = 0 := by
  have hbd := rg_bds ok.rg
  have hlen : (y.recs.length : Int) ≤ mostN y.j := by
    rw [recs_length hc]
    have := ok.len
    unfold TxS.left TxS.most at this
    unfold mostN
    split at this <;> simp_all <;> omega
  have hA := recs_asc hc
  have hk : ∀ k, k ≤ y.recs.length → validTo y.s 1 y.j y.recs k = 0 := by
    intro k
    induction k with
    | zero => intro _; rfl
    | succ k ih =>
      intro hk
      rw [valid_step (ih (by omega)) (by omega)]
      refine recE_good ok hc (List.getElem_mem _) fun hm => ?_
      obtain ⟨r, hr, he⟩ := List.mem_map.1 hm
      obtain ⟨i, hi, rfl⟩ := List.mem_iff_getElem.1 hr
      rw [List.getElem_take] at he
      have h1 : i < k := by rw [List.length_take] at hi; omega
      have := List.pairwise_iff_getElem.1 hA i k (by omega) (by omega) h1
      omega
  unfold validE
  rw [if_neg (by omega)]
  exact hk _ (Nat.le_refl _)

theorem commit_live {x : DevS} {y : TxS} {us : List Bool} {N : Nat} (ok : y.Ok) (hc : y.Clean) (hx : Live x y.s y.j y.i us (N + 200)) (hn : y.changed = false → y.now = us) :
    ∃ x', y.commit x = (0, x') ∧ Live x' y.s y.j y.i y.now N ∧ (∀ r ∈ y.writes, x'.ge r.at_ = 0 ∧ ∃ q, x'.fr r.at_ = ⟨r.kind, q, r.data⟩) ∧ (∀ b : Int, 0 ≤ b → b < y.s → (b < 1 ∨ 1 + y.j < b) → b ∉ y.writes.map (·.at_) → sameFr x x' b) := by
  have hbd := rg_bds ok.rg
  by_cases h0 : y.recs = []
  · have hw : y.writes = [] ∧ y.changed = false := by
      have := recs_length hc
      rw [h0] at this
      cases hch : y.changed
      · rw [hch] at this
        exact ⟨List.eq_nil_of_length_eq_zero (by simpa using this.symm), rfl⟩
      · rw [hch] at this
        simp at this
    refine ⟨x, by unfold TxS.commit; rw [if_pos h0], ?_, ?_, fun b _ _ _ _ => sameFr.refl _ _⟩
    · rw [hn hw.2]; exact hx.mono (by omega)
    · rw [hw.1]; exact fun _ h => (by cases h)
  · obtain ⟨q, hq⟩ := hx.head
    have hlen : y.recs.length ≤ 80 := by
      rw [recs_length hc]
      have := ok.len
      unfold TxS.left TxS.most at this
      split at this <;> simp_all <;> omega
    have hck : checkE 1 y.j = 0 := by unfold checkE; rw [if_neg (by omega)]
    obtain ⟨x', e, r, sz, hh, hw, ho⟩ := commit_runs (x := x) (F := 1) (Z := y.j) (q := q) (n := N) (l := y.recs) hck (by rw [hx.size]; omega) hq (by rw [hx.size]; exact recs_valid ok hc) (hx.runs.mono (by omega))
    have hmem : ∀ r ∈ y.writes, r ∈ y.recs := fun r hr => (recs_perm hc).mem_iff.2 (List.mem_append_left _ hr)
    refine ⟨x', by unfold TxS.commit; rw [if_neg h0, e], ⟨r, by rw [sz]; exact hx.size, ⟨_, hh⟩, ?_, ok.now⟩, fun r hr => ⟨(hw r (hmem r hr)).1, _, (hw r (hmem r hr)).2⟩, fun b h1 h2 h3 h4 => ?_⟩
    · cases hch : y.changed
      · have hnr : 1 + y.j ∉ y.recs.map (·.at_) := fun hm => by
          obtain ⟨r, hr, he⟩ := List.mem_map.1 hm
          unfold TxS.recs at hr
          rw [hch] at hr
          have := hc.out r (by simpa using hr)
          omega
        have hs := ho (1 + y.j) (by omega) (by rw [hx.size]; omega) (by omega) hnr
        obtain ⟨g1, q1, f1⟩ := hx.map_
        exact ⟨hs.1.trans g1, q1, by rw [hs.2, f1, hn hch]⟩
      · have hm : y.bmap ∈ y.recs := (recs_perm hc).mem_iff.2 (List.mem_append_right _ (by rw [hch]; simp))
        exact ⟨(hw _ hm).1, _, (hw _ hm).2⟩
    · refine ho b h1 (by rw [hx.size]; exact h2) (by omega) fun hm => h4 ?_
      obtain ⟨r, hr, he⟩ := List.mem_map.1 hm
      rcases List.mem_append.1 ((recs_perm hc).mem_iff.1 hr) with hr | hr
      · exact List.mem_map.2 ⟨r, hr, he⟩
      · split at hr
        · simp at hr; subst hr
          have : 1 + y.j = b := he
          omega
        · cases hr

end Go.Proofs.YtjocnooekgnedaaGreatDoor
/- Layers 6, 9 and 10 in plain words: how many writes a Commit takes; its cache is empty. No program in sight. -/
namespace Go.Proofs.YtjocnooekgnedaaGreatDoor
open Go.RowKit Go.Maps

theorem write_taken {x : DevS} {a : Int} {s : List Int} (h : (x.write a s).1 = 0) : (x.write a s).2.taken = x.taken + 1 := by
  unfold DevS.write at h ⊢
  split
  · rename_i h1
    rw [if_pos h1] at h
    exact absurd h h1
  · rename_i h1
    rw [if_neg h1] at h
    split
    · rename_i h2
      rw [if_pos h2] at h
      exact absurd (show (13 : Int) = 0 from h) (by decide)
    · unfold DevS.added DevS.room
      split <;> rfl
theorem put_taken {x : DevS} {a k q : Int} {s : ByteArray} (h : (x.put a k q s).1 = 0) : (x.put a k q s).2.taken = x.taken + 1 := by
  unfold DevS.put at h ⊢
  split
  · rename_i h1
    rw [if_pos h1] at h
    exact write_taken h
  · rename_i h1
    rw [if_neg h1] at h
    exact absurd h h1
theorem puts_taken {x : DevS} {l : List (Int × Fr)} : ∀ k : Nat, (x.puts l k).1 = 0 → (x.puts l k).2.taken = x.taken + k
  | 0, _ => by show x.taken = x.taken + 0; omega
  | k + 1, h => by
    have e : x.puts l (k + 1) = if (x.puts l k).1 ≠ 0 then x.puts l k else (x.puts l k).2.put (l.getD k default).1 (l.getD k default).2.kind (l.getD k default).2.seq (l.getD k default).2.data := rfl
    rw [e] at h ⊢
    by_cases h1 : (x.puts l k).1 ≠ 0
    · rw [if_pos h1] at h; exact absurd h h1
    · rw [if_neg h1] at h ⊢
      have h2 := put_taken h
      have h3 := puts_taken k (by simpa using h1)
      omega
theorem doneE_zero {p : Int × DevS} (h : (DevS.done p).1 = 0) : p.1 = 0 ∧ (DevS.done p).2 = p.2.flushed := by
  unfold DevS.done at h ⊢
  by_cases h1 : p.1 ≠ 0
  · rw [if_pos h1] at h; exact absurd h h1
  · rw [if_neg h1] at h ⊢
    unfold DevS.flush readyE at h ⊢
    cases ho : p.2.off
    · exact ⟨by simpa using h1, by simp⟩
    · rw [ho] at h; exact absurd (show (13 : Int) = 0 from h) (by decide)
theorem log_taken {x : DevS} {F Z : Int} {l : List Rec} (h : (x.log F Z l).1 = 0) : (x.log F Z l).2.taken = x.taken + l.length + 1 := by
  unfold DevS.log at h ⊢
  split
  · rename_i h1; rw [if_pos h1] at h; exact absurd h h1
  · rename_i h1
    rw [if_neg h1] at h
    split
    · rename_i h2; rw [if_pos h2] at h; exact absurd h h2
    · rename_i h2
      rw [if_neg h2] at h
      split
      · rename_i h3; rw [if_pos h3] at h; exact absurd h h3
      · rename_i h3
        rw [if_neg h3] at h
        obtain ⟨d1, d2⟩ := doneE_zero h
        have h4 := put_taken d1
        have h5 := puts_taken l.length (by simpa using h3)
        rw [d2]
        show DevS.taken _ = _
        rw [show (DevS.flushed ((x.puts (logL F (next (x.head F Z).2) l) l.length).2.put (F + 1 + l.length) 3 (next (x.head F Z).2) (shortS l.length)).2).taken = ((x.puts (logL F (next (x.head F Z).2) l) l.length).2.put (F + 1 + l.length) 3 (next (x.head F Z).2) (shortS l.length)).2.taken from rfl, h4, h5]
theorem clear_taken {x : DevS} {F Z : Int} (h : (x.clear F Z).1 = 0) : (x.clear F Z).2.taken = x.taken + 1 ∧ (x.clear F Z).2.cache = [] := by
  unfold DevS.clear at h ⊢
  split
  · rename_i h1; rw [if_pos h1] at h; exact absurd h h1
  · rename_i h1
    rw [if_neg h1] at h
    obtain ⟨d1, d2⟩ := doneE_zero h
    have h4 := put_taken d1
    rw [d2]
    exact ⟨h4, rfl⟩
theorem apply_taken {x : DevS} {F Z : Int} (h : (x.apply F Z).2.1 = 0) : (x.apply F Z).2.2.taken = x.taken + (x.look F Z).2.2.1.length := by
  unfold DevS.apply at h ⊢
  split
  · rename_i h1; rw [if_pos h1] at h; exact absurd h h1
  · rename_i h1
    rw [if_neg h1] at h
    split
    · rename_i h2; rw [if_pos h2] at h; exact absurd (show (9 : Int) = 0 from h) (by decide)
    · rename_i h2
      rw [if_neg h2] at h
      have key : (x.applies (x.look F Z).2.1 (x.look F Z).2.2.1).1 = 0 → (x.applies (x.look F Z).2.1 (x.look F Z).2.2.1).2.taken = x.taken + (x.look F Z).2.2.1.length := fun h0 => by
        unfold DevS.applies at h0 ⊢
        obtain ⟨d1, d2⟩ := doneE_zero h0
        rw [d2]
        exact puts_taken _ d1
      split
      · rename_i h3; rw [if_pos h3] at h; exact absurd h h3
      · rename_i h3; exact key (by simpa using h3)
theorem commit_taken {x : DevS} {F Z q : Int} {n : Nat} {l : List Rec} (hc : checkE F Z = 0) (hF : F + Z ≤ x.stable.length) (hh : HeadAt x F q) (hv0 : validE x.stable.length F Z l = 0) (h : x.Runs (n + 1 + l.length + 1 + l.length)) :
    (x.commit F Z l).2.taken = x.taken + 2 * l.length + 2 ∧ (x.commit F Z l).2.cache = [] := by
  obtain ⟨y, e, -⟩ := commit_runs hc hF hh hv0 h
  obtain ⟨z, ez, z1, z2, z3, z4, z5⟩ := log_runs (n := n + 1 + l.length) hc hF hh (validL hv0) hv0 h
  have h1 := log_taken (x := x) (F := F) (Z := Z) (l := l) (by rw [ez])
  have hlk := look_log hc z1.ok.hi z3 (by rw [z2]; exact validL hv0) z4
  have e0 : (x.commit F Z l).1 = 0 := by rw [e]
  unfold DevS.commit at e0 ⊢
  rw [ez] at e0 h1 ⊢
  simp only at e0 h1 ⊢
  rw [if_neg (by simp)] at e0 ⊢
  by_cases h2 : (z.apply F Z).2.1 ≠ 0
  · rw [if_pos h2] at e0; exact absurd e0 h2
  · rw [if_neg h2] at e0 ⊢
    have h3 := apply_taken (x := z) (F := F) (Z := Z) (by simpa using h2)
    have h4 := clear_taken e0
    rw [hlk] at h3
    simp only at h3
    exact ⟨by rw [h4.1, h3, h1]; omega, h4.2⟩

end Go.Proofs.YtjocnooekgnedaaGreatDoor
/- limewashref06.Same, of two states that are one, with empty caches. -/
namespace Go.Proofs.YtjocnooekgnedaaGreatDoor
open Go.RowKit Go.Maps

theorem neqSec (xs : List Int) (hx : xs.length = 128) (w : World) :
    (binOp .neq 204 (.agg (bytesV xs)) (.agg (bytesV xs))).run Tryz.prog w = .ok (.bool false) w := by
  have h := eqSec xs xs hx hx w
  rw [run_eql_struct] at h
  rw [run_neq_struct]
  cases e : (Op.equalIn 10000 204 (.agg (bytesV xs)) (.agg (bytesV xs))).run Tryz.prog w with
  | ok b w' =>
    rw [e] at h
    simp only [Result.andThen_ok, Result.ok.injEq, Value.bool.injEq, decide_true] at h
    obtain ⟨rfl, rfl⟩ := h
    rfl
  | _ => rw [e] at h; cases h

/-- The k-th sector of a row. -/
theorem own_sec {w : World} {base : Nat} {g n cap : Nat} {l : List (List Int)} (hl : ∀ s ∈ l, s.length = 128) (h : w.ownsRow base 204 128 (.slice (some ⟨g, 0, none⟩) n cap) n (l.flatMap secV)) (k : Nat) (hk : k < l.length) : SecAt w ⟨g, k * 128, none⟩ l[k] := by
  have h1 := hl _ (List.getElem_mem hk)
  refine ⟨h1, rfl, fun j hj => own_cell h ?_⟩
  rw [flat_get (f := secV) (m := 128) (fun s hs => by rw [secV_length]; exact hl s hs) hj hk, secV_get (by rw [h1]; exact hj)]

theorem exec_loadSec {o : Oper} {a : Act} {p : Addr} {l : List Int} {w : World} (x : Operand) (ho : o.op = .load 204 x) (hx : a.eval x = .pointer (some p)) (hs : SecAt w p l) : (execOp a.eval o).run Tryz.prog w = .ok (.value (.agg (bytesV l))) w := by
  unfold execOp
  simp only [ho, hx, Instr.loadAt, Instr.sureAddr, Sem.run_bind, Sem.run_pure, Result.andThen_ok, hs.load]


end Go.Proofs.YtjocnooekgnedaaGreatDoor
