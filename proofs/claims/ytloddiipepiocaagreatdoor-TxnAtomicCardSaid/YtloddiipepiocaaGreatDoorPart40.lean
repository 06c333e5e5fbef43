/- Parts of the proof, put together by program: IE, IF, IG. -/
import Derived.Test.YtloddiipepiocaaGreatDoorPart39
import Derived.Shelf.SlSortCmp.WholeK
import Derived.Shelf.SlSortCmp.NoneTotal
import Derived.Test.YtloddiipepiocaaGreatDoorPart26
set_option linter.unusedVariables false
set_option linter.unusedSimpArgs false
/- Layer 10: slices.SortFunc of records. -/
namespace Go.Proofs.YtloddiipepiocaaGreatDoor
open Go.RowKit Go.Maps Go.Shelf Go.Sort

/-! A row of cells written anew by the sort. -/
theorem holds_of_blockV {w : World} {g : Nat} {cur : Array Value} {e : TypeId} {F : Array Value} (hb : w.heap[g]? = some (.cells cur e (0, 0))) (ht : cur.toList.take F.size = F.toList) : Holds id w g 0 F := by
  intro j hj
  refine ⟨?_, by simp [World.frozen?, hb]⟩
  have h1 : (cur.toList.take F.size)[j]? = F.toList[j]? := by rw [ht]
  rw [List.getElem?_take_of_lt hj] at h1
  simp only [World.cell?, hb, Nat.zero_add]
  simp only [Option.isSome_none, Bool.false_eq_true, if_false]
  rw [← Array.getElem?_toList, h1]
  simp [hj]
theorem heap_sortedV {w : World} {g n : Nat} {os : Array Obj} {cur : Array Value} {e : TypeId} {fr : Nat × Nat} (F : Array Value) (hb : w.heap[g]? = some (.cells cur e fr)) :
    (grow (putRow id (Sort.ahead w n) g 0 F) os).heap[g]? = some (.cells (putCells id 0 F cur) e fr) := by
  have hg : g < w.heap.size := (Array.getElem?_eq_some_iff.1 hb).1
  rw [heap_grow_old _ _ (by simpa using hg)]
  simp [putRow, mapBlock, Sort.ahead, Array.getElem?_modify, hb, onCells]
theorem grownBy_sortedV {w : World} {g n : Nat} {os : Array Obj} (F : Array Value) : w.grownBy (grow (putRow id (Sort.ahead w n) g 0 F) os) (some g) := by
  refine ⟨rfl, rfl, rfl, by simp, fun k hk hne => ?_⟩
  rw [heap_grow_old _ _ (by simpa using hk)]
  have : g ≠ k := fun e => hne (by rw [e])
  simp [putRow, mapBlock, Sort.ahead, Array.getElem?_modify, this]
theorem take_putCellsV (cur F : Array Value) (h : F.size ≤ cur.size) : (putCells id 0 F cur).toList.take F.size = F.toList := by
  apply List.ext_getElem?
  intro j
  by_cases hj : j < F.size
  · rw [List.getElem?_take_of_lt hj, Array.getElem?_toList]
    simp [putCells, hj, show j < cur.size by omega]
  · rw [List.getElem?_take_eq_none (by omega), List.getElem?_eq_none (by simpa using hj)]
theorem flat_length {α : Type} {f : α → List Value} {m : Nat} : ∀ {l : List α}, (∀ s ∈ l, (f s).length = m) → (l.flatMap f).length = l.length * m
  | [], _ => by simp
  | x :: t, h => by
    rw [List.flatMap_cons, List.length_append, h x (by simp), flat_length (fun s hs => h s (List.mem_cons_of_mem _ hs)), List.length_cons, Nat.add_mul, Nat.one_mul, Nat.add_comm]
theorem flatB (d : Array BRec) : (flatK encB 3 d).toList = (d.toList.map (·.1)).flatMap recV := by
  apply List.ext_getElem?
  intro t
  have hl : ((d.toList.map (·.1)).flatMap recV).length = d.size * 3 := by rw [flat_length (f := recV) (m := 3) (fun _ _ => rfl)]; simp
  by_cases ht : t < d.size * 3
  · have h1 := get_flatK encB 3 d t ht
    have hq : t / 3 < d.size := by omega
    have hs : t < (flatK encB 3 d).size := by rw [size_flatK]; exact ht
    rw [getElem!_pos _ t hs, getElem!_pos d (t / 3) hq] at h1
    have h2 := flat_get (f := recV) (m := 3) (fun _ _ => rfl) (i := t / 3) (j := t % 3) (by omega) (show t / 3 < (d.toList.map (·.1)).length by simpa using hq)
    rw [show t / 3 * 3 + t % 3 = t by omega] at h2
    rw [h2, Array.getElem?_toList, Array.getElem?_eq_getElem hs, h1]
    have hq2 : t / 3 < (d.toList.map (·.1)).length := by simpa using hq
    have e : recV ((d.toList.map (·.1))[t / 3]'hq2) = encB d[t / 3] := by simp [encB, recV]
    rw [e, List.getElem?_eq_getElem (show t % 3 < (encB d[t / 3]).length by show t % 3 < 3; omega), getElem!_pos]
  · rw [List.getElem?_eq_none (by simpa using ht), List.getElem?_eq_none (by rw [hl]; omega)]

def SortRecs (base g cap : Nat) (xs : List Rec) (w : World) (e : Ending) (w' : World) : Prop :=
  e = .returned (.tuple #[]) ∧ ∃ ys : List Rec, ys.Perm xs ∧ ys.Pairwise (fun a b : Rec => a.at_ ≤ b.at_) ∧ w'.ownsRow base 136 3 (.slice (some ⟨g, 0, none⟩) ys.length cap) ys.length (ys.flatMap recV) ∧ w.grownBy w' (some g)

theorem sort_recs (base g cap : Nat) (xs : List Rec) (hl0 : xs.length ≤ 1000) (hx : ∀ r ∈ xs, 0 ≤ r.at_ ∧ r.at_ ≤ 100000) (w : World) (ho : w.ownsRow base 136 3 (.slice (some ⟨g, 0, none⟩) xs.length cap) xs.length (xs.flatMap recV)) :
    Calls Tryz.prog 133 #[.slice (some ⟨g, 0, none⟩) xs.length cap, .func (.func 134) #[] #[]] w (SortRecs base g cap xs w) := by
  obtain ⟨d, hd⟩ : ∃ d : Array BRec, d.toList.map (·.1) = xs := by
    refine ⟨(xs.attach.map fun r => (⟨r.1, hx r.1 r.2⟩ : BRec)).toArray, ?_⟩
    show List.map (fun x : BRec => x.1) (xs.attach.map fun r => (⟨r.1, hx r.1 r.2⟩ : BRec)) = xs
    rw [List.map_map]
    exact List.attach_map_subtype_val xs
  have hsz : d.size = xs.length := by rw [← hd]; simp
  rcases ho.2 with ⟨h0, _⟩ | ⟨g', cap', cur, hv, hbase, hb, hnc, hcm, hcs, ht⟩
  · simp at h0
  simp only [Value.slice.injEq, Option.some.injEq, Addr.mk.injEq, and_true, true_and] at hv
  obtain ⟨rfl, rfl⟩ := hv
  have hF : (flatK encB 3 d).toList = xs.flatMap recV := by rw [flatB, hd]
  have hFs : (flatK encB 3 d).size = xs.length * 3 := by rw [size_flatK, hsz]
  have hH : HoldsK encB 3 w g 0 d := holds_of_blockV hb (by rw [hFs, hF]; exact ht)
  have eg : ∀ args w, (callFunc 134 args).run Tryz.prog w = .ok (.enter 134 args) w := enters_of Tryz.func134 (by kernel_rfl) rfl
  have hblk : g < w.heap.size := (Array.getElem?_eq_some_iff.1 hb).1
  have hcon := AnyQ.slices_SortFunc Tryz.sortRec 3 isAggRec sizeRec encB (fun _ => rfl) (fun x v hv => by simp [encB] at hv; rcases hv with rfl | rfl | rfl <;> rfl) cfB swoB 134 #[] g 0 cap d w eg (fun _ _ _ _ x y => cmp_rec x y _) hH hblk (by omega)
  rw [hsz] at hcon
  refine Calls.mono hcon ?_
  rintro e w' ⟨rfl, d', n, os, hp, hs, rfl⟩
  rw [← hsz] at hp hs
  obtain ⟨k1, k2, k3⟩ := sort_list hp hs
  rw [hd] at k1
  have hl : (d'.toList.map (·.1)).length = xs.length := k1.length_eq
  have hFs' : (flatK encB 3 d').size = xs.length * 3 := by rw [size_flatK, k3, hsz]
  refine ⟨rfl, d'.toList.map (·.1), k1, k2, ⟨?_, .inr ⟨g, cap, _, by rw [hl], hbase, heap_sortedV _ hb, by rw [hl]; exact hnc, hcm, by simp [putCells, hcs], ?_⟩⟩, grownBy_sortedV _⟩
  · rw [flat_length (f := recV) (m := 3) (fun _ _ => rfl)]
  · rw [hl, ← hFs', take_putCellsV _ _ (by rw [hFs', hcs]; exact Nat.mul_le_mul_right _ hnc), flatB]

end Go.Proofs.YtloddiipepiocaaGreatDoor
/- Layer 10: Records. -/
namespace Go.Proofs.YtloddiipepiocaaGreatDoor
open Go.RowKit Go.Maps

theorem sorted_recs {y : TxS} (hc : y.Clean) {zs ys : List Rec} (hz : zs.Perm (y.writes ++ if y.changed then [y.bmap] else [])) (hp : ys.Perm zs) (hs : ys.Pairwise (fun a b : Rec => a.at_ ≤ b.at_)) : ys = y.recs :=
  asc_perm (recs_asc hc) hs ((hp.trans hz).trans (recs_perm hc).symm)
theorem wp_append_run {P : Program} {w w' : World} {o : Oper} {a : Act} {K : Act → World → Prop} {Q : Exit → Act → World → Prop} (s x : Operand) (t : TypeId)
    (ho : o.op = .call { callee := .builtin .append, args := #[s, x], argTypes := #[t, t] }) (v X v' : Value) (hs : a.eval s = v) (hx : a.eval x = X)
    (hrun : (Builtin.append_ #[t, t] o.type #[v, X]).run P w = .ok v' w') (h : K (a.put o.dst v') w') : o.wp P a w K Q := by
  unfold Oper.wp execOp
  simp only [ho, resolve, invoke, builtin, Sem.run_bind, Sem.run_pure, Result.andThen_ok, List.map_toArray, List.map_cons, List.map_nil, hs, hx, hrun]
  exact h

set_option maxRecDepth 100000 in
set_option maxHeartbeats 1000000 in
theorem txrecords_bad (tv : Value) (E : Int) (w : World) (h : StE w tv E) (hE : E ≠ 0) :
    Calls Tryz.prog 70 #[tv] w fun e w' => e = .returned (.tuple #[.slice none 0 0, .int .i64 E]) ∧ Below w.heap.size w w' := by
  have hst := state_any tv E w h
  have hE' : (E != 0) = true := by simpa using hE
  clear h hE
  go_enter Tryz.func70, Tryz.ntmps70
  go_wp2_with fail
  refine hst.mono ?_
  rintro e w1 ⟨rfl, hb1⟩
  go_wp2_with fail
  go_ret2
  exact ⟨rfl, hb1⟩

def RecsPost (y : TxS) (w : World) (e : Ending) (w' : World) : Prop :=
  ∃ v, e = .returned (.tuple #[v, .int .i64 0]) ∧ w'.ownsRow w.heap.size 136 3 v y.recs.length (y.recs.flatMap recV) ∧ Below w.heap.size w w'

/-- What the sort is called with, and what it leaves. -/
theorem sort_any (base : Nat) (v : Value) (zs : List Rec) (hl0 : zs.length ≤ 1000) (hz : ∀ r ∈ zs, 0 ≤ r.at_ ∧ r.at_ ≤ 100000) (w : World) (hbz : base ≤ w.heap.size) (ho : w.ownsRow base 136 3 v zs.length (zs.flatMap recV)) :
    Calls Tryz.prog 133 #[v, .func (.func 134) #[] #[]] w fun e w' => e = .returned (.tuple #[]) ∧ ∃ ys : List Rec, ys.Perm zs ∧ ys.Pairwise (fun a b : Rec => a.at_ ≤ b.at_) ∧ w'.ownsRow base 136 3 v ys.length (ys.flatMap recV) ∧ Below base w w' := by
  rcases Nat.eq_zero_or_pos zs.length with h0 | h0
  · obtain rfl := List.eq_nil_of_length_eq_zero h0
    obtain ⟨A, c, rfl⟩ := own_slice ho
    refine Calls.mono (AnyF.slices_SortFunc_none Tryz.sortRec A c _ w) ?_
    rintro e w' ⟨rfl, rfl⟩
    exact ⟨rfl, [], List.Perm.refl _, List.Pairwise.nil, ho, Below.refl _ _⟩
  · obtain ⟨g, cap, rfl, hg, _⟩ := own_form ho h0
    refine (sort_recs base g cap zs hl0 hz w ho).mono ?_
    rintro e w' ⟨rfl, ys, h1, h2, h3, h4⟩
    refine ⟨rfl, ys, h1, h2, by rw [h1.length_eq] at h3 ⊢; exact h3, (Below.refl base w).grown h4 hbz (fun k e => by cases e; exact hg)⟩

set_option maxRecDepth 100000 in
set_option maxHeartbeats 4000000 in
theorem records_tx (T : Nat) (F : List Nat) (D : Nat) (y : TxS) (w : World) (h : TxAt w T F D y) (hc : y.Clean) (hE : y.stateE = 0) :
    Calls Tryz.prog 70 #[.pointer (some ⟨T, 0, none⟩)] w (RecsPost y w) := by
  have hst := state_any _ _ w h.st
  rw [hE] at hst
  obtain ⟨ok, ⟨M, wv, nv, bT, hT, hM, hMT, ⟨E, hRM, hO⟩, hw, ⟨A, cn, rfl, hRd, hA⟩⟩, lt⟩ := h
  have hbd := rg_bds ok.rg
  have hlen : y.writes.length ≤ 80 := by have := ok.len; unfold TxS.left TxS.most at this; split at this <;> omega
  have hnl : y.now.length ≤ 1000 := by rw [ok.now]; have := (rg_ok ok.rg).2.2.2.2; omega
  have HCK := Lib.hid (ok_ckE ok)
  have hrec : ∀ r ∈ y.writes, 0 ≤ r.at_ ∧ r.at_ ≤ 100000 := fun r hr => by have := ok.recs r hr; omega
  have HREC := Lib.hid hrec
  have hbm : 0 ≤ y.bmap.at_ ∧ y.bmap.at_ ≤ 100000 := by show 0 ≤ 1 + y.j ∧ 1 + y.j ≤ 100000; omega
  have HBM := Lib.hid hbm
  have HNL := Lib.hid hnl
  have HC := Lib.hid hc
  have hSof : ∀ W : World, Below w.heap.size w W → W.cell? ⟨T, 13, none⟩ = some (.int .i64 y.s) ∧ W.cell? ⟨T, 14, none⟩ = some (.int .i64 y.j) ∧ W.cell? ⟨T, 15, none⟩ = some (.int .i64 y.i) ∧ W.cell? ⟨T, 16, none⟩ = some (.slice A y.now.length cn) := fun W hb => ⟨((bT.belowAll hb).cells 13).trans rfl, ((bT.belowAll hb).cells 14).trans rfl, ((bT.belowAll hb).cells 15).trans rfl, ((bT.belowAll hb).cells 16).trans rfl⟩
  have HS := Lib.hid hSof
  clear hSof
  clear hrec hbm hc hw hA lt ok hE hbd hnl
  unfold RecsPost
  go_enter Tryz.func70, Tryz.ntmps70
  go_wp2_with fail
  refine hst.mono ?_
  rintro e w1 ⟨rfl, hb1⟩
  have bT1 := bT.belowAll hb1
  have hO1 := map_block hO (hb1.block M hO.lt)
  have c17 : w1.cell? ⟨T, 17, none⟩ = some (.map (some M)) := (bT1.cells 17).trans rfl
  have lT := bT1.lt
  clear hst hO bT
  go_wp2_with fail
  refine (values_any (some M) w1).mono ?_
  rintro e w2 ⟨rfl, hw2⟩
  have bB : Blk w2 w1.heap.size 124 #[.map (some M)] := by rw [hw2]; exact Blk.new _ _ _
  have B2 : Below w1.heap.size w1 w2 := by rw [hw2]; exact (Below.refl _ _).alloc (Nat.le_refl _) _
  have hO2 := map_block hO1 (B2.block M hO1.lt)
  clear hw2 c17 lT
  go_wp2_with fail
  refine (collect_recs w1.heap.size M y.writes (by omega) E hRM w2 bB hO2).mono ?_
  rintro e w3 ⟨v, xs, rfl, hp, ho, -, hb3⟩
  have B13 : Below w1.heap.size w1 w3 := B2.trans (hb3.mono B2.size)
  have B3 : Below w.heap.size w w3 := hb1.trans (B13.mono hb1.size)
  have z3 : w.heap.size ≤ w2.heap.size := Nat.le_trans hb1.size B2.size
  have ho3 := own_base ho z3
  have bT3 := bT1.belowAll B13
  have hRd3 := hRd.below B3
  have hxl : xs.length = y.writes.length := hp.length_eq
  clear bB hO2 hO1 bT1 hRM ho hb3 B2 B13 hRd
  have c18 : w3.cell? ⟨T, 18, none⟩ = some (.bool y.changed) := (bT3.cells 18).trans rfl
  have lT := bT3.lt
  cases hch : y.changed
  · rw [hch] at c18
    have HP : Hid (xs.Perm (y.writes ++ if y.changed then [y.bmap] else [])) := Lib.hid (by rw [hch]; simpa using hp)
    have HX : Hid (∀ r ∈ xs, 0 ≤ r.at_ ∧ r.at_ ≤ 100000) := Lib.hid fun r hr => HREC.out r (hp.mem_iff.1 hr)
    have hx80 : xs.length ≤ 80 := by omega
    clear hp hxl hlen
    go_wp2_with fail
    refine (sort_any w.heap.size v xs (by omega) HX.out w3 B3.size ho3).mono ?_
    rintro e w4 ⟨rfl, ys, k1, k2, ho4, hb4⟩
    obtain rfl := sorted_recs HC.out HP.out k1 k2
    have B4 := B3.trans hb4
    clear c18 k1 k2
    go_wp2_with fail
    go_ret2
    exact ⟨v, rfl, ho4, B4⟩
  · have c18' := c18
    rw [hch] at c18'
    clear c18
    have HP : Hid ((xs ++ [y.bmap]).Perm (y.writes ++ if y.changed then [y.bmap] else [])) := Lib.hid (by rw [hch]; exact hp.append_right _)
    have HX : Hid (∀ r ∈ xs ++ [y.bmap], 0 ≤ r.at_ ∧ r.at_ ≤ 100000) := Lib.hid fun r hr => by
      rcases List.mem_append.1 hr with hr | hr
      · exact HREC.out r (hp.mem_iff.1 hr)
      · simp at hr; subst hr; exact HBM.out
    have hx80 : xs.length ≤ 80 := by omega
    clear hp hxl hlen
    go_wp2_with fail
    clear c18' lT
    refine wp_region_mix [.take 0, .take 1, .take 2, .take 3, .take 4, .take 5, .take 6, .take 7, .one 8, .one 9, .one 10, .one 11] 12 (fun w' => w'.cell? ⟨T, 13, none⟩ = some (.int .i64 y.s) ∧ w'.cell? ⟨T, 14, none⟩ = some (.int .i64 y.j) ∧ w'.cell? ⟨T, 15, none⟩ = some (.int .i64 y.i) ∧ w'.cell? ⟨T, 16, none⟩ = some (.slice A y.now.length cn)) (by kernel_rfl) (by kernel_rfl) (fun _ _ _ _ _ h => h) (HS.out _ B3.drew) ?_
    simp only [List.map_cons, List.map_nil, Ms.fill, List.getD_cons_zero, List.getD_cons_succ]
    iterate 8 (refine mixT_take (by rfl) ?_ (fun w' hw' => ?_) ?_; rotate_left; (focus (go_simp; (try with_reducible rfl))); (try simp only [Act.put, List.setIfInBounds_toArray, List.set_cons_zero, List.set_cons_succ]))
    refine mixT_step (by rfl) fun K hK => ?_
    go_simp
    refine (bitmap_any T 126 _ (1 + y.j) y.s y.j y.i A cn y.now HNL.out HCK.out w3.drew bT3.drew rfl (hRd3.below (Below.refl _ _).drew)).mono ?_
    rintro e w4 ⟨rfl, hb4⟩
    have B34 : Below w3.heap.size w3 w4 := (Below.refl _ _).drew.trans hb4
    have B4 : Below w.heap.size w w4 := B3.trans (B34.mono B3.size)
    have ho4 := own_below ho3 B34
    refine hK _ _ (fun _ => HS.out _ B4) ?_
    clear hK K hb4 ho3 bT3 hRd3 B34
    refine mixT_step (by rfl) fun K hK => ?_
    go_simp
    obtain ⟨w5, hw5⟩ : ∃ w5, w5 = w4.alloc (.cells #[.int .i64 (1 + y.j), .int .i64 5, .string (mapS y.now)] 136) := ⟨_, rfl⟩
    have b5 : Blk w5 w4.heap.size 136 #[.int .i64 (1 + y.j), .int .i64 5, .string (mapS y.now)] := by rw [hw5]; exact Blk.new _ _ _
    have B45 : Below w4.heap.size w4 w5 := by rw [hw5]; exact (Below.refl _ _).alloc (Nat.le_refl _) _
    rw [← hw5]
    clear hw5
    have B5 : Below w.heap.size w w5 := B4.trans (B45.mono B4.size)
    have ho5 := own_below ho4 B45
    refine hK _ _ (fun _ => HS.out _ B5) ?_
    clear hK K ho4
    refine mixT_step (by rfl) fun K hK => ?_
    obtain ⟨iD, hiD, hiz, his, hib8⟩ := info_parts Tryz.infoRec
    obtain ⟨v6, w6, hrun, ho6, hg6, -⟩ := run_append_own_at (P := Tryz.prog) w5 w.heap.size 54 54 136 iD _ 3 32 Tryz.underlying54 hiD hiz his hib8 rfl (by omega) _ _ _ ho5 ⟨w4.heap.size, 0, none⟩ 1 1 (recV y.bmap) rfl (fun j u hu => by rw [addr_add, Nat.zero_add, b5.cells]; simpa [recV, TxS.bmap] using hu) (by intro u hu; simp [recV] at hu; rcases hu with rfl | rfl | rfl <;> rfl) (by simp only [maxLen]; omega) (by omega) B5.size
    have B6 : Below w.heap.size w w6 := B5.grown hg6 B5.size (fun k hk => (ho5.lt k hk).1)
    refine wp_append_run _ _ 54 rfl _ _ v6 rfl rfl hrun ?_
    refine hK _ _ (fun _ => HS.out _ B6) ?_
    clear hK K hrun
    refine mixT_step (by rfl) fun K hK => ?_
    go_simp
    refine hK _ _ (fun _ => HS.out _ B6) ?_
    clear hK K
    refine mixT_nil ?_
    have ho7 : w6.ownsRow w.heap.size 136 3 v6 (xs ++ [y.bmap]).length ((xs ++ [y.bmap]).flatMap recV) := by
      rw [List.length_append, List.flatMap_append]; simpa using ho6
    clear ho6 ho5 hg6 b5 B45 B4 B5
    go_wp2_with fail
    refine (sort_any w.heap.size v6 (xs ++ [y.bmap]) (by simp; omega) HX.out w6 B6.size ho7).mono ?_
    rintro e w7 ⟨rfl, ys, k1, k2, ho8, hb8⟩
    obtain rfl := sorted_recs HC.out HP.out k1 k2
    have B8 := B6.trans hb8
    clear k1 k2 ho7
    go_wp2_with fail
    go_ret2
    exact ⟨v6, rfl, ho8, B8⟩

end Go.Proofs.YtloddiipepiocaaGreatDoor
/- Layer 10: Commit of a transaction. -/
namespace Go.Proofs.YtloddiipepiocaaGreatDoor
open Go.RowKit Go.Maps

set_option maxRecDepth 100000 in
set_option maxHeartbeats 1000000 in
theorem txcommit_bad (tv : Value) (E : Int) (w : World) (h : StE w tv E) (hE : E ≠ 0) :
    Calls Tryz.prog 22 #[tv] w fun e w' => e = .returned (.int .i64 E) ∧ Below w.heap.size w w' := by
  have hst := txrecords_bad tv E w h hE
  have hE' : (E != 0) = true := by simpa using hE
  clear h hE
  go_enter Tryz.func22, Tryz.ntmps22
  go_wp2_with fail
  refine hst.mono ?_
  rintro e w1 ⟨rfl, hb1⟩
  go_wp2_with fail
  go_ret
  exact ⟨rfl, hb1⟩

theorem Reads.of_own3 {w : World} {base : Nat} {e : TypeId} {A : Option Addr} {n c : Nat} {xs : List Value} (h : w.ownsRow base e 3 (.slice A n c) n xs) : Reads w A xs := by
  obtain ⟨h1, h2⟩ := h
  rcases h2 with ⟨_, h2⟩ | ⟨g, cap, cur, hv, hg, hh, h3, h4, h5, h6⟩
  · left; subst h2; simpa using h1
  · right
    simp only [Value.slice.injEq] at hv
    refine ⟨g, 0, hv.1, ?_, fun j u hu => ?_⟩
    · exact (Array.getElem?_eq_some_iff.1 hh).1
    · rw [cell_of_row w g (0 + j) cur e (0, 0) hh]
      rw [← h6, List.getElem?_take] at hu
      split at hu
      · simpa using hu
      · simp at hu

/-- What Commit returns, and the device behind it. -/
def TxS.commit (y : TxS) (x : DevS) : Int × DevS := if y.recs = [] then (0, x) else x.commit 1 y.j y.recs
def TxS.end_ (y : TxS) : TxS := { y with ended := true }
def CommitDid (w : World) (T : Nat) (F : List Nat) (D : Nat) (y : TxS) (B : List Nat) (x : DevS) (e : Ending) (w' : World) : Prop :=
  e = .returned (.int .i64 (y.commit x).1) ∧ ∃ B', TD w' T F D y.end_ B' (y.commit x).2 ∧ Grow w (F ++ B) w' (F ++ B')
theorem recs_ok {y : TxS} (ok : y.Ok) (hc : y.Clean) : RecsOk y.recs := by
  have hbd := rg_bds ok.rg
  refine ⟨by rw [recs_length hc]; have := ok.len; unfold TxS.left TxS.most at this; split at this <;> split <;> omega, fun r hr => ?_⟩
  have hr := (recs_perm hc).mem_iff.1 hr
  rcases List.mem_append.1 hr with hr | hr
  · have h1 := ok.recs r hr
    have h2 := hc.small r hr
    exact ⟨by omega, by unfold maxLen; omega⟩
  · split at hr
    · simp at hr; subst hr
      exact ⟨by show -9223372036854775808 ≤ 1 + y.j ∧ 1 + y.j ≤ 9223372036854775807; omega, by show (mapS _).size ≤ maxLen; rw [mapS_size]; unfold maxLen; omega⟩
    · cases hr

set_option maxRecDepth 100000 in
set_option maxHeartbeats 4000000 in
theorem commit_tx (T : Nat) (F : List Nat) (D : Nat) (y : TxS) (B : List Nat) (x : DevS) (w : World) (h : TD w T F D y B x) (hc : y.Clean) (hE : y.stateE = 0) :
    Calls Tryz.prog 22 #[.pointer (some ⟨T, 0, none⟩)] w (CommitDid w T F D y B x) := by
  have hrc := records_tx T F D y w h.tx hc hE
  have HOK := Lib.hid (recs_ok h.tx.ok hc)
  have H0 := Lib.hid h
  unfold CommitDid
  go_enter Tryz.func22, Tryz.ntmps22
  go_wp2_with fail
  refine hrc.mono ?_
  rintro e w1 ⟨v, rfl, ho, hb1⟩
  have h1 := h.below hb1
  obtain ⟨av, cv, rfl⟩ := own_slice ho
  obtain ⟨M, wv, nv, bT, hT, -⟩ := h1.tx.mem
  have hTB : T ∉ B := h1.dis T hT
  have hT0 : T ≠ 0 := by have := (h1.tx.lt T hT).1; omega
  have hTw : T < w.heap.size := (H0.out.tx.lt T hT).2
  have h2 : TD (w1.setCell ⟨T, 20, none⟩ (.bool true)) T F D y.end_ B x := ⟨h1.tx.ended, h1.dev.set_ hTB hT0 _, h1.dis⟩
  have g2 : Grow w (F ++ B) (w1.setCell ⟨T, 20, none⟩ (.bool true)) (F ++ B) := (Grow.of_below hb1 _).trans ⟨KeepEx.setCell _ (.inl (by simp [hT])) _, fun _ h => .inl h⟩
  have ho2 : (w1.setCell ⟨T, 20, none⟩ (.bool true)).ownsRow w.heap.size 136 3 (.slice av y.recs.length cv) y.recs.length (y.recs.flatMap recV) := ownsRow_setCell_below ho hTw _
  have bT2 : Blk (w1.setCell ⟨T, 20, none⟩ (.bool true)) T 126 (txC D y.s y.j y.i wv nv M y.changed y.broken true) := bT.set_ 20 (.bool true)
  have lT := bT.lt
  have fT := bT.free
  have c20 : w1.cell? ⟨T, 20, none⟩ = some (.bool y.ended) := (bT.cells 20).trans rfl
  obtain ⟨w2, hw2⟩ : ∃ w2, w2 = w1.setCell ⟨T, 20, none⟩ (.bool true) := ⟨_, rfl⟩
  rw [← hw2] at h2 g2 ho2 bT2
  clear hrc h1 bT hb1 ho hE hc h
  by_cases h0 : y.recs = []
  · have HV : Hid (y.commit x = (0, x)) := Lib.hid (by unfold TxS.commit; rw [if_pos h0])
    have hl : y.recs.length = 0 := by rw [h0]; rfl
    rw [hl]
    clear h0
    go_wp2_with fail
    go_ret
    rw [← hw2]
    refine ⟨by rw [HV.out]; rfl, B, by rw [HV.out]; exact h2, g2⟩
  · have HV : Hid (y.commit x = x.commit 1 y.j y.recs) := Lib.hid (by unfold TxS.commit; rw [if_neg h0])
    have hl : ((y.recs.length : Int) == 0) = false := by
      have : y.recs.length ≠ 0 := fun e => h0 (List.eq_nil_of_length_eq_zero e)
      simp; exact h0
    have hAB : ∀ ad, av = some ad → ad.block ∉ B := fun ad e hm => by
      subst e
      have h3 := (own_lt ho2 ad.block rfl).1
      have h4 := (H0.out.dev.lt _ hm).2
      omega
    have HAB := Lib.hid hAB
    have hS : ∀ W : World, Below w2.heap.size w2 W → W.cell? ⟨T, 0, none⟩ = some (.pointer (some ⟨D, 0, none⟩)) := fun W hb => ((bT2.belowAll hb).cells 0).trans rfl
    have HS := Lib.hid hS
    clear h0 hAB hS
    go_wp2_with fail
    rw [← hw2]
    clear hw2 lT fT c20 hl
    refine wp_region_mix [.take 0, .take 1, .take 2, .take 3, .take 4, .take 5, .take 6, .take 7, .take 9, .one 8, .one 10, .one 11] 12 (fun w' => w'.cell? ⟨T, 0, none⟩ = some (.pointer (some ⟨D, 0, none⟩))) (by kernel_rfl) (by kernel_rfl) (fun _ _ _ _ _ h => h) (HS.out _ (Below.refl _ _).drew) ?_
    simp only [List.map_cons, List.map_nil, Ms.fill, List.getD_cons_zero, List.getD_cons_succ]
    iterate 9 (refine mixT_take (by rfl) ?_ (fun w' hw' => ?_) ?_; rotate_left; (focus (go_simp; (try with_reducible rfl))); (try simp only [Act.put, List.setIfInBounds_toArray, List.set_cons_zero, List.set_cons_succ]))
    refine mixT_step (by rfl) fun K hK => ?_
    go_simp
    refine (tjournal_any T 126 _ y.j 1 w2.drew bT2.drew rfl rfl).mono ?_
    rintro e w3 ⟨rfl, hb3⟩
    have B23 : Below w2.heap.size w2 w3 := (Below.refl _ _).drew.trans hb3
    have h3 := h2.below B23
    have ho3 := own_below ho2 B23
    refine hK _ _ (fun _ => HS.out _ B23) ?_
    clear hK K hb3
    refine mixT_step (by rfl) fun K hK => ?_
    go_simp
    refine (commit_dev D 1 y.j B x av cv y.recs HOK.out w3 h3.dev (Reads.of_own3 ho3) HAB.out).mono ?_
    rintro e w4 ⟨rfl, B4, hd4, g4⟩
    have h4 : TxAt w4 T F D y.end_ := h3.tx.grow g4 h3.dis
    have hdis : ∀ b ∈ F, b ∉ B4 := fun b hb => g4.notin (h3.dis b hb) (h3.tx.lt b hb).2
    have hS4 : w4.cell? ⟨T, 0, none⟩ = some (.pointer (some ⟨D, 0, none⟩)) := (World.cell?_of_block (w := w3) (a := ⟨T, 0, none⟩) (g4.keep.block T (by have := B23.size; have := bT2.lt; omega) (h3.dis T hT))).trans (HS.out _ B23)
    have HS4 := Lib.hid hS4
    refine hK _ _ (fun _ => HS4.out) ?_
    clear hK K hS4
    refine mixT_step (by rfl) fun K hK => ?_
    go_simp
    refine hK _ _ (fun _ => HS4.out) ?_
    clear hK K
    refine mixT_nil ?_
    go_wp2_with fail
    go_ret
    refine ⟨by rw [HV.out]; rfl, B4, by rw [HV.out]; exact ⟨h4, hd4, hdis⟩, (g2.trans (Grow.of_below B23 _)).trans ⟨?_, fun b hb => ?_⟩⟩
    · exact KeepEx.widen g4.keep (fun k hk => List.mem_append.2 (.inr hk))
    · rcases List.mem_append.1 hb with hb | hb
      · exact .inl (List.mem_append.2 (.inl hb))
      · exact (g4.new b hb).imp (fun h => List.mem_append.2 (.inr h)) id

end Go.Proofs.YtloddiipepiocaaGreatDoor
