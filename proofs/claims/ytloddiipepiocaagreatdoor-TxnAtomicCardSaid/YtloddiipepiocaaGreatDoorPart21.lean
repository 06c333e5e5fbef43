/- Parts of the proof, put together by program: G2, G5, G6, G7. -/
import Derived.Test.YtloddiipepiocaaGreatDoorPart20
import Derived.Test.YtloddiipepiocaaGreatDoorPart15
set_option linter.unusedVariables false
set_option linter.unusedSimpArgs false
/- Layer 10: journal, bitmap. -/
namespace Go.Proofs.YtloddiipepiocaaGreatDoor
open Go.RowKit Go.Maps

set_option maxRecDepth 100000 in
set_option maxHeartbeats 400000 in
theorem tjournal_any (G : Nat) (t : TypeId) (cs : Array Value) (j J : Int) (w : World) (b : Blk w G t cs) (h2 : cs[2]? = some (.int .i64 j)) (h4 : cs[4]? = some (.int .i64 J)) :
    Calls Tryz.prog 52 #[.pointer (some ⟨G, 0, none⟩)] w fun e w' => e = .returned (.agg #[.int .i64 J, .int .i64 j]) ∧ Below w.heap.size w w' := by
  obtain ⟨W, hW⟩ : ∃ W, W = w.alloc (.cells #[.int .i64 0, .int .i64 0] 101) := ⟨_, rfl⟩
  have bG : Blk W G t cs := by rw [hW]; exact b.alloc _
  have bR : Blk W w.heap.size 101 #[.int .i64 0, .int .i64 0] := by rw [hW]; exact Blk.new _ _ _
  have BW : Below w.heap.size w W := by rw [hW]; (repeat' (first | (with_reducible exact Below.refl _ _) | (with_reducible assumption) | (with_reducible refine Below.alloc ?_ ?_ _) | (with_reducible refine Below.drew ?_) | (with_reducible refine below_drewN' ?_ _) | (with_reducible refine Below.setCell ?_ ?_ _) | (with_reducible exact Nat.le_refl _) | omega | (simp; done) | (simp; omega)))
  have c2 : W.cell? ⟨G, 2, none⟩ = some (.int .i64 j) := (bG.cells 2).trans h2
  have c4 : W.cell? ⟨G, 4, none⟩ = some (.int .i64 J) := (bG.cells 4).trans h4
  have lG := bG.lt
  have cR := bR.cells
  have fR := bR.free
  have lR := bR.lt
  go_enter Tryz.func52, Tryz.ntmps52
  go_wp2_with fail
  rw [← hW]
  clear hW
  refine wp_region_still_tail 11 (by kernel_rfl) (by kernel_rfl) ?_
  simp only [List.take_succ_cons, List.take_zero, List.drop_succ_cons, List.drop_zero]
  change wpStill _ _ W.drew _ _ _
  repeat still_step
  refine wpStill_nil ?_
  change wpList _ _ _ _ _ W.drew
  go_wp2_with fail
  have bR2 := ((bR.set_ 0 (.int .i64 J)).set_ 1 (.int .i64 j)).drew
  have cR2 := bR2.cells
  clear cR fR lR
  refine bodyPost_ret (v := .agg #[.int .i64 J, .int .i64 j]) (by simp [results, Tryz.results52, go_sem, cR2]) rfl ?_
  exact ⟨rfl, ((BW.setCell (p := ⟨w.heap.size, 0, none⟩) (by simp) _).setCell (p := ⟨w.heap.size, 1, none⟩) (by simp) _).drew⟩

/-- The bitmap as a string. -/
def mapS (us : List Bool) : ByteArray := strOfNums (encL us us.length)
theorem mapS_size (us : List Bool) : (mapS us).size = 96 := by unfold mapS; rw [strOfNums_size, encL_length]
set_option maxRecDepth 100000 in
set_option maxHeartbeats 1000000 in
theorem bitmap_any (G : Nat) (t : TypeId) (cs : Array Value) (M : Int) (s j i : Int) (A : Option Addr) (c : Nat) (us : List Bool) (hus : us.length ≤ 1000) (hC : CkE s j i us.length = 0) (w : World) (b : Blk w G t cs) (h5 : cs[5]? = some (.int .i64 M)) (hR : Reads w A (us.map .bool)) :
    Calls Tryz.prog 55 #[.pointer (some ⟨G, 0, none⟩), .agg #[.int .i64 s, .int .i64 j, .int .i64 i, .slice A us.length c]] w fun e w' => e = .returned (.agg #[.int .i64 M, .int .i64 5, .string (mapS us)]) ∧ Below w.heap.size w w' := by
  obtain ⟨W, hW⟩ : ∃ W, W = (w.alloc (.cells #[.int .i64 s, .int .i64 j, .int .i64 i, .slice A us.length c] 53)).alloc (.cells #[.int .i64 0, .int .i64 0, .string ⟨#[]⟩] 136) := ⟨_, rfl⟩
  have bG : Blk W G t cs := by rw [hW]; exact (b.alloc _).alloc _
  have bS : Blk W w.heap.size 53 #[.int .i64 s, .int .i64 j, .int .i64 i, .slice A us.length c] := by rw [hW]; exact (by (repeat' (first | (with_reducible assumption) | exact Blk.new' (by simp) | refine Blk.alloc ?_ _)))
  have bR : Blk W (w.heap.size + 1) 136 #[.int .i64 0, .int .i64 0, .string ⟨#[]⟩] := by rw [hW]; exact (by (repeat' (first | (with_reducible assumption) | exact Blk.new' (by simp) | refine Blk.alloc ?_ _)))
  have BW : Below w.heap.size w W := by rw [hW]; (repeat' (first | (with_reducible exact Below.refl _ _) | (with_reducible assumption) | (with_reducible refine Below.alloc ?_ ?_ _) | (with_reducible refine Below.drew ?_) | (with_reducible refine below_drewN' ?_ _) | (with_reducible refine Below.setCell ?_ ?_ _) | (with_reducible exact Nat.le_refl _) | omega | (simp; done) | (simp; omega)))
  have hen := encode_any s j i A c us hus W (hR.below BW)
  have cS := bS.cells
  have lS := bS.lt
  go_enter Tryz.func55, Tryz.ntmps55
  go_wp2_with fail
  rw [← hW]
  clear hW
  go_wp2_with fail
  refine hen.mono ?_
  rintro e w1 ⟨hb1, he⟩
  obtain ⟨-, g, rfl, hg, hRg⟩ := he.resolve_left (fun h => h.1 hC)
  have bG1 := bG.belowAll hb1
  have bR1 := bR.belowAll hb1
  have B1 := BW.trans (hb1.mono BW.size)
  have hcv := conv_bytes (some ⟨g, 0, none⟩) 96 96 (encL us us.length) (encL_length _ _) w1.drew (hRg.below (Below.refl _ _).drew)
  have HM : Hid (strOfNums (encL us us.length) = mapS us) := Lib.hid rfl
  generalize strOfNums (encL us us.length) = ms at *
  clear hb1 hen cS lS bG bR bS BW hRg
  have c5 : w1.cell? ⟨G, 5, none⟩ = some (.int .i64 M) := (bG1.cells 5).trans h5
  have lG := bG1.lt
  go_wp2_with fail
  refine wp_region_still_tail 8 (by kernel_rfl) (by kernel_rfl) ?_
  simp only [List.take_succ_cons, List.take_zero, List.drop_succ_cons, List.drop_zero]
  change wpStill _ _ w1.drew _ _ _
  repeat still_step
  refine wpStill_nil ?_
  change wpList _ _ _ _ _ w1.drew
  have cR := bR1.cells
  have fR := bR1.free
  have lR := bR1.lt
  go_wp2_with fail
  have bR2 := (((bR1.set_ 0 (.int .i64 M)).set_ 1 (.int .i64 5)).set_ 2 (.string ms)).drew
  have cR2 := bR2.cells
  clear cR fR lR
  refine bodyPost_ret (v := .agg #[.int .i64 M, .int .i64 5, .string ms]) (by simp [results, Tryz.results55, go_sem, cR2]) rfl ?_
  exact ⟨by rw [HM.out], (((B1.setCell (p := ⟨w.heap.size + 1, 0, none⟩) (by simp) _).setCell (p := ⟨w.heap.size + 1, 1, none⟩) (by simp) _).setCell (p := ⟨w.heap.size + 1, 2, none⟩) (by simp) _).drew⟩

end Go.Proofs.YtloddiipepiocaaGreatDoor
/- Layer 10 in plain words: records by their sectors. No program in sight. -/
namespace Go.Proofs.YtloddiipepiocaaGreatDoor
open Go.RowKit Go.Maps

/-- Ascending by their sectors. -/
def Asc (l : List Rec) : Prop := l.Pairwise (fun a b => a.at_ < b.at_)
def insRec : List Rec → Rec → List Rec
  | [], r => [r]
  | x :: t, r => if r.at_ < x.at_ then r :: x :: t else if r.at_ = x.at_ then r :: t else x :: insRec t r
def atRec (l : List Rec) (a : Int) : Option Rec := l.find? (fun r => r.at_ == a)
theorem insRec_at (l : List Rec) (r : Rec) (a : Int) : atRec (insRec l r) a = if r.at_ = a then some r else atRec l a := by
  unfold atRec
  induction l with
  | nil => unfold insRec; by_cases h : r.at_ = a <;> simp [h]
  | cons x t ih =>
    unfold insRec
    by_cases h1 : r.at_ < x.at_
    · rw [if_pos h1]
      by_cases h : r.at_ = a <;> simp [List.find?_cons, h]
    · rw [if_neg h1]
      by_cases h2 : r.at_ = x.at_
      · rw [if_pos h2]
        by_cases h : r.at_ = a
        · simp [List.find?_cons, h]
        · have : ¬ x.at_ = a := by omega
          simp [List.find?_cons, h, this]
      · rw [if_neg h2, List.find?_cons, ih]
        by_cases h : r.at_ = a
        · have e : (x.at_ == a) = false := by simp; omega
          rw [e, if_pos h, if_pos h]
        · rw [if_neg h, if_neg h, List.find?_cons]
theorem insRec_mem {l : List Rec} {r y : Rec} (h : y ∈ insRec l r) : y = r ∨ y ∈ l := by
  induction l with
  | nil => unfold insRec at h; simp at h; exact .inl h
  | cons x t ih =>
    unfold insRec at h
    split at h
    · rcases List.mem_cons.1 h with h | h
      · exact .inl h
      · exact .inr h
    · split at h
      · rcases List.mem_cons.1 h with h | h
        · exact .inl h
        · exact .inr (List.mem_cons_of_mem _ h)
      · rcases List.mem_cons.1 h with h | h
        · exact .inr (by simp [h])
        · rcases ih h with h | h
          · exact .inl h
          · exact .inr (List.mem_cons_of_mem _ h)
theorem insRec_asc {l : List Rec} (h : Asc l) (r : Rec) : Asc (insRec l r) := by
  induction l with
  | nil => exact List.pairwise_singleton _ _
  | cons x t ih =>
    obtain ⟨h1, h2⟩ := List.pairwise_cons.1 h
    unfold insRec
    split
    · rename_i hlt
      exact List.pairwise_cons.2 ⟨fun y hy => by
        rcases List.mem_cons.1 hy with rfl | hy
        · exact hlt
        · exact Int.lt_trans hlt (h1 y hy), h⟩
    · split
      · rename_i heq
        exact List.pairwise_cons.2 ⟨fun y hy => by rw [heq]; exact h1 y hy, h2⟩
      · rename_i n1 n2
        exact List.pairwise_cons.2 ⟨fun y hy => by
          rcases insRec_mem hy with rfl | hy
          · omega
          · exact h1 y hy, ih h2⟩
theorem atRec_mem {l : List Rec} {a : Int} {r : Rec} (h : atRec l a = some r) : r ∈ l ∧ r.at_ = a := by
  have h1 := List.mem_of_find?_eq_some h
  have h2 := List.find?_some h
  exact ⟨h1, by simpa using h2⟩
theorem atRec_none {l : List Rec} {a : Int} (h : atRec l a = none) : ∀ r ∈ l, r.at_ ≠ a := by
  intro r hr e
  have := List.find?_eq_none.1 h r hr
  simp [e] at this
theorem insRec_length {l : List Rec} (h : Asc l) (r : Rec) : (insRec l r).length = if (atRec l r.at_).isSome then l.length else l.length + 1 := by
  induction l with
  | nil => rfl
  | cons x t ih =>
    obtain ⟨h1, h2⟩ := List.pairwise_cons.1 h
    have ih := ih h2
    unfold insRec
    unfold atRec at ih ⊢
    rw [List.find?_cons]
    by_cases n1 : r.at_ < x.at_
    · rw [if_pos n1]
      have e1 : (x.at_ == r.at_) = false := by simp; omega
      have e2 : t.find? (fun y => y.at_ == r.at_) = none := List.find?_eq_none.2 (fun y hy => by have := h1 y hy; simp; omega)
      rw [e1]
      simp only [e2]
      rfl
    · rw [if_neg n1]
      by_cases n2 : r.at_ = x.at_
      · rw [if_pos n2]
        have e1 : (x.at_ == r.at_) = true := by simp [n2]
        rw [e1]; rfl
      · rw [if_neg n2]
        have e1 : (x.at_ == r.at_) = false := by simp; omega
        rw [e1, List.length_cons, ih]
        simp only [List.length_cons]
        split <;> rfl

/-! A record as the element of a map. -/
def recD (r : Rec) : DataW Unit := .agg [.lit (.int .i64 r.at_), .lit (.int .i64 r.kind), .lit (.string r.data.data.toList)]
def recR : Value → Option (DataW Unit × List MemPlace)
  | .agg ⟨[.int .i64 a, .int .i64 k, .string s]⟩ => some (recD ⟨a, k, s⟩, [])
  | _ => none
theorem recR_mk (r : Rec) : recR (.agg (recC r)) = some (recD r, []) := rfl
theorem recD_inj {r s : Rec} (h : recD r = recD s) : r = s := by
  unfold recD at h
  simp only [DataW.agg.injEq, List.cons.injEq, DataW.lit.injEq, Lit.int.injEq, true_and, and_true, Lit.string.injEq] at h
  obtain ⟨h1, h2, h3⟩ := h
  obtain ⟨a, k, d⟩ := r
  obtain ⟨a', k', d'⟩ := s
  simp only at h1 h2 h3
  subst h1 h2
  have : d = d' := by apply ByteArray.ext; exact Array.toList_inj.1 h3
  subst this; rfl
theorem recR_inv {v : Value} {r : Rec} {ps : List MemPlace} (h : recR v = some (recD r, ps)) : v = .agg (recC r) := by
  unfold recR at h
  split at h
  · rename_i a k s
    simp only [Option.some.injEq, Prod.mk.injEq] at h
    have := recD_inj h.1
    subst this; rfl
  · cases h

/-- A map that holds the records of a list. -/
structure RecMap (D : DataW Unit) (l : List Rec) : Prop where
  tidy : Tidy D
  at_ : ∀ a z, D.atKey (.int .i64 a) z = match atRec l a with | some r => recD r | none => z
  has_ : ∀ a, has D (.int .i64 a) = (atRec l a).isSome
  size_ : size D = l.length
  asc : Asc l
theorem RecMap.empty : RecMap (.map []) [] := ⟨tidy_empty, fun _ _ => rfl, fun _ => rfl, rfl, List.Pairwise.nil⟩
theorem RecMap.put {D : DataW Unit} {l : List Rec} (h : RecMap D l) (r : Rec) : RecMap (D.put (.int .i64 r.at_) (recD r)) (insRec l r) := by
  refine ⟨h.tidy.put (show WideAt.IsKeyLit (.int .i64 r.at_) from trivial) _, fun a z => ?_, fun a => ?_, ?_, insRec_asc h.asc r⟩
  · rw [insRec_at]
    by_cases e : r.at_ = a
    · subst e
      rw [if_pos rfl]
      exact atKey_put_same h.tidy.isMap (show WideAt.IsKeyLit (.int .i64 r.at_) from trivial) _ _
    · rw [if_neg e, atKey_put_other (by intro x; cases x; exact e rfl), h.at_]
  · rw [insRec_at]
    by_cases e : r.at_ = a
    · subst e
      rw [if_pos rfl]
      exact has_put_same h.tidy.isMap (show WideAt.IsKeyLit (.int .i64 r.at_) from trivial) _
    · rw [if_neg e, has_put_other (by intro x; cases x; exact e rfl), h.has_]
  · rw [size_put h.tidy, h.has_, h.size_, insRec_length h.asc]

end Go.Proofs.YtloddiipepiocaaGreatDoor
/- Layer 10: Format. -/
namespace Go.Proofs.YtloddiipepiocaaGreatDoor
open Go.RowKit Go.Maps

theorem findE_zero {n s j i : Int} (h : findE n s j i = 0) : rgE s j i = 0 ∧ n = s := by
  unfold findE at h
  by_cases h1 : rgE s j i = 0
  · rw [if_neg (by simpa using h1)] at h
    split at h
    · omega
    · split at h
      · omega
      · exact ⟨h1, by omega⟩
  · rw [if_pos h1] at h; exact absurd h h1
def freeRec (s j i : Int) : Rec := ⟨1 + j, 5, mapS (List.replicate (rgB s j i).toNat false)⟩
def DevS.tfmt (x : DevS) (s j i : Int) : Int × DevS :=
  if findE x.stable.length s j i ≠ 0 then (findE x.stable.length s j i, x) else if (x.jfmt 1 j).1 ≠ 0 then x.jfmt 1 j else (x.jfmt 1 j).2.commit 1 j [freeRec s j i]
theorem ckE_rgB {s j i : Int} (h : rgE s j i = 0) : CkE s j i (rgB s j i).toNat = 0 := by
  unfold CkE
  have := rgB_bds s j i
  rw [if_pos h, if_pos (by omega)]

set_option maxRecDepth 100000 in
set_option maxHeartbeats 2000000 in
theorem tformat_dev (D : Nat) (s j i : Int) (B : List Nat) (x : DevS) (w : World) (h : DevAt w D B x) :
    Calls Tryz.prog 14 #[.pointer (some ⟨D, 0, none⟩), .agg #[.int .i64 s, .int .i64 j, .int .i64 i]] w (DevDid w D B (x.tfmt s j i)) := by
  obtain ⟨wA, hA⟩ : ∃ wA, wA = w.alloc (.cells #[.int .i64 s, .int .i64 j, .int .i64 i] 23) := ⟨_, rfl⟩
  have bL : Blk wA w.heap.size 23 #[.int .i64 s, .int .i64 j, .int .i64 i] := by rw [hA]; exact (by (repeat' (first | (with_reducible assumption) | exact Blk.new' (by simp) | refine Blk.alloc ?_ _)))
  have BA : Below w.heap.size w wA := by rw [hA]; (repeat' (first | (with_reducible exact Below.refl _ _) | (with_reducible assumption) | (with_reducible refine Below.alloc ?_ ?_ _) | (with_reducible refine Below.drew ?_) | (with_reducible refine below_drewN' ?_ _) | (with_reducible refine Below.setCell ?_ ?_ _) | (with_reducible exact Nat.le_refl _) | omega | (simp; done) | (simp; omega)))
  have hfi := find_dev D s j i B x wA (h.below BA)
  have HT := show x.tfmt s j i = if findE x.stable.length s j i ≠ 0 then (findE x.stable.length s j i, x) else if (x.jfmt 1 j).1 ≠ 0 then x.jfmt 1 j else (x.jfmt 1 j).2.commit 1 j [freeRec s j i] from rfl
  have HT0 := Lib.hid HT
  have cL := bL.cells
  have lL := bL.lt
  clear HT
  unfold DevDid
  by_cases hE : findE x.stable.length s j i = 0
  rotate_left
  · have HL : Hid (x.tfmt s j i = (findE x.stable.length s j i, x)) := Lib.hid (by rw [HT0.out, if_pos hE])
    have hv : findV D x.stable.length s j i = PV none 0 0 0 0 0 0 0 0 := by unfold findV; rw [if_neg hE]; rfl
    rw [hv] at hfi
    generalize findE x.stable.length s j i = E at *
    have hE' : (E != 0) = true := by simpa using hE
    clear hE hv HT0
    go_enter Tryz.func14, Tryz.ntmps14
    go_wp2_with fail
    rw [← hA]
    go_wp2_with fail
    refine hfi.mono ?_
    rintro e w1 ⟨rfl, hb1⟩
    have B1 := BA.trans (hb1.mono BA.size)
    clear hA
    go_wp2_with fail
    go_ret
    exact ⟨by rw [HL.out]; rfl, B, by rw [HL.out]; exact (h.below B1).alloc _, Grow.of_below (B1.alloc B1.size _) B⟩
  obtain ⟨hrg, hns⟩ := findE_zero hE
  have hbd := rg_bds hrg
  obtain ⟨r1, r2, r3, r4, r5⟩ := rg_ok hrg
  have hv : findV D x.stable.length s j i = PV (some ⟨D, 0, none⟩) s j i 1 (1 + j) (2 + j) (2 + j + i) (s - (2 + j + i)) := by unfold findV placeR; rw [if_pos hE, r1, r2, r3, r4, r5]; rfl
  rw [hv, hE] at hfi
  have hck := ckE_rgB hrg
  have hnew := fun W => new_any s j i W
  have HT1 : Hid (x.tfmt s j i = if (x.jfmt 1 j).1 ≠ 0 then x.jfmt 1 j else (x.jfmt 1 j).2.commit 1 j [freeRec s j i]) := Lib.hid (by rw [HT0.out, if_neg (by rw [hE]; simp)])
  obtain ⟨nb, hnb⟩ : ∃ nb, (rgB s j i).toNat = nb := ⟨_, rfl⟩
  have hnb2 : (nb : Int) = s - (2 + j + i) := by omega
  have HFR : Hid (freeRec s j i = ⟨1 + j, 5, mapS (List.replicate nb false)⟩) := Lib.hid (by unfold freeRec; rw [hnb])
  rw [hnb] at hck
  have HNB := Lib.hid hnb
  have HCK := Lib.hid hck
  have HRG := Lib.hid hrg
  clear hE hv HT0 r1 r2 r3 r4 r5 hrg hnb hck
  go_enter Tryz.func14, Tryz.ntmps14
  go_wp2_with fail
  rw [← hA]
  go_wp2_with fail
  refine hfi.mono ?_
  rintro e w1 ⟨rfl, hb1⟩
  have B1 := BA.trans (hb1.mono BA.size)
  have bL1 := bL.belowAll hb1
  clear hA hb1 cL lL bL BA hfi
  obtain ⟨PB, hPB⟩ : ∃ PB, PB = w1.heap.size := ⟨_, rfl⟩
  obtain ⟨w2, hw2⟩ : ∃ w2, w2 = w1.alloc (.cells (PV (some ⟨D, 0, none⟩) s j i 1 (1 + j) (2 + j) (2 + j + i) (s - (2 + j + i))) 117) := ⟨_, rfl⟩
  have bP2 : Blk w2 PB 117 (PV (some ⟨D, 0, none⟩) s j i 1 (1 + j) (2 + j) (2 + j + i) (s - (2 + j + i))) := by rw [hw2, hPB]; exact Blk.new _ _ _
  have bL2 : Blk w2 w.heap.size 23 #[.int .i64 s, .int .i64 j, .int .i64 i] := by rw [hw2]; exact bL1.alloc _
  have B2 : Below w.heap.size w w2 := by rw [hw2]; exact B1.alloc B1.size _
  have hPB2 : w.heap.size ≤ PB := by rw [hPB]; exact B1.size
  go_wp2_with fail
  rw [← hw2, ← hPB]
  clear hw2 hPB bL1 B1
  refine (tjournal_any PB _ _ j 1 w2 bP2 rfl rfl).mono ?_
  rintro e w3 ⟨rfl, hb3⟩
  have bP3 := bP2.belowAll hb3
  have bL3 := bL2.belowAll hb3
  have B3 := B2.trans (hb3.mono B2.size)
  clear bP2 bL2 B2 hb3
  go_wp2_with fail
  refine (jformat_any D 1 j B x w3 (h.below B3)).mono ?_
  unfold DevDid
  rintro e w4 ⟨rfl, B4, hd4, hg4⟩
  obtain ⟨p, hp⟩ : ∃ p, x.jfmt 1 j = p := ⟨_, rfl⟩
  rw [hp] at hd4 HT1 ⊢
  have nP : PB ∉ B := h.far hPB2
  have nL : w.heap.size ∉ B := h.far (Nat.le_refl _)
  have bP4 := hg4.blk bP3 nP
  have bL4 := hg4.blk bL3 nL
  have gw4 := (Grow.of_below B3 B).trans hg4
  have nP4 := hg4.notin nP bP3.lt
  have nL4 := hg4.notin nL bL3.lt
  clear hp bP3 bL3 nP nL hg4 B3
  by_cases hE : p.1 = 0
  rotate_left
  · have HL : Hid (x.tfmt s j i = p) := Lib.hid (by rw [HT1.out, if_pos hE])
    have hE' : (p.1 != 0) = true := by simpa using hE
    clear hE HT1
    go_wp2_with fail
    go_ret
    exact ⟨by rw [HL.out]; rfl, B4, by rw [HL.out]; exact hd4, gw4⟩
  have HL : Hid (x.tfmt s j i = p.2.commit 1 j [⟨1 + j, 5, mapS (List.replicate nb false)⟩]) := Lib.hid (by rw [HT1.out, if_neg (by rw [hE]; simp), HFR.out])
  have hE' : (p.1 != 0) = false := by simpa using hE
  clear hE HT1 HFR
  have cL4 := bL4.cells
  have lL4 := bL4.lt
  go_wp2_with fail
  refine (hnew w4).mono ?_
  rintro e w5 ⟨hb5, he⟩
  obtain ⟨-, us, rfl, hus, hcells⟩ := he.resolve_left (fun hh => hh.1 HRG.out)
  rw [HNB.out] at hcells ⊢
  obtain ⟨SB, hSB⟩ : ∃ SB, SB = w5.heap.size := ⟨_, rfl⟩
  obtain ⟨w6, hw6⟩ : ∃ w6, w6 = w5.alloc (.cells #[.int .i64 s, .int .i64 j, .int .i64 i, .slice (some ⟨us, 0, none⟩) nb nb] 53) := ⟨_, rfl⟩
  have bS6 : Blk w6 SB 53 #[.int .i64 s, .int .i64 j, .int .i64 i, .slice (some ⟨us, 0, none⟩) nb nb] := by rw [hw6, hSB]; exact Blk.new _ _ _
  have B56 : Below w5.heap.size w5 w6 := by rw [hw6]; exact (Below.refl _ _).alloc (Nat.le_refl _) _
  have z45 := hb5.size
  have B46 : Below w4.heap.size w4 w6 := hb5.trans (B56.mono z45)
  have bP6 := bP4.belowAll B46
  have hR6 : Reads w6 (some ⟨us, 0, none⟩) ((List.replicate nb false).map .bool) := by
    have b : Blk w5 us 4 (boolsV (List.replicate nb false)) := by rw [boolsV_rep]; exact hcells
    refine Reads.below (.inr ⟨us, 0, rfl, b.lt, fun k u hu => ?_⟩) B56
    rw [Nat.zero_add, b.cells]
    show (((List.replicate nb false).map Value.bool).toArray)[k]? = some u
    rw [List.getElem?_toArray]; exact hu
  have hd6 := hd4.below B46
  have hSBl : w4.heap.size ≤ SB := by rw [hSB]; exact z45
  have nS6 : SB ∉ B4 := hd4.far hSBl
  go_wp2_with fail
  rw [← hw6, ← hSB]
  clear hw6 hSB hcells B56 hb5 z45 cL4 lL4 bP4
  have hS0 : w6.cell? ⟨SB, 0, none⟩ = some (.int .i64 s) ∧ w6.cell? ⟨SB, 1, none⟩ = some (.int .i64 j) ∧ w6.cell? ⟨SB, 2, none⟩ = some (.int .i64 i) ∧ w6.cell? ⟨SB, 3, none⟩ = some (.slice (some ⟨us, 0, none⟩) nb nb) := ⟨by rw [bS6.cells]; rfl, by rw [bS6.cells]; rfl, by rw [bS6.cells]; rfl, by rw [bS6.cells]; rfl⟩
  have hSk : ∀ W, Blk W SB 53 #[.int .i64 s, .int .i64 j, .int .i64 i, .slice (some ⟨us, 0, none⟩) nb nb] → W.cell? ⟨SB, 0, none⟩ = some (.int .i64 s) ∧ W.cell? ⟨SB, 1, none⟩ = some (.int .i64 j) ∧ W.cell? ⟨SB, 2, none⟩ = some (.int .i64 i) ∧ W.cell? ⟨SB, 3, none⟩ = some (.slice (some ⟨us, 0, none⟩) nb nb) := fun W b => ⟨by rw [b.cells]; rfl, by rw [b.cells]; rfl, by rw [b.cells]; rfl, by rw [b.cells]; rfl⟩
  refine wp_region_mix [.take 0, .take 2, .one 1, .one 3, .one 4, .one 5, .one 6] 7 (fun w' => w'.cell? ⟨SB, 0, none⟩ = some (.int .i64 s) ∧ w'.cell? ⟨SB, 1, none⟩ = some (.int .i64 j) ∧ w'.cell? ⟨SB, 2, none⟩ = some (.int .i64 i) ∧ w'.cell? ⟨SB, 3, none⟩ = some (.slice (some ⟨us, 0, none⟩) nb nb)) (by kernel_rfl) (by kernel_rfl) (fun _ _ _ _ _ h => h) hS0 ?_
  simp only [List.map_cons, List.map_nil, Ms.fill, List.getD_cons_zero, List.getD_cons_succ]
  iterate 2 (refine mixT_take (by rfl) ?_ (fun w' hw' => ?_) ?_; rotate_left; (focus (go_simp; (try with_reducible rfl))); (try simp only [Act.put, List.setIfInBounds_toArray, List.set_cons_zero, List.set_cons_succ]))
  refine mixT_step (by rfl) fun K hK => ?_
  go_simp
  refine (tjournal_any PB _ _ j 1 w6.drew bP6.drew rfl rfl).mono ?_
  rintro e w7 ⟨rfl, hb7⟩
  have B67 : Below w6.heap.size w6 w7 := (Below.refl _ _).drew.trans hb7
  have bP7 := bP6.belowAll B67
  have bS7 := bS6.belowAll B67
  have hR7 := hR6.below B67
  have B47 : Below w4.heap.size w4 w7 := B46.trans (B67.mono B46.size)
  refine hK _ _ (fun _ => hSk _ bS7) ?_
  clear hK K hb7 B67 bP6 bS6 hR6 B46 hS0 hd6
  refine mixT_step (by rfl) fun K hK => ?_
  go_simp
  have hbm := bitmap_any PB _ _ (1 + j) s j i (some ⟨us, 0, none⟩) nb (List.replicate nb false) (by rw [List.length_replicate]; omega) (by rw [List.length_replicate]; exact HCK.out) w7 bP7 rfl hR7
  rw [List.length_replicate] at hbm
  refine hbm.mono ?_
  rintro e w8 ⟨rfl, hb8⟩
  have bS8 := bS7.belowAll hb8
  have B48 : Below w4.heap.size w4 w8 := B47.trans (hb8.mono B47.size)
  refine hK _ _ (fun _ => hSk _ bS8) ?_
  clear hK K hbm hb8 bP7 bS7 hR7 B47
  have hms := mapS_size (List.replicate nb false)
  generalize mapS (List.replicate nb false) = ms at *
  obtain ⟨w9, hw9⟩ : ∃ w9, w9 = w8.alloc (.cells #[.int .i64 (1 + j), .int .i64 5, .string ms] 136) := ⟨_, rfl⟩
  have bN9 : Blk w9 w8.heap.size 136 #[.int .i64 (1 + j), .int .i64 5, .string ms] := by rw [hw9]; exact Blk.new _ _ _
  have B89 : Below w8.heap.size w8 w9 := by rw [hw9]; exact (Below.refl _ _).alloc (Nat.le_refl _) _
  have bS9 := bS8.belowAll B89
  have B49 : Below w4.heap.size w4 w9 := B48.trans (B89.mono B48.size)
  refine mixT_step (by rfl) fun K hK => ?_
  go_simp
  rw [← hw9]
  refine hK _ _ (fun _ => hSk _ bS9) ?_
  have z8 := B48.size
  clear hK K hw9 bS8 B89 B48
  have hcm := commit_dev D 1 j B4 p.2 (some ⟨w8.heap.size, 0, none⟩) 1 [⟨1 + j, 5, ms⟩] ⟨by simp, fun r hr => by
    have e : r = ⟨1 + j, 5, ms⟩ := by simpa using hr
    subst e
    exact ⟨by simp only; omega, by simp only [maxLen]; omega⟩⟩ w9 (hd4.below B49) (.inr ⟨w8.heap.size, 0, rfl, bN9.lt, fun k u hu => by
      rw [Nat.zero_add, bN9.cells]
      simpa [recV] using hu⟩) (fun ad e => by cases e; exact hd4.far z8)
  unfold DevDid at hcm
  refine mixT_step (by rfl) fun K hK => ?_
  go_simp
  refine hcm.mono ?_
  rintro e w10 ⟨rfl, B10, hd10, hg10⟩
  have bS10 := hg10.blk bS9 nS6
  refine hK _ _ (fun _ => hSk _ bS10) ?_
  clear hK K hcm
  refine mixT_step (by rfl) fun K hK => ?_
  go_simp
  refine hK _ _ (fun _ => hSk _ bS10) ?_
  clear hK K
  refine mixT_nil ?_
  go_wp2_with fail
  go_ret
  rw [HL.out]
  exact ⟨rfl, B10, hd10, (gw4.trans (Grow.of_below B49 B4)).trans hg10⟩

end Go.Proofs.YtloddiipepiocaaGreatDoor
/- Layer 10: a transaction in plain words, and the blocks that hold it; its state, and what is left. -/
namespace Go.Proofs.YtloddiipepiocaaGreatDoor
open Go.RowKit Go.Maps

/-- A transaction's state in plain words. -/
structure TxS where
  s : Int
  j : Int
  i : Int
  was : List Bool
  now : List Bool
  writes : List Rec
  changed : Bool
  broken : Bool
  ended : Bool

def TxS.most (y : TxS) : Int := min (y.j - 2) 80
def TxS.left (y : TxS) : Int := y.most - y.writes.length - (if y.changed then 1 else 0)
def TxS.stateE (y : TxS) : Int := if y.broken || y.ended then 9 else 0
structure TxS.Ok (y : TxS) : Prop where
  rg : rgE y.s y.j y.i = 0
  was : y.was.length = (rgB y.s y.j y.i).toNat
  now : y.now.length = (rgB y.s y.j y.i).toNat
  recs : ∀ r ∈ y.writes, 0 ≤ r.at_ ∧ r.at_ < y.s ∧ 1 ≤ r.kind ∧ r.kind ≤ 255 ∧ r.data.data.size ≤ 112
  len : 0 ≤ y.left

abbrev txC (D : Nat) (s j i : Int) (wv nv : Value) (M : Nat) (ch br en : Bool) : Array Value :=
  #[.pointer (some ⟨D, 0, none⟩), .int .i64 s, .int .i64 j, .int .i64 i, .int .i64 1, .int .i64 (1 + j), .int .i64 (2 + j), .int .i64 (2 + j + i), .int .i64 (s - (2 + j + i)), .int .i64 s, .int .i64 j, .int .i64 i, wv, .int .i64 s, .int .i64 j, .int .i64 i, nv, .map (some M), .bool ch, .bool br, .bool en]

/-- A slice that reads as a list of bits, in a block of F other than T and M. -/
def SlB (w : World) (F : List Nat) (T M : Nat) (v : Value) (l : List Bool) : Prop :=
  ∃ A c, v = .slice A l.length c ∧ Reads w A (l.map .bool) ∧ ∀ a, A = some a → a.block ∈ F ∧ a.block ≠ T ∧ a.block ≠ M
theorem SlB.mono {w : World} {F F' : List Nat} {T M : Nat} {v : Value} {l : List Bool} (h : SlB w F T M v l) (hF : ∀ b ∈ F, b ∈ F') : SlB w F' T M v l := by
  obtain ⟨A, c, h1, h2, h3⟩ := h
  exact ⟨A, c, h1, h2, fun a ha => ⟨hF _ (h3 a ha).1, (h3 a ha).2⟩⟩

/-- The records that a map block holds. -/
def RecsAt (w : World) (M : Nat) (l : List Rec) : Prop := ∃ E, RecMap E l ∧ w.ownsMap Tryz.prog 3 recR M l.length E

/-- Block T holds a transaction on the device in block D; it lies in the blocks of F. -/
structure TxAt (w : World) (T : Nat) (F : List Nat) (D : Nat) (y : TxS) : Prop where
  ok : y.Ok
  mem : ∃ M wv nv, Blk w T 126 (txC D y.s y.j y.i wv nv M y.changed y.broken y.ended) ∧ T ∈ F ∧ M ∈ F ∧ M ≠ T ∧ RecsAt w M y.writes ∧ SlB w F T M wv y.was ∧ SlB w F T M nv y.now
  lt : ∀ b ∈ F, 0 < b ∧ b < w.heap.size

theorem TxAt.frame {w w' : World} {T : Nat} {F : List Nat} {D : Nat} {y : TxS} (h : TxAt w T F D y) (hb : ∀ b ∈ F, w'.heap[b]? = w.heap[b]?) (hs : w.heap.size ≤ w'.heap.size) : TxAt w' T F D y := by
  obtain ⟨ok, ⟨M, wv, nv, bT, hT, hM, hMT, ⟨E, hE, hO⟩, hw, hn⟩, lt⟩ := h
  have sl : ∀ v l, SlB w F T M v l → SlB w' F T M v l := by
    rintro v l ⟨A, c, h1, h2, h3⟩
    refine ⟨A, c, h1, ?_, h3⟩
    rcases h2 with h2 | ⟨b, off, rfl, hl, hc⟩
    · exact .inl h2
    · have hbF := (h3 _ rfl).1
      exact .inr ⟨b, off, rfl, Nat.lt_of_lt_of_le hl hs, fun k u hu => (World.cell?_of_block (w := w) (a := ⟨b, off + k, none⟩) (hb b hbF)).trans (hc k u hu)⟩
  exact ⟨ok, ⟨M, wv, nv, (hb T hT).trans bT, hT, hM, hMT, ⟨E, hE, map_block hO (hb M hM)⟩, sl _ _ hw, sl _ _ hn⟩, fun b hm => ⟨(lt b hm).1, Nat.lt_of_lt_of_le (lt b hm).2 hs⟩⟩
theorem TxAt.below {w w' : World} {T : Nat} {F : List Nat} {D : Nat} {y : TxS} (h : TxAt w T F D y) (hb : Below w.heap.size w w') : TxAt w' T F D y :=
  h.frame (fun b hm => hb.block b (h.lt b hm).2) hb.size
theorem TxAt.alloc {w : World} {T : Nat} {F : List Nat} {D : Nat} {y : TxS} (h : TxAt w T F D y) (o : Obj) : TxAt (w.alloc o) T F D y := h.below ((Below.refl _ _).alloc (Nat.le_refl _) _)
theorem TxAt.drew {w : World} {T : Nat} {F : List Nat} {D : Nat} {y : TxS} (h : TxAt w T F D y) : TxAt w.drew T F D y := h.below (Below.refl _ _).drew
theorem TxAt.set_ {w : World} {T : Nat} {F : List Nat} {D : Nat} {y : TxS} (h : TxAt w T F D y) {p : Addr} (hp : p.block ∉ F) (u : Value) : TxAt (w.setCell p u) T F D y :=
  h.frame (fun b hm => Below.heap_setCell w p u b (fun e => by subst e; exact hp hm)) (by simp)
theorem TxAt.row {w : World} {T : Nat} {F : List Nat} {D : Nat} {y : TxS} (h : TxAt w T F D y) {g : Nat} (hp : g ∉ F) (cs : Array Value) : TxAt (w.setRow g cs) T F D y :=
  h.frame (fun b hm => setRow_other w g b cs (fun e => by subst e; exact hp hm)) (by simp)
theorem TxAt.far {w : World} {T : Nat} {F : List Nat} {D : Nat} {y : TxS} (h : TxAt w T F D y) {g : Nat} (hg : w.heap.size ≤ g) : g ∉ F := fun hm => by have := (h.lt g hm).2; omega
theorem TxAt.grow {w w' : World} {T : Nat} {F B B' : List Nat} {D : Nat} {y : TxS} (h : TxAt w T F D y) (g : Grow w B w' B') (hn : ∀ b ∈ F, b ∉ B) : TxAt w' T F D y :=
  h.frame (fun b hm => g.keep.block b (h.lt b hm).2 (hn b hm)) g.keep.size
theorem DevAt.grow {w w' : World} {D : Nat} {B F F' : List Nat} {x : DevS} (h : DevAt w D B x) (g : Grow w F w' F') (hn : ∀ b ∈ F, b ∉ B) (h0 : 0 ∉ F) : DevAt w' D B x :=
  h.frame (fun b hm => g.keep.block b (by rcases hm with hm | rfl; exact (h.lt b hm).2; exact h.half.1) (fun hf => by rcases hm with hm | rfl; exact hn b hf hm; exact h0 hf)) g.keep.size

/-- What state says. -/
def StE (w : World) (tv : Value) (E : Int) : Prop :=
  (tv = .pointer none ∧ E = 1) ∨ (∃ T cs, tv = .pointer (some ⟨T, 0, none⟩) ∧ Blk w T 126 cs ∧ ((E = 1 ∧ cs[17]? = some (.map none)) ∨ (∃ M br en, cs[17]? = some (.map (some M)) ∧ cs[19]? = some (.bool br) ∧ cs[20]? = some (.bool en) ∧ E = if br || en then 9 else 0)))
theorem TxAt.st {w : World} {T : Nat} {F : List Nat} {D : Nat} {y : TxS} (h : TxAt w T F D y) : StE w (.pointer (some ⟨T, 0, none⟩)) y.stateE := by
  obtain ⟨ok, ⟨M, wv, nv, bT, -⟩, lt⟩ := h
  exact .inr ⟨T, _, rfl, bT, .inr ⟨M, y.broken, y.ended, rfl, rfl, rfl, rfl⟩⟩

theorem StE.below {w w' : World} {tv : Value} {E : Int} (h : StE w tv E) (hb : Below w.heap.size w w') : StE w' tv E := by
  rcases h with h | ⟨T, cs, h1, bT, h⟩
  · exact .inl h
  · exact .inr ⟨T, cs, h1, bT.belowAll hb, h⟩

set_option maxRecDepth 100000 in
set_option maxHeartbeats 1000000 in
theorem state_any (tv : Value) (E : Int) (w : World) (h : StE w tv E) :
    Calls Tryz.prog 110 #[tv] w fun e w' => e = .returned (.int .i64 E) ∧ Below w.heap.size w w' := by
  have qT : ∀ (w : World) (r : Option Nat), (binOp .eql 124 (.map r) (.map none)).run Tryz.prog w = .ok (.bool r.isNone) w := fun w r => run_eql_map_nil w _ _ _ r Tryz.underlying124
  rcases h with ⟨rfl, rfl⟩ | ⟨T, cs, rfl, bT, h⟩
  · go_enter Tryz.func110, Tryz.ntmps110
    go_wp2_with fail
    go_ret
    exact ⟨rfl, by (repeat' (first | (with_reducible exact Below.refl _ _) | (with_reducible assumption) | (with_reducible refine Below.alloc ?_ ?_ _) | (with_reducible refine Below.drew ?_) | (with_reducible refine below_drewN' ?_ _) | (with_reducible refine Below.setCell ?_ ?_ _) | (with_reducible exact Nat.le_refl _) | omega | (simp; done) | (simp; omega)))⟩
  · have cT := bT.cells
    have lT := bT.lt
    rcases h with ⟨rfl, h17⟩ | ⟨M, br, en, h17, h19, h20, rfl⟩
    · have c17 : w.cell? ⟨T, 17, none⟩ = some (.map none) := (cT 17).trans h17
      clear cT h17 bT
      go_enter Tryz.func110, Tryz.ntmps110
      go_wp2_with fail
      go_ret
      exact ⟨rfl, by (repeat' (first | (with_reducible exact Below.refl _ _) | (with_reducible assumption) | (with_reducible refine Below.alloc ?_ ?_ _) | (with_reducible refine Below.drew ?_) | (with_reducible refine below_drewN' ?_ _) | (with_reducible refine Below.setCell ?_ ?_ _) | (with_reducible exact Nat.le_refl _) | omega | (simp; done) | (simp; omega)))⟩
    · have c17 : w.cell? ⟨T, 17, none⟩ = some (.map (some M)) := (cT 17).trans h17
      have c19 : w.cell? ⟨T, 19, none⟩ = some (.bool br) := (cT 19).trans h19
      have c20 : w.cell? ⟨T, 20, none⟩ = some (.bool en) := (cT 20).trans h20
      clear cT h17 h19 h20 bT
      cases br <;> cases en
      all_goals
        go_enter Tryz.func110, Tryz.ntmps110
        go_wp2_with fail
        go_ret
        exact ⟨rfl, by (repeat' (first | (with_reducible exact Below.refl _ _) | (with_reducible assumption) | (with_reducible refine Below.alloc ?_ ?_ _) | (with_reducible refine Below.drew ?_) | (with_reducible refine below_drewN' ?_ _) | (with_reducible refine Below.setCell ?_ ?_ _) | (with_reducible exact Nat.le_refl _) | omega | (simp; done) | (simp; omega)))⟩

end Go.Proofs.YtloddiipepiocaaGreatDoor
