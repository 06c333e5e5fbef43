/- Parts of the proof, put together by program: G8, G9, H0, H1. -/
import Derived.Test.YtloddiipepiocaaGreatDoorPart21
import Derived.Test.YtloddiipepiocaaGreatDoorPart10
import Derived.Laws.IdiomStrings
set_option linter.unusedVariables false
set_option linter.unusedSimpArgs false
/- Layer 10: what is left; the blocks. -/
namespace Go.Proofs.YtloddiipepiocaaGreatDoor
open Go.RowKit Go.Maps

theorem TxS.Ok.bds {y : TxS} (h : y.Ok) : 64 ≤ y.s ∧ y.s ≤ 256 ∧ 8 ≤ y.j ∧ y.j ≤ 96 ∧ 1 ≤ y.i ∧ y.i ≤ 60 ∧ 8 ≤ y.s - (2 + y.j + y.i) ∧ (y.was.length : Int) = y.s - (2 + y.j + y.i) ∧ (y.now.length : Int) = y.s - (2 + y.j + y.i) := by
  have h1 := rg_bds h.rg
  have h2 : rgB y.s y.j y.i = y.s - (2 + y.j + y.i) := (rg_ok h.rg).2.2.2.2
  have h3 := h.was
  have h4 := h.now
  omega
theorem TxS.Ok.left_bds {y : TxS} (h : y.Ok) : 0 ≤ y.left ∧ y.left ≤ 80 ∧ (y.writes.length : Int) ≤ 80 := by
  have h1 := h.len
  have h2 := h.bds
  have e : y.left = min (y.j - 2) 80 - y.writes.length - (if y.changed then 1 else 0) := rfl
  cases hc : y.changed
  · rw [hc, if_neg (by simp)] at e; omega
  · rw [hc, if_pos rfl] at e; omega

set_option maxRecDepth 100000 in
set_option maxHeartbeats 1000000 in
theorem left_any (T : Nat) (F : List Nat) (D : Nat) (y : TxS) (w : World) (h : TxAt w T F D y) :
    Calls Tryz.prog 113 #[.pointer (some ⟨T, 0, none⟩)] w fun e w' => e = .returned (.int .i64 y.left) ∧ Below w.heap.size w w' := by
  have hb := h.ok.bds
  have hl := h.ok.left_bds
  have hlf : y.left = min (y.j - 2) 80 - y.writes.length - (if y.changed then 1 else 0) := rfl
  obtain ⟨ok, ⟨M, wv, nv, bT, hT, hM, hMT, ⟨E, hE, hO⟩, hw, hn⟩, lt⟩ := h
  have cT := bT.cells
  have lT := bT.lt
  have c2 : w.cell? ⟨T, 2, none⟩ = some (.int .i64 y.j) := (cT 2).trans rfl
  have c17 : w.cell? ⟨T, 17, none⟩ = some (.map (some M)) := (cT 17).trans rfl
  have c18 : w.cell? ⟨T, 18, none⟩ = some (.bool y.changed) := (cT 18).trans rfl
  have hln := fun (n : Nat) ty => World.ownsMap.len (w := w.drewN n) (map_block hO (by simp)) Tryz.underlying124 ty
  have hszE := hE.size_
  simp only [hszE] at hln
  clear cT bT ok hw hn hE hszE hO
  have hj1 : IntKind.i64.wrap (y.j - 2) = y.j - 2 := by rw [IntKind.wrap_i64]; omega
  generalize hm : min (y.j - 2) 80 = m at *
  go_enter Tryz.func113, Tryz.ntmps113
  go_wp2_with fail
  have hj2 : IntKind.i64.wrap (m - y.writes.length) = m - y.writes.length := by rw [IntKind.wrap_i64]; omega
  go_quiet (fail)
  cases hch : y.changed
  · rw [hch] at c18 hlf
    rw [if_neg (by simp)] at hlf
    go_wp2_with fail
    go_ret
    exact ⟨by rw [hlf, Int.sub_zero]; rfl, by (repeat' (first | (with_reducible exact Below.refl _ _) | (with_reducible assumption) | (with_reducible refine Below.alloc ?_ ?_ _) | (with_reducible refine Below.drew ?_) | (with_reducible refine below_drewN' ?_ _) | (with_reducible refine Below.setCell ?_ ?_ _) | (with_reducible exact Nat.le_refl _) | omega | (simp; done) | (simp; omega)))⟩
  · rw [hch] at c18 hlf
    rw [if_pos rfl] at hlf
    have hj3 : IntKind.i64.wrap (m - y.writes.length - 1) = m - y.writes.length - 1 := by rw [IntKind.wrap_i64]; omega
    go_wp2_with fail
    go_ret
    exact ⟨by rw [hlf]; rfl, by (repeat' (first | (with_reducible exact Below.refl _ _) | (with_reducible assumption) | (with_reducible refine Below.alloc ?_ ?_ _) | (with_reducible refine Below.drew ?_) | (with_reducible refine below_drewN' ?_ _) | (with_reducible refine Below.setCell ?_ ?_ _) | (with_reducible exact Nat.le_refl _) | omega | (simp; done) | (simp; omega)))⟩

end Go.Proofs.YtloddiipepiocaaGreatDoor
/- Layer 10: Blocks. -/
namespace Go.Proofs.YtloddiipepiocaaGreatDoor
open Go.RowKit Go.Maps

theorem op_storeBy {P : Program} {o : Oper} {a : Act} {w w' : World} {K : Act → World → Prop} {Q : Exit → Act → World → Prop} (ty : TypeId) (x y : Operand) (ho : o.op = .store ty x y) (p v : Value)
    (hx : a.eval x = p) (hy : a.eval y = v) (hrun : (Instr.storeAt ty p v).run P w = .ok () w') (h : K (a.put o.dst undef) w') : o.wp P a w K Q := by
  unfold Oper.wp execOp
  simp only [ho, hx, hy, Sem.run_bind, Sem.run_pure, Result.andThen_ok, hrun]
  exact h
theorem own_lower {w : World} {base base' : Nat} {e : TypeId} {size : Nat} {v : Value} {n : Nat} {xs : List Value} (h : w.ownsRow base e size v n xs) (hb : base' ≤ base) : w.ownsRow base' e size v n xs :=
  ⟨h.1, h.2.imp id fun ⟨g, cap, cur, h1, h2, h3⟩ => ⟨g, cap, cur, h1, Nat.le_trans hb h2, h3⟩⟩
theorem Reads.some_ {w : World} {A : Option Addr} {xs : List Value} (h : Reads w A xs) (hn : 0 < xs.length) : A ≠ none := by
  rcases h with rfl | ⟨b, off, rfl, -⟩
  · simp at hn
  · simp

set_option maxRecDepth 100000 in
set_option maxHeartbeats 1000000 in
theorem blocks_bad (tv : Value) (E : Int) (w : World) (h : StE w tv E) (hE : E ≠ 0) :
    Calls Tryz.prog 76 #[tv] w fun e w' => e = .returned (.tuple #[.agg #[.int .i64 0, .int .i64 0, .int .i64 0, .slice none 0 0], .int .i64 E]) ∧ Below w.heap.size w w' := by
  obtain ⟨wA, hA⟩ : ∃ wA, wA = w.alloc (.cells #[.int .i64 0, .int .i64 0, .int .i64 0, .slice none 0 0] 53) := ⟨_, rfl⟩
  have bR : Blk wA w.heap.size 53 #[.int .i64 0, .int .i64 0, .int .i64 0, .slice none 0 0] := by rw [hA]; exact (by (repeat' (first | (with_reducible assumption) | exact Blk.new' (by simp) | refine Blk.alloc ?_ _)))
  have BA : Below w.heap.size w wA := by rw [hA]; (repeat' (first | (with_reducible exact Below.refl _ _) | (with_reducible assumption) | (with_reducible refine Below.alloc ?_ ?_ _) | (with_reducible refine Below.drew ?_) | (with_reducible refine below_drewN' ?_ _) | (with_reducible refine Below.setCell ?_ ?_ _) | (with_reducible exact Nat.le_refl _) | omega | (simp; done) | (simp; omega)))
  have hst := state_any tv E wA (h.below BA)
  have hE' : (E != 0) = true := by simpa using hE
  clear hE
  go_enter Tryz.func76, Tryz.ntmps76
  go_wp2_with fail
  rw [← hA]
  go_wp2_with fail
  refine hst.mono ?_
  rintro e w1 ⟨rfl, hb1⟩
  have B1 := BA.trans (hb1.mono BA.size)
  have bR1 := bR.belowAll hb1
  clear hA hst hb1 bR BA
  have cR := bR1.cells
  have lR := bR1.lt
  have hst := storeRow (ty := 53) (vs := #[.int .i64 0, .int .i64 0, .int .i64 0, .slice none 0 0]) bR1 rfl (by simp [Value.oneCell']) (by kernel_rfl)
  go_wp2_with (refine wpList_storeBy rfl _ _ _ rfl _ _ rfl rfl hst ?_)
  have cF := (bR1.setRow (cs' := #[.int .i64 0, .int .i64 0, .int .i64 0, .slice none 0 0])).cells
  refine bodyPost_ret (v := .tuple #[.agg #[.int .i64 0, .int .i64 0, .int .i64 0, .slice none 0 0], .int .i64 E]) (by simp [results, Tryz.results76, go_sem, cF]) rfl ?_
  exact ⟨rfl, Below.setRow B1 (Nat.le_refl _) _⟩

set_option maxRecDepth 100000 in
set_option maxHeartbeats 1000000 in
theorem blocks_tx (T : Nat) (F : List Nat) (D : Nat) (y : TxS) (w : World) (h : TxAt w T F D y) (hE : y.stateE = 0) :
    Calls Tryz.prog 76 #[.pointer (some ⟨T, 0, none⟩)] w fun e w' => ∃ v, e = .returned (.tuple #[.agg #[.int .i64 y.s, .int .i64 y.j, .int .i64 y.i, v], .int .i64 0]) ∧ w'.ownsRow w.heap.size 4 1 v y.now.length (y.now.map .bool) ∧ Below w.heap.size w w' := by
  have hbd := h.ok.bds
  obtain ⟨wA, hA⟩ : ∃ wA, wA = w.alloc (.cells #[.int .i64 0, .int .i64 0, .int .i64 0, .slice none 0 0] 53) := ⟨_, rfl⟩
  have bR : Blk wA w.heap.size 53 #[.int .i64 0, .int .i64 0, .int .i64 0, .slice none 0 0] := by rw [hA]; exact (by (repeat' (first | (with_reducible assumption) | exact Blk.new' (by simp) | refine Blk.alloc ?_ _)))
  have BA : Below w.heap.size w wA := by rw [hA]; (repeat' (first | (with_reducible exact Below.refl _ _) | (with_reducible assumption) | (with_reducible refine Below.alloc ?_ ?_ _) | (with_reducible refine Below.drew ?_) | (with_reducible refine below_drewN' ?_ _) | (with_reducible refine Below.setCell ?_ ?_ _) | (with_reducible exact Nat.le_refl _) | omega | (simp; done) | (simp; omega)))
  have hA1 := h.below BA
  have hst := state_any _ _ wA hA1.st
  rw [hE] at hst
  go_enter Tryz.func76, Tryz.ntmps76
  go_wp2_with fail
  rw [← hA]
  go_wp2_with fail
  refine hst.mono ?_
  rintro e w1 ⟨rfl, hb1⟩
  have B1 := BA.trans (hb1.mono BA.size)
  have bR1 := bR.belowAll hb1
  obtain ⟨ok, ⟨M, wv, nv, bT, hT, hM, hMT, hO, hw, ⟨A, c, rfl, hn, hnF⟩⟩, lt⟩ := hA1.below hb1
  have hzA : wA.heap.size = w.heap.size + 1 := by rw [hA]; simp
  clear hA hst hb1 bR BA hA1
  have cT := bT.cells
  have lT := bT.lt
  have c1 : w1.cell? ⟨T, 1, none⟩ = some (.int .i64 y.s) := (cT 1).trans rfl
  have c2 : w1.cell? ⟨T, 2, none⟩ = some (.int .i64 y.j) := (cT 2).trans rfl
  have c3 : w1.cell? ⟨T, 3, none⟩ = some (.int .i64 y.i) := (cT 3).trans rfl
  have c16 : w1.cell? ⟨T, 16, none⟩ = some (.slice A y.now.length c) := (cT 16).trans rfl
  clear cT bT hO hw
  go_wp2_with fail
  refine wp_region_mix [.take 0, .take 1, .take 2, .take 3, .take 4, .take 5, .take 6, .take 7, .take 8, .take 9, .one 10, .one 11, .one 12, .one 13] 12 (fun w' => w'.cell? ⟨T, 1, none⟩ = some (.int .i64 y.s) ∧ w'.cell? ⟨T, 2, none⟩ = some (.int .i64 y.j) ∧ w'.cell? ⟨T, 3, none⟩ = some (.int .i64 y.i) ∧ w'.cell? ⟨T, 16, none⟩ = some (.slice A y.now.length c)) (by kernel_rfl) (by kernel_rfl) (fun _ _ _ _ _ h => h) ⟨c1, c2, c3, c16⟩ ?_
  simp only [List.map_cons, List.map_nil, Ms.fill, List.getD_cons_zero, List.getD_cons_succ]
  iterate 10 (refine mixT_take (by rfl) ?_ (fun w' hw' => ?_) ?_; rotate_left; (focus (go_simp; (try with_reducible rfl))); (try simp only [Act.put, List.setIfInBounds_toArray, List.set_cons_zero, List.set_cons_succ]))
  refine mixT_step (by rfl) fun K hK => ?_
  go_simp
  refine (clone_any A c y.now w1.drew (Reads.below hn (Below.refl _ _).drew) (hn.some_ (by rw [List.length_map]; omega)) (by omega)).mono ?_
  rintro e w2 ⟨v, rfl, ho, hb2⟩
  obtain ⟨g, cap, rfl⟩ : ∃ g cap, v = .slice (some ⟨g, 0, none⟩) y.now.length cap := by
    rcases ho.2 with ⟨-, h0⟩ | ⟨g, cap, cur, hv, -⟩
    · omega
    · exact ⟨g, cap, hv⟩
  have B12 : Below w1.heap.size w1 w2 := (Below.refl _ _).drew.trans hb2
  have B2 := B1.trans (B12.mono B1.size)
  have bR2 := bR1.belowAll B12
  refine hK _ _ (fun _ => ⟨?_, ?_, ?_, ?_⟩) ?_
  focus (exact (B12.cell (p := ⟨T, 1, none⟩) lT).trans c1)
  focus (exact (B12.cell (p := ⟨T, 2, none⟩) lT).trans c2)
  focus (exact (B12.cell (p := ⟨T, 3, none⟩) lT).trans c3)
  focus (exact (B12.cell (p := ⟨T, 16, none⟩) lT).trans c16)
  clear hK K
  refine mixT_step (by rfl) fun K hK => ?_
  go_simp
  refine hK _ _ (fun _ => ⟨?_, ?_, ?_, ?_⟩) ?_
  focus (exact (B12.cell (p := ⟨T, 1, none⟩) lT).trans c1)
  focus (exact (B12.cell (p := ⟨T, 2, none⟩) lT).trans c2)
  focus (exact (B12.cell (p := ⟨T, 3, none⟩) lT).trans c3)
  focus (exact (B12.cell (p := ⟨T, 16, none⟩) lT).trans c16)
  clear hK K
  refine mixT_step (by rfl) fun K hK => ?_
  have hst := storeRow (ty := 53) (vs := #[.int .i64 y.s, .int .i64 y.j, .int .i64 y.i, .slice (some ⟨g, 0, none⟩) y.now.length cap]) bR2 rfl (by simp [Value.oneCell']) (by kernel_rfl)
  have cF := (bR2.setRow (cs' := #[.int .i64 y.s, .int .i64 y.j, .int .i64 y.i, .slice (some ⟨g, 0, none⟩) y.now.length cap])).cells
  refine op_storeBy _ _ _ rfl _ _ rfl rfl hst ?_
  refine hK _ _ (fun h => absurd h (by decide)) ?_
  clear hK K
  refine mixT_step (by rfl) fun K hK => ?_
  go_simp
  refine hK _ _ (fun h => absurd h (by decide)) ?_
  clear hK K
  refine mixT_nil ?_
  go_wp2_with fail
  refine bodyPost_ret (v := .tuple #[.agg #[.int .i64 y.s, .int .i64 y.j, .int .i64 y.i, .slice (some ⟨g, 0, none⟩) y.now.length cap], .int .i64 0]) (by simp [results, Tryz.results76, go_sem, cF]) rfl ?_
  have z1 := B1.size
  have z2 := bR1.lt
  refine ⟨_, rfl, ?_, Below.setRow B2 (Nat.le_refl _) _⟩
  have hg : w1.heap.size ≤ g := (ho.lt g rfl).1
  refine own_lower (base := w1.drew.heap.size) (own_block ho fun g' e => ?_) (show w.heap.size ≤ w1.heap.size from z1)
  cases e
  exact setRow_other _ _ _ _ (show g ≠ w.heap.size by omega)

end Go.Proofs.YtloddiipepiocaaGreatDoor
/- Layer 10: Begin. -/
namespace Go.Proofs.YtloddiipepiocaaGreatDoor
open Go.RowKit Go.Maps

theorem conv_str (w : World) (s : ByteArray) : ∃ w' c, (convert 9 27 (.string s)).run Tryz.prog w = .ok (.slice (some ⟨w.heap.size, 0, none⟩) s.size c) w' ∧ Below w.heap.size w w' ∧ Reads w' (some ⟨w.heap.size, 0, none⟩) ((strL s).map (.int .u8)) := by
  refine ⟨_, _, run_bytes_of_string w 9 27 5 s Tryz.underlying9 Tryz.underlying27 Tryz.underlying5, (Below.refl _ _).drew.alloc (Nat.le_refl _) _, ?_⟩
  refine .inr ⟨w.heap.size, 0, rfl, by simp, fun j u hu => ?_⟩
  have hj : j < s.size := by
    have := (List.getElem?_eq_some_iff.1 hu).1
    rwa [List.length_map, strL_length] at this
  have hb := bytesRow_at s (grownCap w s.size 0 5) j hj
  have b : ∀ (w : World) (cs : Array Value) (q : Nat × Nat), (w.alloc (.cells cs 5 q)).cell? ⟨w.heap.size, j, none⟩ = cs[j]? := fun w cs q => by
    unfold World.cell?
    rw [hp1 w (.cells cs 5 q)]
    rfl
  rw [Nat.zero_add]
  refine (b w.drew _ _).trans ?_
  rw [hb, ← hu]
  unfold strL
  have hj' : j < s.data.toList.length := hj
  simp [List.getElem?_map, List.getElem?_eq_getElem hj']

/-- Are the bytes those of a bitmap? -/
def mapOk (d : ByteArray) (nb : Nat) : Prop := (strL d).length = 96 ∧ noneAfter (strL d) nb 768
def DevS.beginE (x : DevS) (s j i : Int) (E : Int) : Prop :=
  (findE x.stable.length s j i ≠ 0 ∧ E = findE x.stable.length s j i) ∨
  (findE x.stable.length s j i = 0 ∧ x.ge (1 + j) ≠ 0 ∧ E = x.ge (1 + j)) ∨
  (findE x.stable.length s j i = 0 ∧ x.ge (1 + j) = 0 ∧ ¬ (mapOk (x.fr (1 + j)).data (rgB s j i).toNat ∧ (x.fr (1 + j)).kind = 5) ∧ E = 6) ∨
  (findE x.stable.length s j i = 0 ∧ x.ge (1 + j) = 0 ∧ mapOk (x.fr (1 + j)).data (rgB s j i).toNat ∧ (x.fr (1 + j)).kind = 5 ∧ E = 0)
def DevS.begins (x : DevS) (s j i : Int) : TxS :=
  ⟨s, j, i, decS (strL (x.fr (1 + j)).data) (rgB s j i).toNat 768, decS (strL (x.fr (1 + j)).data) (rgB s j i).toNat 768, [], false, false, false⟩

end Go.Proofs.YtloddiipepiocaaGreatDoor
/- Layer 10: Begin, walked. -/
namespace Go.Proofs.YtloddiipepiocaaGreatDoor
open Go.RowKit Go.Maps

def BeginPost (w : World) (D : Nat) (s j i : Int) (x : DevS) (e : Ending) (w' : World) : Prop :=
  Below w.heap.size w w' ∧ ∃ E, x.beginE s j i E ∧ ((E ≠ 0 ∧ e = .returned (.tuple #[.pointer none, .int .i64 E])) ∨
    (E = 0 ∧ ∃ T F, e = .returned (.tuple #[.pointer (some ⟨T, 0, none⟩), .int .i64 0]) ∧ TxAt w' T F D (x.begins s j i) ∧ ∀ b ∈ F, w.heap.size ≤ b))

set_option maxRecDepth 100000 in
set_option maxHeartbeats 2000000 in
theorem begin_dev (D : Nat) (s j i : Int) (B : List Nat) (x : DevS) (w : World) (h : DevAt w D B x) (hsz : (x.fr (1 + j)).data.size ≤ 1000) :
    Calls Tryz.prog 10 #[.pointer (some ⟨D, 0, none⟩), .agg #[.int .i64 s, .int .i64 j, .int .i64 i]] w (BeginPost w D s j i x) := by
  obtain ⟨wA, hA⟩ : ∃ wA, wA = w.alloc (.cells #[.int .i64 s, .int .i64 j, .int .i64 i] 23) := ⟨_, rfl⟩
  have bL : Blk wA w.heap.size 23 #[.int .i64 s, .int .i64 j, .int .i64 i] := by rw [hA]; exact (by (repeat' (first | (with_reducible assumption) | exact Blk.new' (by simp) | refine Blk.alloc ?_ _)))
  have BA : Below w.heap.size w wA := by rw [hA]; (repeat' (first | (with_reducible exact Below.refl _ _) | (with_reducible assumption) | (with_reducible refine Below.alloc ?_ ?_ _) | (with_reducible refine Below.drew ?_) | (with_reducible refine below_drewN' ?_ _) | (with_reducible refine Below.setCell ?_ ?_ _) | (with_reducible exact Nat.le_refl _) | omega | (simp; done) | (simp; omega)))
  have hfi := find_dev D s j i B x wA (h.below BA)
  have cL := bL.cells
  have lL := bL.lt
  by_cases hE : findE x.stable.length s j i = 0
  rotate_left
  · have HB : Hid (x.beginE s j i (findE x.stable.length s j i)) := Lib.hid (.inl ⟨hE, rfl⟩)
    have HN := Lib.hid hE
    have hv : findV D x.stable.length s j i = PV none 0 0 0 0 0 0 0 0 := by unfold findV; rw [if_neg hE]; rfl
    rw [hv] at hfi
    generalize findE x.stable.length s j i = E at *
    have hE' : (E != 0) = true := by simpa using hE
    clear hE hv
    unfold BeginPost
    go_enter Tryz.func10, Tryz.ntmps10
    go_wp2_with fail
    rw [← hA]
    go_wp2_with fail
    refine hfi.mono ?_
    rintro e w1 ⟨rfl, hb1⟩
    have B1 := BA.trans (hb1.mono BA.size)
    clear hA
    go_wp2_with fail
    go_ret2
    exact ⟨B1.alloc B1.size _, E, HB.out, .inl ⟨HN.out, rfl⟩⟩
  obtain ⟨hrg, hns⟩ := findE_zero hE
  have hbd := rg_bds hrg
  obtain ⟨r1, r2, r3, r4, r5⟩ := rg_ok hrg
  have hv : findV D x.stable.length s j i = PV (some ⟨D, 0, none⟩) s j i 1 (1 + j) (2 + j) (2 + j + i) (s - (2 + j + i)) := by unfold findV placeR; rw [if_pos hE, r1, r2, r3, r4, r5]; rfl
  rw [hv, hE] at hfi
  have HE := Lib.hid hE
  have HRG := Lib.hid hrg
  clear hE hv r1 r2 r3 r4 r5 hrg
  unfold BeginPost
  go_enter Tryz.func10, Tryz.ntmps10
  go_wp2_with fail
  rw [← hA]
  go_wp2_with fail
  refine hfi.mono ?_
  rintro e w1 ⟨rfl, hb1⟩
  have B1 := BA.trans (hb1.mono BA.size)
  have bL1 := bL.belowAll hb1
  clear hA hb1 cL lL bL BA hfi
  obtain ⟨PB, hPB⟩ : ∃ PB, PB = w1.heap.size := ⟨_, rfl⟩
  obtain ⟨w2, hw2⟩ : ∃ w2, w2 = w1.alloc (.cells (PV (some ⟨D, 0, none⟩) s j i 1 (1 + j) (2 + j) (2 + j + i) (s - (2 + j + i))) 117) := ⟨_, rfl⟩
  have bP2 : Blk w2 PB 117 (PV (some ⟨D, 0, none⟩) s j i 1 (1 + j) (2 + j) (2 + j + i) (s - (2 + j + i))) := by rw [hw2, hPB]; exact Blk.new _ _ _
  have bL2 : Blk w2 w.heap.size 23 #[.int .i64 s, .int .i64 j, .int .i64 i] := by rw [hw2]; exact bL1.alloc _
  have B2 : Below w.heap.size w w2 := by rw [hw2]; exact B1.alloc B1.size _
  go_wp2_with fail
  rw [← hw2, ← hPB]
  clear hw2 hPB bL1 B1
  have cP := bP2.cells
  have lP := bP2.lt
  go_wp2_with fail
  refine (getF_dev D B x (1 + j) w2 (h.below B2)).mono ?_
  rintro e w3 ⟨hb3, rfl⟩
  have B3 := B2.trans (hb3.mono B2.size)
  have bP3 := bP2.belowAll hb3
  have bL3 := bL2.belowAll hb3
  clear cP lP bP2 bL2 hb3 B2
  have HBG : Hid (x.begins s j i = ⟨s, j, i, decS (strL (x.fr (1 + j)).data) (rgB s j i).toNat 768, decS (strL (x.fr (1 + j)).data) (rgB s j i).toNat 768, [], false, false, false⟩) := Lib.hid rfl
  have HBE : Hid (∀ E, x.beginE s j i E ↔ (findE x.stable.length s j i ≠ 0 ∧ E = findE x.stable.length s j i) ∨
  (findE x.stable.length s j i = 0 ∧ x.ge (1 + j) ≠ 0 ∧ E = x.ge (1 + j)) ∨
  (findE x.stable.length s j i = 0 ∧ x.ge (1 + j) = 0 ∧ ¬ (mapOk (x.fr (1 + j)).data (rgB s j i).toNat ∧ (x.fr (1 + j)).kind = 5) ∧ E = 6) ∨
  (findE x.stable.length s j i = 0 ∧ x.ge (1 + j) = 0 ∧ mapOk (x.fr (1 + j)).data (rgB s j i).toNat ∧ (x.fr (1 + j)).kind = 5 ∧ E = 0)) := Lib.hid fun E => Iff.rfl
  generalize x.ge (1 + j) = GE at *
  generalize x.fr (1 + j) = f at *
  obtain ⟨fk, fs, fd⟩ := f
  simp only at hsz HBG HBE ⊢
  by_cases hG : GE = 0
  rotate_left
  · have hG' : (GE != 0) = true := by simpa using hG
    have HN := Lib.hid hG
    clear hG
    go_wp2_with fail
    go_ret2
    exact ⟨B3.alloc B3.size _, GE, (HBE.out _).2 (.inr (.inl ⟨HE.out, HN.out, rfl⟩)), .inl ⟨HN.out, rfl⟩⟩
  subst hG
  obtain ⟨FB, hFB⟩ : ∃ FB, FB = w3.heap.size := ⟨_, rfl⟩
  obtain ⟨w4, hw4⟩ : ∃ w4, w4 = w3.alloc (.cells #[.int .i64 fk, .int .u32 fs, .string fd] 26) := ⟨_, rfl⟩
  have bF4 : Blk w4 FB 26 #[.int .i64 fk, .int .u32 fs, .string fd] := by rw [hw4, hFB]; exact Blk.new _ _ _
  have bP4 : Blk w4 PB 117 (PV (some ⟨D, 0, none⟩) s j i 1 (1 + j) (2 + j) (2 + j + i) (s - (2 + j + i))) := by rw [hw4]; exact bP3.alloc _
  have bL4 : Blk w4 w.heap.size 23 #[.int .i64 s, .int .i64 j, .int .i64 i] := by rw [hw4]; exact bL3.alloc _
  have B4 : Below w.heap.size w w4 := by rw [hw4]; exact B3.alloc B3.size _
  have cL3 := bL3.cells
  have lL3 := bL3.lt
  go_wp2_with fail
  rw [← hw4, ← hFB]
  clear hw4 hFB bP3 bL3 B3 cL3 lL3
  have cF := bF4.cells
  have lF := bF4.lt
  have cL := bL4.cells
  have lL := bL4.lt
  obtain ⟨w5, cc, hcv, hb5, hR5⟩ := conv_str w4 fd
  have z4 := B4.size
  have hdec := decode_any s j i (some ⟨w4.heap.size, 0, none⟩) cc (strL fd) (by rw [strL_length]; simp only [maxLen]; omega) w5 hR5
  rw [strL_length] at hdec
  have bF5 := bF4.belowAll hb5
  have bP5 := bP4.belowAll hb5
  have B5 := B4.trans (hb5.mono z4)
  go_simp
  go_wp2_with fail
  refine hdec.mono ?_
  rintro e w6 ⟨hb6, hd6⟩
  have bF6 := bF5.belowAll hb6
  have bP6 := bP5.belowAll hb6
  have B6 := B5.trans (hb6.mono B5.size)
  have z5 := B5.size
  clear hdec hb6 bF5 bP5 B5 hb5 hR5 hcv cF lF cL lL bF4 bP4 bL4 B4
  have cF := bF6.cells
  have lF := bF6.lt
  have cP := bP6.cells
  have lP := bP6.lt
  rcases hd6 with ⟨hne, -⟩ | ⟨-, h96, rfl⟩ | ⟨-, h96, hna, rfl⟩ | ⟨-, h96, hna, g, rfl, hg, hR6⟩
  · exact absurd HRG.out hne
  · have HX : Hid (¬ (mapOk fd (rgB s j i).toNat ∧ fk = 5)) := Lib.hid fun hh => h96 hh.1.1
    clear h96
    go_wp2_with fail
    go_ret2
    exact ⟨B6.alloc B6.size _, 6, (HBE.out _).2 (.inr (.inr (.inl ⟨HE.out, by first | trivial | rfl, HX.out, rfl⟩))), .inl ⟨by decide, rfl⟩⟩
  · have HX : Hid (¬ (mapOk fd (rgB s j i).toNat ∧ fk = 5)) := Lib.hid fun hh => hna hh.1.2
    clear h96 hna
    go_wp2_with fail
    go_ret2
    exact ⟨B6.alloc B6.size _, 6, (HBE.out _).2 (.inr (.inr (.inl ⟨HE.out, by first | trivial | rfl, HX.out, rfl⟩))), .inl ⟨by decide, rfl⟩⟩
  have HMO : Hid (mapOk fd (rgB s j i).toNat) := Lib.hid ⟨h96, hna⟩
  clear h96 hna
  by_cases hk : fk = 5
  rotate_left
  · have HX : Hid (¬ (mapOk fd (rgB s j i).toNat ∧ fk = 5)) := Lib.hid fun hh => hk hh.2
    have hk' : (fk != 5) = true := by simpa using hk
    clear hk
    go_wp2_with fail
    go_ret2
    exact ⟨B6.alloc B6.size _, 6, (HBE.out _).2 (.inr (.inr (.inl ⟨HE.out, by first | trivial | rfl, HX.out, rfl⟩))), .inl ⟨by decide, rfl⟩⟩
  subst hk
  have hmm := @run_makeMap Tryz.prog
  go_wp2_with fail
  go_ret2
  clear hmm cF lF cP lP
  have z6 := B6.size
  obtain ⟨o, ho⟩ : ∃ o : Obj, o = .cells #[.int .i64 s, .int .i64 j, .int .i64 i, .slice (some ⟨g, 0, none⟩) (rgB s j i).toNat (rgB s j i).toNat] 53 := ⟨_, rfl⟩
  have hsz1 : (w6.alloc o).heap.size = w6.heap.size + 1 := by simp
  have hsz2 : ((w6.alloc o).alloc (.map #[] 0)).heap.size = w6.heap.size + 2 := by simp
  have hgl : g < w6.heap.size := by
    rcases hR6 with h0 | ⟨b, off, he, hl, -⟩
    · have h1 := congrArg List.length h0
      have h2 := (rg_ok HRG.out).2.2.2.2
      rw [List.length_map, decS_length] at h1
      simp only [List.length_nil] at h1
      omega
    · cases he; exact hl
  have hwl : w.heap.size ≤ g := Nat.le_trans z5 hg
  have hw0 : 0 < w.heap.size := h.half.1
  refine ⟨?_, 0, (HBE.out _).2 (.inr (.inr (.inr ⟨HE.out, by first | trivial | rfl, HMO.out, by first | trivial | rfl, rfl⟩))), .inr ⟨rfl, w6.heap.size + 2, [w6.heap.size + 2, w6.heap.size + 1, g], ?_, ?_, ?_⟩⟩
  · exact ((B6.alloc B6.size _).alloc (by simp; omega) _).alloc (by simp; omega) _
  · rfl
  · have hsl : ∀ W, Reads W (some ⟨g, 0, none⟩) ((decS (strL fd) (rgB s j i).toNat 768).map .bool) → SlB W [w6.heap.size + 2, w6.heap.size + 1, g] (w6.heap.size + 2) (w6.heap.size + 1) (.slice (some ⟨g, 0, none⟩) (rgB s j i).toNat (rgB s j i).toNat) (decS (strL fd) (rgB s j i).toNat 768) := fun W hW =>
      ⟨some ⟨g, 0, none⟩, (rgB s j i).toNat, by rw [decS_length], hW, fun a ha => by cases ha; exact ⟨by simp, by show g ≠ _; omega, by show g ≠ _; omega⟩⟩
    rw [HBG.out]
    refine ⟨⟨HRG.out, decS_length _ _ _, decS_length _ _ _, fun r hr => (by cases hr), ?_⟩, ⟨w6.heap.size + 1, .slice (some ⟨g, 0, none⟩) (rgB s j i).toNat (rgB s j i).toNat, .slice (some ⟨g, 0, none⟩) (rgB s j i).toNat (rgB s j i).toNat, ?_, by simp, by simp, by omega, ⟨.map [], RecMap.empty, ?_⟩, ?_, ?_⟩, ?_⟩
    · show 0 ≤ min (j - 2) 80 - (([] : List Rec).length : Int) - (if false then 1 else 0)
      simp; omega
    · exact Blk.new' (by simp)
    · rw [← hsz1, ho]
      exact (World.ownsMap_made _ _ _ _).alloc _
    · exact hsl _ (Reads.below hR6 ((((Below.refl _ _).alloc (Nat.le_refl _) _).alloc (by simp) _).alloc (by simp; omega) _))
    · exact hsl _ (Reads.below hR6 ((((Below.refl _ _).alloc (Nat.le_refl _) _).alloc (by simp) _).alloc (by simp; omega) _))
    · intro b hb
      simp only [List.mem_cons, List.mem_nil_iff, or_false] at hb
      simp only [World.size_alloc]
      rcases hb with rfl | rfl | rfl <;> omega
  · intro b hb
    simp only [List.mem_cons, List.mem_nil_iff, or_false] at hb
    rcases hb with rfl | rfl | rfl <;> omega

end Go.Proofs.YtloddiipepiocaaGreatDoor
