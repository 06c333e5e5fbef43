/- Parts of the proof, put together by program: B3, TA, TB, X7. -/
import Derived.Test.YtloddiipepiocaaGreatDoorPart41
import Derived.Test.YtloddiipepiocaaGreatDoorPart29
import Derived.Test.YtloddiipepiocaaGreatDoorPart06
set_option linter.unusedVariables false
set_option linter.unusedSimpArgs false
/- TxnBlocks in plain words: what Take and Free make of the blocks. No program in sight. -/
namespace Go.Proofs.YtloddiipepiocaaGreatDoor
open Go.RowKit Go.Maps

theorem changeE_zero {y : TxS} {us : List Bool} {n : Nat} (h : y.changeE n = 0) (hn : n ≠ 0) : (y.change us n).now = us := by
  unfold TxS.changeE at h
  unfold TxS.change
  rw [if_neg hn] at h ⊢
  split
  · rename_i h2; rw [if_pos h2] at h; exact absurd (show (12 : Int) = 0 from h) (by decide)
  · rfl
theorem orL_free {a b : List Bool} (h : a.length = b.length) {k : Nat} (hk : k < a.length) (hf : (orL a b).getD k false = false) : a.getD k true = false ∧ b.getD k true = false := by
  have e : (orL a b)[k]? = some (a[k] || b[k]'(h ▸ hk)) := by
    unfold orL
    rw [List.getElem?_zipWith, List.getElem?_eq_getElem hk, List.getElem?_eq_getElem (h ▸ hk)]
  rw [List.getD_eq_getElem?_getD, e] at hf
  simp only [Option.getD_some, Bool.or_eq_false_iff] at hf
  rw [List.getD_eq_getElem?_getD, List.getElem?_eq_getElem hk, List.getD_eq_getElem?_getD, List.getElem?_eq_getElem (h ▸ hk)]
  exact hf

theorem take_good {y : TxS} {near many : Int} (ok : y.Ok) (hs : y.stateE = 0) (h : (y.take near many).1 = 0) :
    ((y.takeL near many).length : Int) = many ∧ ∀ b ∈ y.takeL near many, 0 ≤ b ∧ b < y.now.length ∧ y.was.getD b.toNat true = false ∧ y.now.getD b.toNat true = false ∧ (y.take near many).2.now.getD b.toNat false = true := by
  have hwl : y.now.length = y.was.length := by rw [ok.now, ok.was]
  have hml : y.may.length = y.now.length := orL_length hwl
  have hC : CkE y.s y.j y.i y.may.length = 0 := by rw [hml]; exact ok_ckE ok
  have hs' : ¬ y.stateE ≠ 0 := by simpa using hs
  by_cases hA : AlE y.s y.j y.i y.may near many = 0
  rotate_left
  · obtain ⟨e, -⟩ := take_a hs hA
    rw [e] at h
    exact absurd h hA
  obtain ⟨e1, e2⟩ := take_b hs hA _ rfl
  rw [e1] at h
  have hch : y.changeE (allocd y.may near.toNat many.toNat).length = 0 := h
  rw [if_pos hch] at e2
  have hnr := AlE_near hC hA
  unfold AlE at hA
  rw [if_pos hC] at hA
  split at hA
  · exact absurd (show (7 : Int) = 0 from hA) (by decide)
  rename_i hr
  split at hA
  · exact absurd (show (11 : Int) = 0 from hA) (by decide)
  rename_i hf
  have hlen : (allocd y.may near.toNat many.toNat).length = many.toNat := by
    unfold allocd; rw [List.length_take]; omega
  refine ⟨by rw [e2, hlen]; omega, fun b hb => ?_⟩
  rw [e2] at hb
  obtain ⟨h1, h2⟩ := allocd_in (by omega) b hb
  rw [hml] at h2
  obtain ⟨h3, h4⟩ := orL_free hwl (k := b.toNat) (by omega) (allocd_free hb)
  refine ⟨h1, h2, h4, h3, ?_⟩
  have hne : (allocd y.may near.toNat many.toNat).length ≠ 0 := fun e => by
    have := List.eq_nil_of_length_eq_zero e
    rw [this] at hb; cases hb
  rw [e1, hch, TxS.after_0]
  show (y.change _ _).now.getD b.toNat false = true
  rw [changeE_zero hch hne]
  have hv := setAll_val y.now (allocd y.may near.toNat many.toNat) true b.toNat (by omega) (fun x hx => (allocd_in (by omega) x hx).1)
  rw [List.getD_eq_getElem?_getD, hv, Int.toNat_of_nonneg h1, if_pos hb]
  rfl

theorem free_good {y : TxS} {l : List Int} (hC : CkE y.s y.j y.i y.now.length = 0) (hs : y.stateE = 0) (h : (y.free l).1 = 0) :
    ∀ b ∈ l, 0 ≤ b ∧ b < y.now.length ∧ (y.free l).2.now.getD b.toNat true = false := by
  intro b hb
  by_cases hT : TnE y.s y.j y.i y.now l false 4 = 0
  rotate_left
  · rw [free_a hs hT] at h
    exact absurd h hT
  have e := free_b hs hT
  rw [e] at h
  have hch : y.changeE l.length = 0 := h
  have hne : l.length ≠ 0 := fun e => by
    have := List.eq_nil_of_length_eq_zero e
    rw [this] at hb; cases hb
  unfold TnE at hT
  rw [if_pos hC] at hT
  split at hT
  rotate_left
  · rename_i hl; exact absurd hT hl
  rename_i hl
  have hall := LsE_all hl
  obtain ⟨h1, h2⟩ := hall b hb
  refine ⟨h1, h2, ?_⟩
  rw [e, hch, TxS.after_0]
  show (y.change _ _).now.getD b.toNat true = false
  rw [changeE_zero hch hne]
  have hv := setAll_val y.now l false b.toNat (by omega) (fun x hx => (hall x hx).1)
  rw [List.getD_eq_getElem?_getD, hv, Int.toNat_of_nonneg h1, if_pos hb]
  rfl

end Go.Proofs.YtloddiipepiocaaGreatDoor
/- The laws of layer 10: a transaction at play: its calls in one form. -/
namespace Go.Proofs.YtloddiipepiocaaGreatDoor
open Go.RowKit Go.Maps

/-- A transaction on its device; both are younger than the world w0. -/
structure Play (w0 w : World) (T : Nat) (F : List Nat) (D : Nat) (y : TxS) (B : List Nat) (x : DevS) : Prop where
  td : TD w T F D y B x
  bl : Below w0.heap.size w0 w
  fl : ∀ b ∈ F, w0.heap.size ≤ b
  bb : ∀ b ∈ B, w0.heap.size ≤ b

section
variable {w0 w w' : World} {T : Nat} {F F' : List Nat} {D : Nat} {y y' : TxS} {B B' : List Nat} {x x' : DevS}
theorem Play.below (h : Play w0 w T F D y B x) (hb : Below w.heap.size w w') : Play w0 w' T F D y B x := ⟨h.td.below hb, h.bl.trans (hb.mono h.bl.size), h.fl, h.bb⟩
theorem Play.did (h : Play w0 w T F D y B x) (ht : TxAt w' T F' D y') (g : Grow w F w' F') : Play w0 w' T F' D y' B x :=
  ⟨h.td.grow ht g, h.bl.trans (g.below h.bl.size h.fl), g.lo h.bl.size h.fl, h.bb⟩
theorem Play.drewN (h : Play w0 w T F D y B x) (n : Nat) : Play w0 (w.drewN n) T F D y B x := h.below (below_drewN' (Below.refl _ _) n)
theorem Play.size (h : Play w0 w T F D y B x) : w0.heap.size ≤ w.heap.size := h.bl.size
theorem Play.half (h : Play w0 w T F D y B x) : HalfAt w := h.td.dev.half
theorem Play.endKeep (h : Play w0 w T F D y B x) : Grow w F (w.setCell ⟨T, 20, none⟩ (.bool true)) F := ⟨KeepEx.setCell w (.inl h.td.tx.TF) _, fun _ hb => .inl hb⟩
theorem Play.end_ (h : Play w0 w T F D y B x) : Play w0 (w.setCell ⟨T, 20, none⟩ (.bool true)) T F D y.end_ B x := h.did h.td.tx.ended h.endKeep
theorem Play.keep (h : Play w0 w T F D y B x) (ht : TD w' T F' D y' B' x') (g : Grow w (F ++ B) w' (F' ++ B')) : Play w0 w' T F' D y' B' x' :=
  have hF : ∀ b ∈ F ++ B, w0.heap.size ≤ b := fun b hb => (List.mem_append.1 hb).elim (h.fl b) (h.bb b)
  have hn := g.lo h.bl.size hF
  ⟨ht, h.bl.trans (g.below h.bl.size hF), fun b hb => hn b (List.mem_append_left _ hb), fun b hb => hn b (List.mem_append_right _ hb)⟩
theorem Grow.appR (h : Grow w F w' F') (B : List Nat) : Grow w (F ++ B) w' (F' ++ B) :=
  ⟨h.keep.widen fun k hk => List.mem_append_left _ hk, fun b hb => (List.mem_append.1 hb).elim (fun hb => (h.new b hb).imp (List.mem_append_left _) id) (fun hb => .inl (List.mem_append_right _ hb))⟩
theorem Play.reads (h : Play w0 w T F D y B x) {A : Option Addr} {xs : List Value} (hr : Reads w0 A xs) : Reads w A xs := hr.below h.bl
end

def PlayPost (w0 w : World) (T : Nat) (F : List Nat) (D : Nat) (E : Int) (y : TxS) (B : List Nat) (x : DevS) (e : Ending) (w' : World) : Prop :=
  e = .returned (.int .i64 E) ∧ ∃ F', Play w0 w' T F' D y B x ∧ Grow w (F ++ B) w' (F' ++ B)

section
variable {w0 w : World} {T : Nat} {F : List Nat} {D : Nat} {y : TxS} {B : List Nat} {x : DevS}
theorem play_write (h : Play w0 w T F D y B x) (a k : Int) (d : ByteArray) (ha : -9223372036854775808 ≤ a ∧ a ≤ 9223372036854775807) (hdl : d.size ≤ 1000000) :
    Calls Tryz.prog 58 #[.pointer (some ⟨T, 0, none⟩), .int .i64 a, .int .i64 k, .string d] w (PlayPost w0 w T F D (y.write a k d).1 (y.write a k d).2 B x) := by
  refine (write_tx T F D y a k d w h.td.tx ha hdl).mono ?_
  rintro e w' ⟨he, F', ht, g⟩
  exact ⟨he, F', h.did ht g, g.appR B⟩
theorem play_free (h : Play w0 w T F D y B x) (Bl : Option Addr) (cb : Nat) (l : List Int) (hl : l.length ≤ 1000) (hB : Reads w Bl (l.map (.int .i64))) :
    Calls Tryz.prog 61 #[.pointer (some ⟨T, 0, none⟩), .slice Bl l.length cb] w (PlayPost w0 w T F D (y.free l).1 (y.free l).2 B x) := by
  refine (free_tx T F D y Bl cb l hl w h.td.tx hB).mono ?_
  rintro e w' ⟨he, F', ht, g⟩
  exact ⟨he, F', h.did ht g, g.appR B⟩
theorem play_take (h : Play w0 w T F D y B x) (near many : Int) :
    Calls Tryz.prog 57 #[.pointer (some ⟨T, 0, none⟩), .int .i64 near, .int .i64 many] w fun e w' => ∃ A c, e = .returned (.tuple #[.slice A (y.takeL near many).length c, .int .i64 (y.take near many).1]) ∧
      ∃ F', Play w0 w' T F' D (y.take near many).2 B x ∧ Grow w (F ++ B) w' (F' ++ B) ∧ Keeps w' (F' ++ B) A c (y.takeL near many) := by
  refine (take_tx T F D y near many w h.td.tx).mono ?_
  rintro e w' ⟨v, he, ho, F', ht, g, hv⟩
  obtain ⟨A, c, rfl, hk⟩ := Keeps.of_did (F' := F' ++ B) ho fun q hq hm => (List.mem_append.1 hm).elim (hv q hq) fun hm => by
    have h1 := (own_lt ho q hq).1
    have h2 := (h.td.dev.lt q hm).2
    omega
  exact ⟨A, c, he, F', h.did ht g, g.appR B, hk⟩
theorem play_read (h : Play w0 w T F D y B x) (a : Int) :
    Calls Tryz.prog 59 #[.pointer (some ⟨T, 0, none⟩), .int .i64 a] w fun e w' => e = .returned (.tuple #[.int .i64 (y.read x a).1, .string (y.read x a).2.1, .int .i64 (y.read x a).2.2]) ∧ Below w.heap.size w w' :=
  read_tx T F D y B x a w h.td.tx h.td.dev
theorem play_abort (h : Play w0 w T F D y B x) (he : y.ended = false) :
    Calls Tryz.prog 23 #[.pointer (some ⟨T, 0, none⟩)] w (PlayPost w0 w T F D 0 y.end_ B x) := by
  refine (abort_tx T F D y w h.td.tx he).mono ?_
  rintro e w' ⟨rfl, rfl⟩
  exact ⟨rfl, F, h.end_, h.endKeep.appR B⟩
set_option maxRecDepth 100000 in
set_option maxHeartbeats 1000000 in
theorem abort_ended (T : Nat) (F : List Nat) (D : Nat) (y : TxS) (w : World) (h : TxAt w T F D y) (he : y.ended = true) :
    Calls Tryz.prog 23 #[.pointer (some ⟨T, 0, none⟩)] w fun e w' => e = .returned (.int .i64 9) ∧ w' = w := by
  have qT : ∀ (w : World) (r : Option Nat), (binOp .eql 124 (.map r) (.map none)).run Tryz.prog w = .ok (.bool r.isNone) w := fun w r => run_eql_map_nil w _ _ _ r Tryz.underlying124
  obtain ⟨ok, ⟨M, wv, nv, bT, -⟩, lt⟩ := h
  have c17 : w.cell? ⟨T, 17, none⟩ = some (.map (some M)) := (bT.cells 17).trans rfl
  have c20 : w.cell? ⟨T, 20, none⟩ = some (.bool y.ended) := (bT.cells 20).trans rfl
  have lT := bT.lt
  rw [he] at c20
  clear bT ok lt
  go_enter Tryz.func23, Tryz.ntmps23
  go_wp2_with fail
  go_ret
  exact ⟨rfl, rfl⟩

/-- Commit, done as it says. -/
theorem play_commit {x' : DevS} (h : Play w0 w T F D y B x) (hc : y.Clean) (hE : y.stateE = 0) (hcm : y.commit x = (0, x')) :
    Calls Tryz.prog 22 #[.pointer (some ⟨T, 0, none⟩)] w fun e w' => e = .returned (.int .i64 0) ∧ ∃ B', Play w0 w' T F D y.end_ B' x' ∧ Grow w (F ++ B) w' (F ++ B') := by
  refine (commit_tx T F D y B x w h.td hc hE).mono ?_
  rintro e w' ⟨he, B', ht, g⟩
  rw [hcm] at he ht
  exact ⟨he, B', h.keep ht g, g⟩
theorem play_begin {s j i : Int} {us : List Bool} {N : Nat} (h : Play w0 w T F D y B x) (hr : rgE s j i = 0) (hl : Live x s j i us N) :
    Calls Tryz.prog 10 #[.pointer (some ⟨D, 0, none⟩), .agg #[.int .i64 s, .int .i64 j, .int .i64 i]] w fun e w' => ∃ T' F', e = .returned (.tuple #[.pointer (some ⟨T', 0, none⟩), .int .i64 0]) ∧ Play w0 w' T' F' D (begTx s j i us) B x ∧ Grow w (F ++ B) w' (F' ++ B) := by
  obtain ⟨h1, h2, h3⟩ := begin_live hr hl
  refine (begin_dev D s j i B x w h.td.dev h3).mono ?_
  rintro e w' ⟨hb, E, hE, ⟨h5, -⟩ | ⟨-, T', F', rfl, ht, hF⟩⟩
  · exact absurd ((h1 E).1 hE) h5
  rw [h2] at ht
  exact ⟨T', F', rfl, ⟨⟨ht, h.td.dev.below hb, fun b hb hm => by have := hF b hb; have := (h.td.dev.lt b hm).2; omega⟩, h.bl.trans (hb.mono h.bl.size), fun b hb => Nat.le_trans h.bl.size (hF b hb), h.bb⟩, KeepEx.of_below hb, fun b hm => (List.mem_append.1 hm).elim (fun hm => .inr (hF b hm)) (fun hm => .inl (List.mem_append_right _ hm))⟩
/-- The device is saved. -/
theorem play_save (h : Play w0 w T F D y B x) :
    Calls Tryz.prog 13 #[.pointer (some ⟨D, 0, none⟩)] w fun e w' => ∃ sv cv, e = .returned (.agg (stateC sv cv x.taken x.power x.off)) ∧ w'.ownsRow w.heap.size 42 128 sv x.stable.length (x.stable.flatMap secV) ∧ w'.ownsRow w.heap.size 111 129 cv x.cache.length (x.cache.flatMap dwV) ∧ Below w.heap.size w w' := by
  obtain ⟨S, c, M, cv, m, -⟩ := h.td.dev.mem
  exact save_any D S c M cv x h.td.dev.ok w m
end

set_option maxRecDepth 100000 in
set_option maxHeartbeats 2000000 in
theorem left_tx (T : Nat) (F : List Nat) (D : Nat) (y : TxS) (w : World) (h : TxAt w T F D y) (hE : y.stateE = 0) :
    Calls Tryz.prog 56 #[.pointer (some ⟨T, 0, none⟩)] w fun e w' => e = .returned (.tuple #[.int .i64 (CountN y.s y.j y.i y.may), .int .i64 y.left, .int .i64 0]) ∧ Below w.heap.size w w' := by
  have hst := state_any _ _ w h.st
  rw [hE] at hst
  have hml : y.may.length = y.now.length := orL_length (h.ok.now.trans h.ok.was.symm)
  have hbd := h.ok.bds
  have HCK : Hid (CkE y.s y.j y.i y.may.length = 0) := Lib.hid (by rw [hml]; exact ok_ckE h.ok)
  have HML := Lib.hid hml
  have HNL : Hid (y.may.length ≤ 1000) := Lib.hid (by omega)
  clear hml hE hbd
  go_enter Tryz.func56, Tryz.ntmps56
  go_wp2_with fail
  refine hst.mono ?_
  rintro e w1 ⟨rfl, hb1⟩
  have h1 := h.below hb1
  clear hst h
  go_wp2_with fail
  refine (may_tx T F D y w1 h1).mono ?_
  rintro e w2 ⟨g, cap, rfl, ho, hb2⟩
  have B2 := hb1.trans (hb2.mono hb1.size)
  have h2 := h1.below hb2
  have hct := count_any y.s y.j y.i (some ⟨g, 0, none⟩) cap y.may HNL.out w2 (by rw [← HML.out] at ho; exact Reads.of_own ho)
  obtain ⟨cn, hcn⟩ : ∃ cn, CountN y.s y.j y.i y.may = cn := ⟨_, rfl⟩
  rw [HCK.out, HML.out, hcn] at hct
  have HCN := Lib.hid hcn
  clear hcn
  clear h1 hb1 hb2 ho
  go_wp2_with fail
  refine hct.mono ?_
  rintro e w3 ⟨rfl, hb3⟩
  have B3 := B2.trans (hb3.mono B2.size)
  have h3 := h2.below hb3
  clear hct h2 B2 hb3
  go_wp2_with fail
  refine (left_any T F D y _ h3).mono ?_
  rintro e w4 ⟨rfl, hb4⟩
  have B4 := B3.trans (hb4.mono B3.size)
  go_wp2_with fail
  refine bodyPost_ret (v := .tuple #[.int .i64 cn, .int .i64 y.left, .int .i64 0]) (by simp [results, Tryz.results56, go_sem]) rfl ?_
  exact ⟨by rw [HCN.out], B4⟩
end Go.Proofs.YtloddiipepiocaaGreatDoor
/- The laws of layer 10: a device that was formatted, and a transaction on it; the example, walked. -/
namespace Go.Proofs.YtloddiipepiocaaGreatDoor
open Go.RowKit Go.Maps

theorem commit_cache {x : DevS} {F Z : Int} {l : List Rec} (h : (x.commit F Z l).1 = 0) : (x.commit F Z l).2.cache = [] := by
  unfold DevS.commit at h ⊢
  by_cases h1 : (x.log F Z l).1 ≠ 0
  · rw [if_pos h1] at h; exact absurd h h1
  · rw [if_neg h1] at h ⊢
    by_cases h2 : ((x.log F Z l).2.apply F Z).2.1 ≠ 0
    · rw [if_pos h2] at h; exact absurd h h2
    · rw [if_neg h2] at h ⊢
      exact (clear_taken h).2
theorem tfmt_cache {x : DevS} {s j i : Int} (h : (x.tfmt s j i).1 = 0) : (x.tfmt s j i).2.cache = [] := by
  unfold DevS.tfmt at h ⊢
  by_cases h1 : findE x.stable.length s j i ≠ 0
  · rw [if_pos h1] at h; exact absurd h h1
  · rw [if_neg h1] at h ⊢
    by_cases h2 : (x.jfmt 1 j).1 ≠ 0
    · rw [if_pos h2] at h; exact absurd h h2
    · rw [if_neg h2] at h ⊢
      exact commit_cache h

theorem yA_beg : yA = begTx 64 8 40 (List.replicate 14 false) := rfl
theorem rg64 : rgE 64 8 40 = 0 := by decide
theorem rgB64 : (rgB 64 8 40).toNat = 14 := by decide
theorem yA_clean : yA.Clean := begTx_clean (by decide) _

set_option maxRecDepth 100000 in
theorem plain_any (w : World) : Calls Tryz.prog 29 #[] w fun e w' => e = .returned (.agg #[.int .i64 64, .int .i64 8, .int .i64 40]) ∧ Below w.heap.size w w' := by
  obtain ⟨wA, hA⟩ : ∃ wA, wA = w.alloc (.cells #[.int .i64 64, .int .i64 8, .int .i64 40] 23) := ⟨_, rfl⟩
  have bR : Blk wA w.heap.size 23 #[.int .i64 64, .int .i64 8, .int .i64 40] := by rw [hA]; exact (by (repeat' (first | (with_reducible assumption) | exact Blk.new' (by simp) | refine Blk.alloc ?_ _)))
  have BA : Below w.heap.size w wA := by rw [hA]; (repeat' (first | (with_reducible exact Below.refl _ _) | (with_reducible assumption) | (with_reducible refine Below.alloc ?_ ?_ _) | (with_reducible refine Below.drew ?_) | (with_reducible refine below_drewN' ?_ _) | (with_reducible refine Below.setCell ?_ ?_ _) | (with_reducible exact Nat.le_refl _) | omega | (simp; done) | (simp; omega)))
  go_enter Tryz.func29, Tryz.ntmps29
  go_wp2_with fail
  rw [← hA]
  clear hA
  have cF := bR.cells
  refine bodyPost_ret (v := .agg #[.int .i64 64, .int .i64 8, .int .i64 40]) (by simp [results, Tryz.results29, go_sem, cF]) rfl ?_
  exact ⟨rfl, BA⟩

/-- What begun hands back: a device and a transaction. -/
def BegunAt (w : World) (e : Ending) (w' : World) : Prop :=
  ∃ D T F B y, e = .returned (.tuple #[.pointer (some ⟨D, 0, none⟩), .pointer (some ⟨T, 0, none⟩)]) ∧ Fresh y 64 8 40 1000000 ∧ y.cache = [] ∧ Play w w' T F D yA B y

set_option maxRecDepth 100000 in
set_option maxHeartbeats 2000000 in
theorem begun10_any (w : World) (hH : HalfAt w) : Calls Tryz.prog 27 #[] w (BegunAt w) := by
  obtain ⟨y, hy, hF⟩ := format_fresh rg64 1000000 (by omega)
  rw [show ((64 : Int).toNat) = 64 from rfl] at hy
  have hcache : y.cache = [] := by have h := tfmt_cache (x := newDev 64) (s := 64) (j := 8) (i := 40) (by rw [hy]); rw [hy] at h; exact h
  obtain ⟨hb1, hb2, hb3⟩ := begin_fresh rg64 hF
  have hnew := new_dev 64 (by omega) w hH
  have hp0 := hH.1
  unfold BegunAt
  go_enter Tryz.func27, Tryz.ntmps27
  go_wp2_with fail
  refine hnew.mono ?_
  rintro e w1 ⟨D, B0, rfl, hd1, hw1, hB0⟩
  clear hnew hH
  go_wp2_with fail
  refine (plain_any w1).mono ?_
  rintro e w2 ⟨rfl, hb12⟩
  have B2 := hw1.trans (hb12.mono hw1.size)
  have hd2 := hd1.below hb12
  clear hd1 hw1 hb12
  go_wp2_with fail
  refine (tformat_dev D 64 8 40 B0 (newDev 64) w2 hd2).mono ?_
  rintro e w3 ⟨rfl, B, hd3, g3⟩
  rw [hy] at hd3 ⊢
  have B3 : Below w.heap.size w w3 := B2.trans (g3.below B2.size hB0)
  have hBB := g3.lo B2.size hB0
  have Hb1 := Lib.hid hb1
  have Hb2 := Lib.hid hb2
  have HF := Lib.hid hF
  have HC := Lib.hid hcache
  clear hy hb1 hb2 hF hcache hd2 g3 B2 hB0
  go_wp2_with fail
  refine (plain_any w3).mono ?_
  rintro e w4 ⟨rfl, hb4⟩
  have B4 := B3.trans (hb4.mono B3.size)
  have hd4 := hd3.below hb4
  clear hd3 B3 hb4
  go_wp2_with fail
  refine (begin_dev D 64 8 40 B y w4 hd4 hb3).mono ?_
  rintro e w5 ⟨hb5, E, hE, ⟨h5, -⟩ | ⟨-, T, F, rfl, ht, hFF⟩⟩
  · exact absurd ((Hb1.out E).1 hE) h5
  rw [Hb2.out] at ht
  have B5 := B4.trans (hb5.mono B4.size)
  have hd5 := hd4.below hb5
  have hlt := hd4.lt
  clear hb5 hE
  go_wp2_with fail
  go_ret2
  exact ⟨D, T, F, B, y, rfl, HF.out, HC.out, ⟨⟨ht, hd5, fun b hb hm => by have := hFF b hb; have := (hlt b hm).2; omega⟩, B5, fun b hb => by have := hFF b hb; have := B4.size; omega, hBB⟩⟩

/-! The example. -/
theorem awk_left : CountN 64 8 40 yA.may = 14 ∧ CountN 64 8 40 kT2.may = 11 := by decide +kernel
theorem kT1_clean : kT1.Clean := yA_clean.take _ _
theorem kT2_clean : kT2.Clean := kT1_clean.write _ _ _

set_option maxRecDepth 100000 in
set_option maxHeartbeats 4000000 in
theorem awake10_any (w : World) (hH : HalfAt w) : Calls Tryz.prog 15 #[] w fun e w' => e = .returned (.bool true) ∧ Below w.heap.size w w' := by
  have hbg := begun10_any w hH
  obtain ⟨a1, a2, a3, a4, a5, a6, a7, a8, a9, -, -, a12, a13⟩ := awk_plain
  obtain ⟨c1, c2⟩ := awk_left
  go_enter Tryz.func15, Tryz.ntmps15
  go_wp2_with fail
  refine hbg.mono ?_
  rintro e w1 ⟨D, T, F1, B, x, rfl, hF, -, h1⟩
  have hL := hF.live
  have f1 := left_tx T F1 D yA w1 h1.td.tx rfl
  rw [show CountN yA.s yA.j yA.i yA.may = 14 from c1, a8] at f1
  clear hbg hH
  go_wp2_with fail
  refine f1.mono ?_
  rintro e w2 ⟨rfl, hb2⟩
  have h2 := h1.below hb2
  have f2 := play_take h2 12 3
  rw [a1, a2] at f2
  clear f1 hb2 h1
  go_wp2_with fail
  refine f2.mono ?_
  rintro e w3 ⟨A3, cc3, rfl, F3, h3, -, k3⟩
  have f3 := play_write (y := kT1) h3 50 8 ⟨#[97, 98]⟩ (by omega) (by decide)
  rw [a3] at f3
  clear f2 h2
  go_wp2_with fail
  refine f3.mono ?_
  rintro e w4 ⟨rfl, F4, h4, g4⟩
  have k4 := k3.grow g4
  have r4 : kT2.read x 50 = (8, ⟨#[97, 98]⟩, 0) := by
    unfold TxS.read TxS.readR
    rw [if_neg (by rw [a7]; decide), if_neg (by decide), a4]
  have f4 := play_read (y := kT2) h4 50
  rw [r4] at f4
  clear f3 h3 k3 g4
  go_wp2_with fail
  refine f4.mono ?_
  rintro e w5 ⟨rfl, hb5⟩
  have h5 := Play.below (y := kT2) h4 hb5
  have k5 := k4.below hb5
  have f5 := left_tx T F4 D kT2 w5 h5.td.tx a7
  rw [show CountN kT2.s kT2.j kT2.i kT2.may = 11 from c2, a9] at f5
  clear f4 hb5 h4 k4 r4
  go_wp2_with fail
  refine f5.mono ?_
  rintro e w6 ⟨rfl, hb6⟩
  have h6 := h5.below hb6
  have k6 := k5.below hb6
  obtain ⟨x', hcm, hL', hw, -⟩ := commit_live (x := x) (y := kT2) (N := 1000) h6.td.tx.ok kT2_clean (hL.mono (by omega)) (fun h => by rw [a6] at h; cases h)
  have f6 := play_commit (y := kT2) h6 kT2_clean a7 hcm
  obtain ⟨hr1, q, hr2⟩ := hw ⟨50, 8, ⟨#[97, 98]⟩⟩ (by rw [a5]; simp)
  clear f5 hb6 h5 k5 hw hL hF
  go_wp2_with fail
  refine f6.mono ?_
  rintro e w7 ⟨rfl, B7, h7, g7⟩
  have k7 := k6.grow g7
  clear f6 h6 k6 g7
  go_wp2_with fail
  refine (plain_any w7).mono ?_
  rintro e w8 ⟨rfl, hb8⟩
  have h8 := h7.below hb8
  have k8 := k7.below hb8
  have f8 := play_begin h8 rg64 hL'
  clear h7 k7 hb8
  go_wp2_with fail
  refine f8.mono ?_
  rintro e w9 ⟨U, F9, rfl, h9, g9⟩
  have k9 := k8.grow g9
  replace h9 : Play w w9 U F9 D kU B7 x' := h9
  have r9 : kU.read x' 50 = (8, ⟨#[97, 98]⟩, 0) := by
    unfold TxS.read TxS.readR
    rw [if_neg (by decide), if_neg (by decide), show kU.look 50 = none from rfl]
    show ((x'.fr 50).kind, (x'.fr 50).data, x'.ge 50) = _
    rw [hr1, hr2]
  have HR := Lib.hid r9
  clear f8 h8 k8 g9 hr1 hr2 r9 hcm hL'
  obtain ⟨wS, hS⟩ : ∃ wS, wS = w9.alloc (.cells #[.int .i64 12, .int .i64 13, .int .i64 0] 3) := ⟨_, rfl⟩
  have bS : Below w9.heap.size w9 wS := by rw [hS]; (repeat' (first | (with_reducible exact Below.refl _ _) | (with_reducible assumption) | (with_reducible refine Below.alloc ?_ ?_ _) | (with_reducible refine Below.drew ?_) | (with_reducible refine below_drewN' ?_ _) | (with_reducible refine Below.setCell ?_ ?_ _) | (with_reducible exact Nat.le_refl _) | omega | (simp; done) | (simp; omega)))
  have rS : Reads wS (some ⟨w9.heap.size, 0, none⟩) ([12, 13, 0].map (.int .i64)) := by
    have := Blk.new w9 3 #[.int .i64 12, .int .i64 13, .int .i64 0]
    rw [← hS] at this
    exact .inr ⟨_, 0, rfl, this.lt, fun k u hu => by rw [Nat.zero_add]; exact (this.cells k).trans (by simpa using hu)⟩
  have h10 := h9.below bS
  have fS : Calls Tryz.prog 60 #[.slice A3 3 cc3, .slice (some ⟨w9.heap.size, 0, none⟩) 3 3] wS fun e w' => e = .returned (.bool true) ∧ Below wS.heap.size wS w' := by
    simpa using sameInts_any A3 (some ⟨w9.heap.size, 0, none⟩) cc3 3 [12, 13, 0] [12, 13, 0] (by simp) (by simp) wS (k9.below bS).sl.reads rS
  have HS := Lib.hid hS
  clear hS bS rS k9 h9
  go_wp2_with fail
  rw [← HS.out]
  refine fS.mono ?_
  rintro e w11 ⟨rfl, hb11⟩
  have h11 := h10.below hb11
  have f11 := play_read h11 50
  rw [HR.out] at f11
  clear fS HS hb11 h10
  go_wp2_with fail
  refine f11.mono ?_
  rintro e w12 ⟨rfl, hb12⟩
  have h12 := h11.below hb12
  have f12 := play_write h12 3 8 ⟨#[]⟩ (by omega) (by decide)
  rw [a12] at f12
  clear f11 h11 hb12
  go_wp2_with fail
  refine f12.mono ?_
  rintro e w13 ⟨rfl, F13, h13, -⟩
  have f13 := play_free h13 none 0 [] (by simp) Reads.nil
  rw [a13] at f13
  clear f12 h12
  go_wp2_with fail
  refine f13.mono ?_
  rintro e w14 ⟨rfl, F14, h14, -⟩
  have f14 := play_abort h14 (by decide +kernel)
  clear f13 h13
  go_wp2_with fail
  refine f14.mono ?_
  rintro e w15 ⟨rfl, F15, h15, -⟩
  have f15 := abort_ended U F15 D _ w15 h15.td.tx rfl
  clear f14 h14
  go_wp2_with fail
  refine f15.mono ?_
  rintro e w16 ⟨rfl, rfl⟩
  have B16 := h15.bl
  clear f15 h15
  go_wp2_with fail
  go_ret
  exact ⟨rfl, B16⟩
end Go.Proofs.YtloddiipepiocaaGreatDoor
/- A region that draws its order, as a tree: reads first, operations that come alone, and forks at which either of two may come first. No program in sight. -/
namespace Go.Proofs.YtloddiipepiocaaGreatDoor
open Go

inductive Tr where
  | done
  | take (k : Nat) (r : Tr)
  | one (k : Nat) (r : Tr)
  | fork (i j : Nat) (r1 r2 : Tr)
inductive Tf where
  | done
  | take (o : Oper) (r : Tf)
  | one (o : Oper) (r : Tf)
  | fork (o p : Oper) (r1 r2 : Tf)
def Tr.takes : List Nat → Tr → Tr
  | [], r => r
  | k :: t, r => .take k (Tr.takes t r)
def Tr.fill (l : List Oper) (d : Oper) : Tr → Tf
  | .done => .done
  | .take k r => .take (l.getD k d) (r.fill l d)
  | .one k r => .one (l.getD k d) (r.fill l d)
  | .fork i j r1 r2 => .fork (l.getD i d) (l.getD j d) (r1.fill l d) (r2.fill l d)
def Tr.size : Tr → Nat
  | .done => 0
  | .take _ r => r.size + 1
  | .one _ r => r.size + 1
  | .fork _ _ r _ => r.size + 1
section
variable {P : Program} {ops : Array Oper} {Q : Exit → Act → World → Prop} {S : World → Prop}
def treeT (P : Program) (ops : Array Oper) (Q : Exit → Act → World → Prop) (S : World → Prop) : Tf → Act → World → Prop
  | .done, a, w => Q .normal a w
  | .take o r, a, w => ∃ v, YieldsIf P ops S o v a ∧ treeT P ops Q S r (a.put o.dst v) w
  | .one o r, a, w => o.wp P a w (fun a' w' => S w' ∧ treeT P ops Q S r a' w') Q
  | .fork o p r1 r2, a, w => o.wp P a w (fun a' w' => S w' ∧ treeT P ops Q S r1 a' w') Q ∧ p.wp P a w (fun a' w' => S w' ∧ treeT P ops Q S r2 a' w') Q
def treeB (ops : Array Oper) : Tr → Array Bool → Bool
  | .done, L => decide (Region.ready .any ops L = [])
  | .take k r, L => decide (k < ops.size) && (Region.ready .any ops L).contains k && Region.free .any ops L k && treeB ops r (L.setIfInBounds k true)
  | .one k r, L => bare ops k && decide (Region.ready .any ops L = [k]) && treeB ops r (L.setIfInBounds k true)
  | .fork i j r1 r2, L => bare ops i && bare ops j && decide (Region.ready .any ops L = [i, j] ∨ Region.ready .any ops L = [j, i]) && decide (r1.size = r2.size) && treeB ops r1 (L.setIfInBounds i true) && treeB ops r2 (L.setIfInBounds j true)
theorem any_tree {l : List Oper} {d : Oper} (hns : Region.noSelect l.toArray = true) (hQ : ∀ c a d v w, Q (.panic c) (Act.put a d v) w → Q (.panic c) a w) :
    ∀ (t : Tr) (L : Array Bool) (a : Act) (w : World), S w → treeB l.toArray t L = true → treeT P l.toArray Q S (t.fill l d) a w → anyS P l.toArray Q S l.toArray.size t.size L a w
  | .done, L, a, w, _, hB, h => by
    simp only [treeB, decide_eq_true_eq] at hB
    exact ⟨hB, h⟩
  | .take k r, L, a, w, hS, hB, h => by
    simp only [treeB, Bool.and_eq_true, decide_eq_true_eq] at hB
    obtain ⟨⟨⟨h0, h1⟩, h2⟩, h4⟩ := hB
    have h0 : l.toArray[k]? = some (l.getD k d) := by
      have h0 : k < l.length := by simpa using h0
      simp [List.getD_eq_getElem?_getD, h0]
    obtain ⟨v, hy, h⟩ := h
    exact anyT_take' h0 hns (fun j hj hjs => by omega) hQ _ L a w (Region.free_spec h0 h2) (by simpa using h1) hy hS (any_tree hns hQ r _ _ _ hS h4 h)
  | .one k r, L, a, w, hS, hB, h => by
    simp only [treeB, Bool.and_eq_true, decide_eq_true_eq] at hB
    obtain ⟨⟨b1, h1⟩, h4⟩ := hB
    refine ⟨fun e => (by rw [h1] at e; cases e), fun i hi => ?_⟩
    rw [h1] at hi
    have hik : i = k := by simpa using hi
    subst hik
    refine wpOp_bare (bare_get (d := d) b1) b1 (Oper.wp_mono ?_ h)
    rintro a' w' ⟨s1, h'⟩
    exact ⟨fun _ => s1, any_tree hns hQ r _ a' w' s1 h4 h'⟩
  | .fork i j r1 r2, L, a, w, hS, hB, h => by
    simp only [treeB, Bool.and_eq_true, decide_eq_true_eq] at hB
    obtain ⟨⟨⟨⟨⟨b1, b2⟩, h1⟩, hN⟩, m1⟩, m2⟩ := hB
    obtain ⟨H1, H2⟩ := h
    have hmem : ∀ k, k ∈ Region.ready .any l.toArray L → k = i ∨ k = j := fun k hk => by
      rcases h1 with h1 | h1
      · rw [h1] at hk; simpa using hk
      · rw [h1] at hk; simpa [or_comm] using hk
    refine ⟨fun e => (by rcases h1 with h1 | h1 <;> (rw [h1] at e; cases e)), fun k hk => ?_⟩
    rcases hmem k hk with e | e
    · subst e
      refine wpOp_bare (bare_get (d := d) b1) b1 (Oper.wp_mono ?_ H1)
      rintro a' w' ⟨s1, h'⟩
      exact ⟨fun _ => s1, any_tree hns hQ r1 _ a' w' s1 m1 h'⟩
    · subst e
      refine wpOp_bare (bare_get (d := d) b2) b2 (Oper.wp_mono ?_ H2)
      rintro a' w' ⟨s1, h'⟩
      refine ⟨fun _ => s1, ?_⟩
      rw [hN]
      exact any_tree hns hQ r2 _ a' w' s1 m2 h'
/-- THE LAW: S holds behind each operation. -/
theorem wp_region_tree {id : Nat} {a : Act} {w : World} {o : Oper} {l : List Oper} (t : Tr) (S : World → Prop) (hm : P.follows .mixedOrders = true)
    (hB : (Region.noSelect (o :: l).toArray && decide (t.size = (o :: l).length) && treeB (o :: l).toArray t (Array.replicate (o :: l).length false)) = true)
    (hQ1 : ∀ c a t v w, Q (.panic c) (Act.put a (some t) v) w → Q (.panic c) a w) (hS : S w.drew)
    (h : treeT P (o :: l).toArray Q S (t.fill (o :: l) o) a w.drew) : (Code.region id (o :: l).toArray true).wp P Q a w := by
  have hQ : ∀ c a d v w, Q (.panic c) (Act.put a d v) w → Q (.panic c) a w := fun c a d v w h => by
    cases d with
    | none => exact h
    | some t => exact hQ1 c a t v w h
  simp only [Bool.and_eq_true, decide_eq_true_eq] at hB
  obtain ⟨⟨hns, hn⟩, hB⟩ := hB
  refine wp_region_any hm ?_
  have H := any_tree (P := P) (Q := Q) (S := S) hns hQ t (Array.replicate (o :: l).length false) a w.drew hS hB h
  rw [hn] at H
  have := any_of_anyS _ _ _ _ H
  simpa using this
theorem tree_done {a : Act} {w : World} (h : Q .normal a w) : treeT P ops Q S .done a w := h
theorem tree_take {o : Oper} {r : Tf} {a : Act} {w : World} (hw : Region.wanted o (yielded ops a.tmps) = true) (v : Value) (hy : ∀ w, S w → (execOp a.eval o).run P w = .ok (.value v) w) (h : treeT P ops Q S r (a.put o.dst v) w) : treeT P ops Q S (.take o r) a w :=
  ⟨v, .inl ⟨hw, hy⟩, h⟩
theorem tree_one {o : Oper} {r : Tf} {a : Act} {w : World} (h : ∀ K : Act → World → Prop, (∀ a' w', S w' → treeT P ops Q S r a' w' → K a' w') → o.wp P a w K Q) : treeT P ops Q S (.one o r) a w := h _ fun _ _ x y => ⟨x, y⟩
theorem tree_fork {o p : Oper} {r1 r2 : Tf} {a : Act} {w : World}
    (h1 : ∀ K : Act → World → Prop, (∀ a' w', S w' → treeT P ops Q S r1 a' w' → K a' w') → o.wp P a w K Q) (h2 : ∀ K : Act → World → Prop, (∀ a' w', S w' → treeT P ops Q S r2 a' w' → K a' w') → p.wp P a w K Q) : treeT P ops Q S (.fork o p r1 r2) a w :=
  ⟨h1 _ fun _ _ x y => ⟨x, y⟩, h2 _ fun _ _ x y => ⟨x, y⟩⟩
end
end Go.Proofs.YtloddiipepiocaaGreatDoor
