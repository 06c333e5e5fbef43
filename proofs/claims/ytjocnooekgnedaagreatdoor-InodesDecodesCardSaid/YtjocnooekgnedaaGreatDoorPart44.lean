/- Parts of the proof, put together by program: LD, LE. -/
import Derived.Test.YtjocnooekgnedaaGreatDoorPart43
import Derived.Test.YtjocnooekgnedaaGreatDoorPart34
import Derived.Test.YtjocnooekgnedaaGreatDoorPart01
set_option linter.unusedVariables false
set_option linter.unusedSimpArgs false
/- Layer 11: the iterator over the inodes; a law for ranges over a function whose elements lie in memory that the iterator makes. -/
namespace Go.Proofs.YtjocnooekgnedaaGreatDoor
open Go.RowKit Go.Shelf Go.Maps

section
variable {F : Fence} {n : Nat} {P : Program} {α : Type}

/-- An iterator's contract where what it hands on is good in the world of the round. -/
def SeqG (F : Fence) (n : Nat) (P : Program) (gf : Nat) (lb : Array Value) (encs : α → Array Value) (Good : List α → α → World → Prop) (Kp : World → World → Prop) (S Sp : List α → Prop) (w : World) : Prop :=
  ∀ (l : Nat) (J Jx : List α → World → Prop) (W : World), Below w.heap.size w W → AbidesFrom W.heap.size J →
    (∀ pre x V, J pre V → Good pre x V → YieldAt F (n - 1) P l (encs x) V fun e V' => (e = .returned (.bool true) ∧ J (pre ++ [x]) V' ∧ Kp V V') ∨ (e = .returned (.bool false) ∧ Jx (pre ++ [x]) V')) →
    J [] W → CallsIn F n P gf (#[.func (.yield l) #[] #[]] ++ lb) W fun e V' => (∃ v, e = .returned v) ∧ ((∃ xs, S xs ∧ J xs V') ∨ (∃ pre, Sp pre ∧ Jx pre V'))

theorem wpIn_rangeFunc_good {g : Operand} {ps : Array Tmp} {assign body : Code} {Q : Exit → Act → World → Prop} {a : Act} {w : World}
    (hro : F.round = none) (h1 : 1 ≤ n) {gf : Nat} {lb : Array Value} (hg : a.eval g = .func (.func gf) #[] lb) (hFg : F.fn gf) (eg : ∀ args w, (callFunc gf args).run P w = .ok (.enter gf args) w)
    {encs : α → Array Value} {Good : List α → α → World → Prop} {Kp : World → World → Prop} {S Sp : List α → Prop} {w0 : World} (hseq : SeqG F (n - 1) P gf lb encs Good Kp S Sp w0)
    (hKt : ∀ {A B C : World}, Kp A B → Kp B C → Kp A C) (hKb : ∀ (W : World) (l : Nat) (o o' : Obj), w.heap.size ≤ l → W.heap[l]? = some o → o.isCells = false → o.isWalk = false → Kp W (W.putObj l o'))
    (hb0 : Below w0.heap.size w0 w) (hps : ∀ x, (encs x).size = ps.size)
    (I : List α → World → Prop) (Ix : Code → List α → World → Prop) (hI : OwnFrom w.heap.size I) (hIx : ∀ c s W o', Ix c s W → Ix c s (W.putObj (w.heap.size + 1) o')) (h0 : I [] w) (Ax : List α → α → Act → World → Prop) (hAx : ∀ pre x a', OwnFrom w.heap.size (fun (_ : Unit) W => Ax pre x a' W))
    (hassign : ∀ (l : Nat) (pre : List α) (x : α) (W : World) (K : Act → World → Prop), I pre W → Good pre x W → (∀ a' W', KeepsFrom w.heap.size W W' → Kp W W' → I pre W' → Ax pre x a' W' → K a' W') →
      assign.wpIn (F.inRound l) (n - 1 - 1) P (Exit.then K (fun _ _ _ => False)) { tmps := (ps.zip (encs x)).foldl (fun t (p, v) => t.setIfInBounds p v) a.tmps, defers := [] } W)
    (hbody : ∀ (l : Nat) (pre : List α) (x : α) (a' : Act) (W : World), w.heap.size + 1 < W.heap.size → I pre W → Ax pre x a' W → body.wpIn (F.inRound l) (n - 1 - 1) P (ownPostG w.heap.size Kp I Ix (pre ++ [x]) W) a' W)
    (hdone : ∀ (D : Nat) (xs : List α) (W : World), D = w.heap.size → S xs → I xs W → W.heap[D]? = some (.deferred (some [])) → Q .normal { a with defers := { target := .collected D, args := #[] } :: a.defers } W)
    (hstop : ∀ (D : Nat) (c : Code) (pre : List α) (W : World), D = w.heap.size → Sp pre → Ix c pre W → W.heap[D]? = some (.deferred (some [])) → c.wpIn F n P Q { a with defers := { target := .collected D, args := #[] } :: a.defers } W) :
    (Code.rangeFunc g ps assign body).wpIn F n P Q a w := by
  refine wpIn_rangeFunc fun fn hfn => ?_
  rw [hro]
  let rc : LoopState → Option Code → Loop := fun st pe => { state := st, pending := pe, fn, tmps := a.tmps, params := ps, assign, body, defers := w.heap.size }
  obtain ⟨W1, hW1⟩ : ∃ W1, (w.alloc (.deferred (some []))).alloc (.loop (rc .ready none)) = W1 := ⟨_, rfl⟩
  have z1 : W1.heap.size = w.heap.size + 2 := by rw [← hW1]; simp
  have hl1 : W1.heap[w.heap.size + 1]? = some (.loop (rc .ready none)) := by
    rw [← hW1]; have := World.alloc_heap_new (w.alloc (.deferred (some []))) (.loop (rc .ready none)); rwa [World.size_alloc] at this
  have hd1 : W1.heap[w.heap.size]? = some (.deferred (some [])) := by
    rw [← hW1]; exact (Below.heap_alloc _ _ _ (by simp)).trans (World.alloc_heap_new w _)
  have hi1 : I [] W1 := by rw [← hW1]; exact hI.alloc _ (hI.alloc _ h0)
  have hb1 : Below w0.heap.size w0 W1 := by
    rw [← hW1]; exact hb0.trans ((((Below.refl _ w).alloc (Nat.le_refl _) _).alloc (by simp) _).mono hb0.size)
  have hnw : ∀ {A : World} {row : Option Nat}, (∀ r, row = some r → W1.heap.size ≤ r ∧ ∃ o : Obj, A.heap[r]? = some o ∧ o.isWalk = true) → (∀ r, row = some r → w.heap.size ≤ r ∧ ∃ o : Obj, A.heap[r]? = some o ∧ o.isCells = false) :=
    fun hr r e => by obtain ⟨hB, o, ho, hw⟩ := hr r e; exact ⟨by omega, o, ho, Obj.not_cells_of_walk hw⟩
  refine ⟨w.heap.size + 1, [{ target := .collected w.heap.size, args := #[] }], W1, { target := .fn (.func gf) lb, args := #[.func (.yield (w.heap.size + 1)) #[] #[]] }, W1, gf,
    #[.func (.yield (w.heap.size + 1)) #[] #[]] ++ lb, W1, ?_, ?_, ?_, ?_, fun _ => h1, ?_⟩
  · rw [← hW1]; exact run_enterLoop_outer _ _ _ _ _
  · simp only [resolve, hg]
    simp [go_sem]
  · intro f' hf'; simp [Target.leads] at hf'; subst hf'; exact hFg
  · simp [invoke, go_sem, eg]
  refine (hseq (w.heap.size + 1) (fun pre W => I pre W ∧ W.heap[w.heap.size + 1]? = some (.loop (rc .ready none)) ∧ W.heap[w.heap.size]? = some (.deferred (some [])))
    (fun pre W => ∃ c, Ix c pre W ∧ W.heap[w.heap.size + 1]? = some (.loop (rc .done (some c))) ∧ W.heap[w.heap.size]? = some (.deferred (some [])))
    W1 hb1
    (fun s A B row hs hg' hr => ⟨hI s A B row hs.1 hg' (hnw hr), (grownBy_keeps hg' (fun r e => (hr r e).2) hs.2.1 rfl).trans hs.2.1, (grownBy_keeps hg' (fun r e => (hr r e).2) hs.2.2 rfl).trans hs.2.2⟩)
    ?_ ⟨hi1, hl1, hd1⟩).mono ?_
  · rintro pre x W ⟨hi, hl, hk⟩ hgood
    have hy := run_yield (P := P) (args := encs x) hl (hps x)
    refine ⟨fn, _, assign, body, hy, roundIn_of_wpIn hfn (hassign _ pre x W _ hi hgood ?_)⟩
    intro a' Wa hkfa hkpa hia hax
    have hla := hkfa.same _ _ (by omega) hl rfl
    have hka := hkfa.same _ _ (Nat.le_refl _) hk rfl
    have hlt : w.heap.size + 1 < Wa.heap.size := (Array.getElem?_eq_some_iff.1 hla).1
    obtain ⟨Wb, hWb⟩ : ∃ Wb, Wb = Wa.putObj (w.heap.size + 1) (.loop { rc .ready none with state := .busy }) := ⟨_, rfl⟩
    have hl2 : Wb.heap[w.heap.size + 1]? = some (.loop { rc .ready none with state := .busy }) := by rw [hWb]; exact World.putObj_heap_same hlt
    have hk2 : Wb.heap[w.heap.size]? = some (.deferred (some [])) := by rw [hWb]; exact (World.putObj_heap_other (by omega)).trans hka
    have hw2 : Kp Wa Wb := by rw [hWb]; exact hKb _ _ _ _ (by omega) hla rfl rfl
    refine ⟨Wb, by rw [hWb]; exact run_beginRound hla rfl, ?_⟩
    refine wpIn_mono (hbody _ pre x a' Wb (by rw [hWb]; simpa using hlt) (by rw [hWb]; exact hI.putObj _ hia (by omega) hla rfl) (by rw [hWb]; exact (hAx pre x a').putObj (s := ()) _ hax (by omega) hla rfl)) ?_
    have fin : ∀ (jump : Option Code) (W3 : World), KeepsFrom w.heap.size Wb W3 →
        (Instr.endRound (w.heap.size + 1) jump).run P W3 = .ok (.bool jump.isNone) (W3.putObj (w.heap.size + 1) (.loop (rc (if jump.isNone then .ready else .done) jump))) ∧
        W3.heap[w.heap.size + 1]? = some (.loop { rc .ready none with state := .busy }) ∧
        (W3.putObj (w.heap.size + 1) (.loop (rc (if jump.isNone then .ready else .done) jump))).heap[w.heap.size + 1]? = some (.loop (rc (if jump.isNone then .ready else .done) jump)) ∧
        (W3.putObj (w.heap.size + 1) (.loop (rc (if jump.isNone then .ready else .done) jump))).heap[w.heap.size]? = some (.deferred (some [])) := fun jump W3 hk3 => by
      have hl3 := hk3.same _ _ (by omega) hl2 rfl
      exact ⟨run_endRound (P := P) jump hl3, hl3, World.putObj_heap_same (Array.getElem?_eq_some_iff.1 hl3).1, (World.putObj_heap_other (by omega)).trans (hk3.same _ _ (Nat.le_refl _) hk2 rfl)⟩
    rintro e a3 W3 hp
    cases e with
    | normal =>
      obtain ⟨hk3, hkp3, hi3⟩ := hp
      obtain ⟨hr, hl3, hl4, hk4⟩ := fin none W3 hk3
      exact ⟨_, _, hr, .inl ⟨rfl, ⟨hI.putObj _ hi3 (by omega) hl3 rfl, hl4, hk4⟩, hKt hkpa (hKt (hKt hw2 hkp3) (hKb _ _ _ _ (by omega) hl3 rfl rfl))⟩⟩
    | ret =>
      obtain ⟨hk3, hi3⟩ := hp
      obtain ⟨hr, hl3, hl4, hk4⟩ := fin (some .ret) W3 hk3
      exact ⟨_, _, hr, .inr ⟨rfl, .ret, hIx _ _ _ _ hi3, hl4, hk4⟩⟩
    | exit id =>
      obtain ⟨hk3, hi3⟩ := hp
      obtain ⟨hr, hl3, hl4, hk4⟩ := fin (some (.exit id)) W3 hk3
      exact ⟨_, _, hr, .inr ⟨rfl, .exit id, hIx _ _ _ _ hi3, hl4, hk4⟩⟩
    | goto t =>
      obtain ⟨hk3, hi3⟩ := hp
      obtain ⟨hr, hl3, hl4, hk4⟩ := fin (some (.goto t)) W3 hk3
      exact ⟨_, _, hr, .inr ⟨rfl, .goto t, hIx _ _ _ _ hi3, hl4, hk4⟩⟩
    | panic ch => exact hp.elim
    | outgrown => exact hp.elim
  · rintro e W2 ⟨⟨v, rfl⟩, (⟨xs, hS, hi, hl, hk⟩ | ⟨pre, hSp, c, hi, hl, hk⟩)⟩
    · exact ⟨none, _, run_endLoop (P := P) hl (by simp [rc]), hdone _ xs _ rfl hS (hI.putObj _ hi (by omega) hl rfl) ((World.putObj_heap_other (by omega)).trans hk)⟩
    · exact ⟨some c, _, run_endLoop (P := P) hl (by simp [rc]), hstop _ c pre _ rfl hSp (hIx _ _ _ _ hi) ((World.putObj_heap_other (by omega)).trans hk)⟩
end
end Go.Proofs.YtjocnooekgnedaaGreatDoor
/- Layer 11: each: the iterator over the inodes (inodes.each and its closure). -/
namespace Go.Proofs.YtjocnooekgnedaaGreatDoor
open Go.RowKit Go.Shelf Go.Maps

attribute [local go_sem] Oper.semAt_some

/-- An element of the iterator: the inode's place (from 0 on), and where its two rows lie. -/
structure EachX where
  k : Nat
  bv : Value
  av : Value
abbrev eachC (v : Ino) (bv av : Value) (e : Int) : Array Value := #[.int .i64 v.kind, .int .i64 v.links, .int .i64 v.size, .int .i64 v.major, .int .i64 v.minor, .int .i64 v.parent, bv, av, .int .i64 e]
abbrev eachV (y : TxS) (x : DevS) (z : EachX) : Array Value := #[.int .i64 ((z.k : Int) + 1), .agg (eachC (y.iget x ((z.k : Int) + 1)).1 z.bv z.av (y.iget x ((z.k : Int) + 1)).2)]
structure EachGood (n₀ : Nat) (y : TxS) (x : DevS) (m : Nat) (pre : List EachX) (z : EachX) (V : World) : Prop where
  at_ : z.k = pre.length
  lt : z.k < m
  rb : V.ownsRow n₀ 3 1 z.bv (y.iget x ((z.k : Int) + 1)).1.blocks.length ((y.iget x ((z.k : Int) + 1)).1.blocks.map (.int .i64))
  ra : V.ownsRow n₀ 3 1 z.av (y.iget x ((z.k : Int) + 1)).1.attrs.length ((y.iget x ((z.k : Int) + 1)).1.attrs.map (.int .i64))
/-- How the iterator ends: all are through, or the last had an error. -/
def EachEnd (y : TxS) (x : DevS) (m : Nat) (xs : List EachX) : Prop := xs.length = m ∨ ∃ k, k + 1 = xs.length ∧ (y.iget x ((k : Int) + 1)).2 ≠ 0

set_option maxRecDepth 100000 in
theorem each_any (T : Nat) (y : TxS) (w : World) :
    Calls Tryz.prog 51 #[.pointer (some ⟨T, 0, none⟩), .agg (layC y), .int .i64 (2 + y.j)] w fun e w' =>
      e = .returned (.func (.func 80) #[] #[.pointer (some ⟨w.heap.size + 1, 0, none⟩), .pointer (some ⟨w.heap.size, 0, none⟩), .pointer (some ⟨w.heap.size + 2, 0, none⟩)]) ∧
      w' = ((w.alloc (.cells #[.pointer (some ⟨T, 0, none⟩)] 42)).alloc (.cells (layC y) 23)).alloc (.cells #[.int .i64 (2 + y.j)] 3) := by
  have hmf : ∀ (fn : Fn) (first cap : Array Value) (w : World), (Instr.makeFunc fn first cap).run Tryz.prog w = .ok (.func fn first cap) w := fun _ _ _ _ => rfl
  go_enter Tryz.func51, Tryz.ntmps51
  go_wp2
  go_ret
  exact ⟨rfl, rfl⟩

set_option maxRecDepth 100000 in
set_option maxHeartbeats 4000000 in
theorem each1_in (hD : DecodeAll) (n : Nat) (hn : 1 ≤ n) (T : Nat) (Fs : List Nat) (D : Nat) (y : TxS) (B : List Nat) (x : DevS) (l B1 B2 B3 n₀ : Nat) (w : World) (h : TxAt w T Fs D y) (hd : DevAt w D B x) (hs : y.stateE = 0) (hw0 : w.heap.size ≤ n₀)
    (bs : List Nat) (hbs : ∀ k ∈ bs, w.heap.size ≤ k) (h1 : B1 < n₀) (h2 : B2 < n₀) (h3 : B3 < n₀) (x1 : B1 ∉ bs) (x2 : B2 ∉ bs) (x3 : B3 ∉ bs)
    (J Jx : List EachX → World → Prop) (W : World) (hW : Below w.heap.size w W) (hl : n₀ ≤ W.heap.size) (hJ : ∀ pre V V', J pre V → V.grownBy V' none → J pre V')
    (hY : ∀ pre z V, J pre V → EachGood n₀ y x y.i.toNat pre z V → YieldAt Fence.wide (n - 1) Tryz.prog l (eachV y x z) V fun e V' =>
      (e = .returned (.bool true) ∧ J (pre ++ [z]) V' ∧ KeepEx n₀ bs V V') ∨ (e = .returned (.bool false) ∧ Jx (pre ++ [z]) V'))
    (b1 : Blk W B1 42 #[.pointer (some ⟨T, 0, none⟩)]) (b2 : Blk W B2 23 (layC y)) (b3 : Blk W B3 3 #[.int .i64 (2 + y.j)]) (h0 : J [] W) :
    CallsIn Fence.wide n Tryz.prog 80 #[.func (.yield l) #[] #[], .pointer (some ⟨B2, 0, none⟩), .pointer (some ⟨B1, 0, none⟩), .pointer (some ⟨B3, 0, none⟩)] W fun e W' => (∃ v, e = .returned v) ∧
      ((∃ ys, EachEnd y x y.i.toNat ys ∧ J ys W') ∨ (∃ pre, True ∧ Jx pre W')) := by
  have hbd := h.ok.bds
  have hrg := h.ok.rg
  refine callsIn_of_wp Tryz.func80 rfl trivial ?_ rfl
  simp only [Tryz.ntmps80, List.size_toArray, List.length_cons, List.length_nil, Nat.reduceAdd, Nat.reduceSub, Array.replicate_succ, Array.replicate_zero, List.push_toArray, List.append_toArray, List.nil_append, List.cons_append]
  gi_wp2
  gi_loopw [5] (fun q wr => ∃ k : Nat, k ≤ y.i.toNat ∧ q = .int .i64 ((k : Int) + 1) ∧ KeepEx n₀ bs W wr ∧ ∃ pre : List EachX, pre.length = k ∧ J pre wr)
    (fun q _ => y.i.toNat + 1 - (intOf q).toNat)
  case atStart => exact ⟨0, Nat.zero_le _, rfl, KeepEx.refl _ _ _, [], rfl, h0⟩
  case round =>
    obtain ⟨k, hk, rfl, hnx, pre, hpl, hJs⟩ := hrel
    have hnb := hnx.toBelow hw0 hbs
    have hh := h.below (hW.trans hnb)
    have hhd := hd.below (hW.trans hnb)
    have b1r := hnx.blk b1 h1 x1
    have b2r := hnx.blk b2 h2 x2
    have b3r := hnx.blk b3 h3 x3
    have c1 : wr.cell? ⟨B1, 0, none⟩ = some (.pointer (some ⟨T, 0, none⟩)) := (b1r.cells 0).trans rfl
    have c20 : wr.cell? ⟨B2, 0, none⟩ = some (.int .i64 y.s) := (b2r.cells 0).trans rfl
    have c21 : wr.cell? ⟨B2, 1, none⟩ = some (.int .i64 y.j) := (b2r.cells 1).trans rfl
    have c22 : wr.cell? ⟨B2, 2, none⟩ = some (.int .i64 y.i) := (b2r.cells 2).trans rfl
    have c3 : wr.cell? ⟨B3, 0, none⟩ = some (.int .i64 (2 + y.j)) := (b3r.cells 0).trans rfl
    have l1 := b1r.lt
    have l2 := b2r.lt
    have l3 := b3r.lt
    have hsz := hnx.size
    by_cases hlt : k < y.i.toNat
    · have d1 : (k : Int) + 1 ≤ y.i := by omega
      have hg := get_tx hD T Fs D y B x ((k : Int) + 1) wr hh hhd hs ⟨by omega, d1⟩
      have m1 : IntKind.i64.wrap ((k : Int) + 1 + 1) = ((k + 1 : Nat) : Int) + 1 := by rw [IntKind.wrap_i64]; omega
      have HN := Lib.hid hnx
      have HJ := Lib.hid hJs
      have HP := Lib.hid hpl
      clear hnx hJs hpl hh hhd hnb b1r b2r b3r hbd hrg
      gi_wp2_with fail
      refine ⟨trivial, (callsIn_wide.2 hg).mono ?_⟩
      rintro e W2 ⟨bv, av, rfl, hrb, hra, hb2⟩
      obtain ⟨⟨rv, re⟩, hr⟩ : ∃ r, y.iget x ((k : Int) + 1) = r := ⟨_, rfl⟩
      rw [hr] at hrb hra ⊢
      simp only at hrb hra ⊢
      obtain ⟨Ab, cb, rfl⟩ := own_slice hrb
      obtain ⟨Aa, ca, rfl⟩ := own_slice hra
      obtain ⟨W3, hW3⟩ : ∃ W3, W2.alloc (.cells (inoC rv (.slice Ab rv.blocks.length cb) (.slice Aa rv.attrs.length ca)) 26) = W3 := ⟨_, rfl⟩
      have b23 : Below W2.heap.size W2 W3 := by rw [← hW3]; exact (Below.refl _ _).alloc (Nat.le_refl _) _
      have b03 : Below wr.heap.size wr W3 := hb2.trans (b23.mono hb2.size)
      have hy := hY pre ⟨k, .slice Ab rv.blocks.length cb, .slice Aa rv.attrs.length ca⟩ W3 (hJ _ _ _ HJ.out ⟨b03.os, b03.tape, b03.output, b03.size, fun q hq _ => b03.block q hq⟩)
        ⟨HP.out.symm, hlt, by rw [hr]; exact own_below (own_lower hrb (by omega)) b23, by rw [hr]; exact own_below (own_lower hra (by omega)) b23⟩
      simp only [eachV, eachC, hr] at hy
      have bX : Blk W3 W2.heap.size 26 (inoC rv (.slice Ab rv.blocks.length cb) (.slice Aa rv.attrs.length ca)) := by rw [← hW3]; exact Blk.new _ _ _
      have HK : Hid (KeepEx n₀ bs W W3) := Lib.hid (HN.out.trans (KeepEx.of_below (b03.mono (by omega))))
      have HY := Lib.hid hy
      have HW := Lib.hid hW3
      have HR := Lib.hid hr
      clear hW3 hr hy hg hrb hra b23 b03 HJ HN
      gi_wp2_with fail
      rw [HW.out]
      obtain ⟨fn, tmps, assign, body, hy, hR⟩ := HY.out
      have cN : (re != 0) = true ∨ (re != 0) = false := by cases h : (re != 0) <;> simp
      have c3' := c3
      clear c1 c20 c21 c22 c3 l1 l2 l3 HY
      rw [hy]
      gi_wp2
      refine hR.mono ?_
      rintro e W4 (⟨rfl, hJ4, hk4⟩ | ⟨rfl, hJx4⟩)
      · have HK4 := Lib.hid (HK.out.trans hk4)
        have HJ4 := Lib.hid hJ4
        clear hk4 hJ4 hR hy HK bX
        rcases cN with hE | hE
        · gi_wp2_with fail
          refine bodyPost_ret (results_none rfl _ _ _) rfl ?_
          refine ⟨⟨_, rfl⟩, .inl ⟨_, .inr ⟨k, by have := HP.out; simp [this], by rw [HR.out]; simpa using hE⟩, HJ4.out⟩⟩
        · gi_wp2_with fail
          refine ⟨⟨k + 1, by omega, by push_cast; rfl, HK4.out, _, by have := HP.out; simp [this], HJ4.out⟩, by simp [intOf]; omega⟩
      · clear hR hy HK bX
        gi_wp2_with fail
        refine bodyPost_ret (results_none rfl _ _ _) rfl ?_
        exact ⟨⟨_, rfl⟩, .inr ⟨_, trivial, hJx4⟩⟩
    · have d1 : ¬ (k : Int) + 1 ≤ y.i := by omega
      have HJ := Lib.hid hJs
      have HP := Lib.hid hpl
      clear hJs hnx hh hhd hnb hpl
      gi_wp2
      go_end0
      exact ⟨⟨_, rfl⟩, .inl ⟨_, .inl (by have := HP.out; omega), HJ.out⟩⟩
/-- each's iterator, for a range over it. -/
theorem each_good (hD : DecodeAll) (n : Nat) (hn : 1 ≤ n) (T : Nat) (Fs : List Nat) (D : Nat) (y : TxS) (B : List Nat) (x : DevS) (B1 B2 B3 : Nat) (w w0 : World) (h : TxAt w T Fs D y) (hd : DevAt w D B x) (hs : y.stateE = 0) (hw : Below w.heap.size w w0)
    (bs : List Nat) (hbs : ∀ k ∈ bs, w.heap.size ≤ k) (b1 : Blk w0 B1 42 #[.pointer (some ⟨T, 0, none⟩)]) (b2 : Blk w0 B2 23 (layC y)) (b3 : Blk w0 B3 3 #[.int .i64 (2 + y.j)]) (x1 : B1 ∉ bs) (x2 : B2 ∉ bs) (x3 : B3 ∉ bs) :
    SeqG Fence.wide n Tryz.prog 80 #[.pointer (some ⟨B2, 0, none⟩), .pointer (some ⟨B1, 0, none⟩), .pointer (some ⟨B3, 0, none⟩)] (eachV y x) (EachGood w0.heap.size y x y.i.toNat) (KeepEx w0.heap.size bs) (EachEnd y x y.i.toNat) (fun _ => True) w0 := by
  intro l J Jx W hW hJ hY h0
  exact each1_in hD n hn T Fs D y B x l B1 B2 B3 w0.heap.size w h hd hs hw.size bs hbs b1.lt b2.lt b3.lt x1 x2 x3 J Jx W (hw.trans (hW.mono hw.size)) hW.size
    (fun pre V V' hJV hg => hJ pre V V' none hJV hg (fun r e => by cases e)) hY (b1.belowAll hW) (b2.belowAll hW) (b3.belowAll hW) h0
end Go.Proofs.YtjocnooekgnedaaGreatDoor
