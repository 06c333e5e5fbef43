/- Worlds that are kept but for some blocks: for loops over iterators whose body writes boxes of the caller's. -/
import Derived.RangeFuncNested
import Derived.RangeFuncBound
import Derived.RangeFuncCalls
import Derived.RangeFuncLeaves
import Derived.RangeFuncBox
import Derived.Shelf.Abstract
import Derived.Shelf.RegionOpen
import Derived.OwnWalkIn
import Derived.TacticsInMore
import Derived.LoopNIn
import Derived.LoopIn
import Derived.Test.YtenfheheepkfbaaL2
namespace Go.Proofs.Ytenfheheepkfbaa
open Go.RowKit Go.Shelf

/-- Below block B, but for the blocks bs, w' is as w was. -/
structure KeepEx (B : Nat) (bs : List Nat) (w w' : World) : Prop where
  os : w'.os = w.os
  tape : w'.tape = w.tape
  output : w'.output = w.output
  size : w.heap.size ≤ w'.heap.size
  block : ∀ k, k < B → k ∉ bs → w'.heap[k]? = w.heap[k]?

section
variable {B : Nat} {bs : List Nat} {w w' : World}
theorem KeepEx.refl (B : Nat) (bs : List Nat) (w : World) : KeepEx B bs w w := ⟨rfl, rfl, rfl, Nat.le_refl _, fun _ _ _ => rfl⟩
theorem KeepEx.trans {a b c : World} (h : KeepEx B bs a b) (k : KeepEx B bs b c) : KeepEx B bs a c :=
  ⟨k.os.trans h.os, k.tape.trans h.tape, k.output.trans h.output, Nat.le_trans h.size k.size, fun i hi hn => (k.block i hi hn).trans (h.block i hi hn)⟩
theorem KeepEx.of_below (h : Below B w w') : KeepEx B bs w w' := ⟨h.os, h.tape, h.output, h.size, fun k hk _ => h.block k hk⟩
theorem KeepEx.toBelow (h : KeepEx B bs w w') {B' : Nat} (hB : B' ≤ B) (hbs : ∀ k ∈ bs, B' ≤ k) : Below B' w w' :=
  ⟨h.os, h.tape, h.output, h.size, fun k hk => h.block k (by omega) (fun hm => by have := hbs k hm; omega)⟩
theorem KeepEx.setCell (W : World) {p : Addr} (hp : p.block ∈ bs ∨ B ≤ p.block) (u : Value) : KeepEx B bs W (W.setCell p u) :=
  ⟨rfl, rfl, rfl, by simp, fun k hk hn => Below.heap_setCell _ _ _ _ (fun e => by subst e; rcases hp with hp | hp; exact hn hp; omega)⟩
theorem KeepEx.grown {row : Option Nat} {W W' : World} (hg : W.grownBy W' row) (hB : B ≤ W.heap.size) (hr : ∀ k, row = some k → k ∈ bs ∨ B ≤ k) : KeepEx B bs W W' :=
  ⟨hg.os, hg.tape, hg.output, hg.size, fun k hk hn => hg.block k (by omega) (fun e => by rcases hr k e.symm with h | h; exact hn h; omega)⟩
theorem KeepEx.alloc (W : World) (hB : B ≤ W.heap.size) (o : Obj) : KeepEx B bs W (W.alloc o) := .of_below ((Below.refl _ _).alloc hB o)
theorem KeepEx.blk {g : Nat} {t : TypeId} {cs : Array Value} (h : KeepEx B bs w w') (hb : Blk w g t cs) (hg : g < B) (hn : g ∉ bs) : Blk w' g t cs := (h.block g hg hn).trans hb
theorem KeepEx.cell (h : KeepEx B bs w w') {p : Addr} (hp : p.block < B) (hn : p.block ∉ bs) : w'.cell? p = w.cell? p := World.cell?_of_block (w := w) (h.block p.block hp hn)
theorem keepEx_t {X Y Z : World} (h : KeepEx B bs X Y) (k : KeepEx B bs Y Z) : KeepEx B bs X Z := h.trans k
theorem keepEx_b {w : World} (hn : B ≤ w.heap.size) (W : World) (l : Nat) (o o' : Obj) (hl : w.heap.size ≤ l) (h : W.heap[l]? = some o) (_ : o.isCells = false) (_ : o.isWalk = false) : KeepEx B bs W (W.putObj l o') :=
  KeepEx.grown (grownBy_putObj' W l o') (by have := (Array.getElem?_eq_some_iff.1 h).1; omega) (fun k e => by cases e; right; omega)
theorem ownFrom_keepEx {β : Type} {C : Nat} {w₀ : World} (hn : B ≤ w₀.heap.size) (hB : B ≤ C) : OwnFrom C (fun (_ : β) W => KeepEx B bs w₀ W) :=
  fun _ _ _ _ hs hg hr => hs.trans (KeepEx.grown hg (Nat.le_trans hn hs.size) (fun k e => .inr (Nat.le_trans hB (hr k e).1)))
theorem ownFrom_pure' {β : Type} {C : Nat} {p : β → Prop} : OwnFrom C (fun (s : β) (_ : World) => p s) := fun _ _ _ _ hs _ _ => hs
end

/-- 'out = append(out, ..)' in a loop's body: all that the walk owes. -/
theorem box_appended {W w2 : World} {B base : Nat} {t e : TypeId} {size : Nat} {v v' : Value} {k m : Nat} {xs ys : List Value} {tmp : Obj}
    (hv : Boxed W B t v) (hrow : W.ownsRow base e size v k xs) (hB : B < base) (hsz : base ≤ W.heap.size) (hown' : w2.ownsRow base e size v' m ys) (hgrow : (W.alloc tmp).grownBy w2 v.ownBlock) :
    Boxed w2 B t v ∧ Boxed (w2.setCell ⟨B, 0, none⟩ v') B t v' ∧ (w2.setCell ⟨B, 0, none⟩ v').ownsRow base e size v' m ys ∧ KeepsOthers W (w2.setCell ⟨B, 0, none⟩ v') ∧ KeepEx base [B] W (w2.setCell ⟨B, 0, none⟩ v') := by
  have hrow' : ∀ k, v.ownBlock = some k → base ≤ k := fun k hk => (hrow.lt k hk).1
  have hv1 : Boxed w2 B t v := (hv.alloc tmp).kept hgrow (fun e' => by have := hrow' B e'.symm; omega)
  refine ⟨hv1, hv1.set v', ownsRow_setCell_below hown' hB v', ?_, ?_⟩
  · refine ((KeepsOthers.alloc W tmp).trans (KeepsOthers.of_grownBy hgrow fun j o ej hj => ?_)).trans (KeepsOthers.setCell _ _ _)
    rcases (hrow.alloc tmp).2 with ⟨rfl, _⟩ | ⟨g, cap, cur, rfl, _, hgb, _⟩
    · simp [Value.ownBlock] at ej
    · obtain rfl : g = j := by simpa [Value.ownBlock] using ej
      rw [hgb] at hj; cases hj; rfl
  · exact ((KeepEx.alloc W hsz tmp).trans (KeepEx.grown hgrow (by simp; omega) (fun k hk => .inr (hrow' k hk)))).trans (KeepEx.setCell _ (.inl (by simp)) _)

/-- Where a loop that may be left by 'break' and its end meet. -/
theorem range_meet {n : Nat} {P : Program} {c : Code} {K : Act → World → Prop} {Q' : Exit → Act → World → Prop} {a : Act} {w : World} (Post : Nat → World → Prop)
    (h : c.wpIn Fence.wide n P (fun e a' w' => (e = .normal ∨ e = .exit 0) ∧ ∃ D, a' = { a with defers := { target := .collected D, args := #[] } :: a.defers } ∧ Post D w') a w)
    (hk : ∀ D w', Post D w' → K { a with defers := { target := .collected D, args := #[] } :: a.defers } w') : c.wp P (Exit.inBlock 0 (Exit.then K Q')) a w :=
  wp_mono (wpIn_wide.1 h) (by
    rintro e a' w' ⟨he, D, rfl, hp⟩
    rcases he with rfl | rfl
    · exact hk D w' hp
    · exact hk D w' hp)
/-- A function whose body holds a range over a function: walked outside of the loop by the plain walk. -/
theorem calls_of_marks {P : Program} {f : FuncId} {fn : Func} {c : Code} {args : Array Value} {w : World} {R : Ending → World → Prop}
    (hf : P.funcs[f]? = some fn) (hb : fn.body = some c)
    (h : c.wp P (bodyPostM Fence.wide 9 P fn R) { tmps := args ++ Array.replicate (fn.ntmps - args.size) undef, defers := [] } w) : Calls P f args w R :=
  (callsIn_wide (n := 9)).1 (callsIn_of_wp_marks hf hb trivial (wpIn_wide.2 h) rfl)
theorem gen_world {C : World → Prop} {W : World} (F : World → Prop) (hF : F W) (h : ∀ W, F W → C W) : C W := h W hF
/-- At the return of a function whose body held a range over a function. -/
theorem marks_ret {n : Nat} {P : Program} {fn : Func} {R : Ending → World → Prop} {tmps : Array Value} {D : Nat} {W : World} (v : Value) (hKd : W.heap[D]? = some (.deferred (some [])))
    (hr : (results fn tmps).run P (W.putObj D (.deferred none)) = .ok v (W.putObj D (.deferred none))) (hR : R (.returned v) (W.putObj D (.deferred none))) :
    bodyPostM Fence.wide n P fn R .ret { tmps, defers := [{ target := .collected D, args := #[] }] } W :=
  ⟨by simp, .inl ⟨_, _, rfl, run_takeDeferred hKd, ⟨v, hr, hR⟩⟩⟩
theorem blk_put {W : World} {g : Nat} {t : TypeId} {cs : Array Value} {D : Nat} {o : Obj} (h : Blk W g t cs) (hD : g ≠ D) : Blk (W.putObj D o) g t cs := h.grown (grownBy_putObj' W D o) (by simpa using hD)
theorem below_put {w W : World} {D : Nat} {o : Obj} (h : Below w.heap.size w W) (hD : w.heap.size ≤ D) : Below w.heap.size w (W.putObj D o) := h.grown (grownBy_putObj' W D o) h.size (by intro k hk; cases hk; exact hD)
end Go.Proofs.Ytenfheheepkfbaa
