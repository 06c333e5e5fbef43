/- Parts of the proof, put together by program: KN, M, L, KA, A1. -/
import Derived.Shelf.Strconv.Itoa0
import Derived.Shelf.SlicesQ.IndexFunc
import Derived.Test.YtjocnooekgnedaaGreatDoorProg
import Derived.WalkKit
import Derived.WalkSpells
import Derived.WalkLawsBesides
import Derived.BigQuiet
import Derived.Deep.Draws
import Derived.Deep.AppendLies
import Derived.Lib.Hide
import Derived.Maps.AppendAt
import Derived.RegionTactic
import Derived.OwnWalk
set_option linter.unusedVariables false
set_option linter.unusedSimpArgs false
/- The kit's contracts of math/bits.Len64 and slices.IndexFunc, laid over this program (written by the kit's lay-plain). -/
namespace Go.Proofs.YtjocnooekgnedaaGreatDoor
open Go.Shelf
def Tryz.len64_ren : Go.Shelf.Ren := ⟨fun | 129 => 102 | n => n, fun | 53 => 40 | 3 => 3 | 4 => 4 | 46 => 145 | 5 => 5 | 9 => 9 | n => n, fun | n => n⟩
theorem Tryz.len64 : Go.Proofs.Lays.n129 Tryz.prog Tryz.len64_ren := {
  mixed := by kernel_rfl
  f129 := Tryz.func102.trans (congrArg some (by kernel_rfl))
  t3 := Tryz.underlying3
  a3 := Tryz.isAgg3
  z3 := Tryz.sizeOf3
  v3 := Tryz.zeroValue3
  t4 := Tryz.underlying4
  a4 := Tryz.isAgg4
  z4 := Tryz.sizeOf4
  v4 := Tryz.zeroValue4
  t5 := Tryz.underlying5
  a5 := Tryz.isAgg5
  z5 := Tryz.sizeOf5
  v5 := Tryz.zeroValue5
  t9 := Tryz.underlying9
  a9 := Tryz.isAgg9
  z9 := Tryz.sizeOf9
  v9 := Tryz.zeroValue9
  t46 := Tryz.underlying145
  a46 := Tryz.isAgg145
  z46 := Tryz.sizeOf145
  v46 := Tryz.zeroValue145
  t53 := Tryz.underlying40
  a53 := Tryz.isAgg40
  z53 := Tryz.sizeOf40
  v53 := Tryz.zeroValue40 }
def Tryz.indexKind_ren : Go.Shelf.Ren := ⟨fun | 6 => 87 | n => n, fun | 22 => 129 | 23 => 138 | 25 => 182 | 3 => 3 | 0 => 0 | 4 => 4 | n => n, fun | n => n⟩
theorem Tryz.indexKind : Go.Proofs.SlLaysH0.n6 Tryz.prog Tryz.indexKind_ren := {
  mixed := by kernel_rfl
  f6 := ⟨Tryz.f87.name, by decide, Tryz.func87.trans (congrArg some (by kernel_rfl))⟩
  t0 := Tryz.underlying0
  a0 := Tryz.isAgg0
  z0 := Tryz.sizeOf0
  v0 := Tryz.zeroValue0
  t3 := Tryz.underlying3
  a3 := Tryz.isAgg3
  z3 := Tryz.sizeOf3
  v3 := Tryz.zeroValue3
  t4 := Tryz.underlying4
  a4 := Tryz.isAgg4
  z4 := Tryz.sizeOf4
  v4 := Tryz.zeroValue4
  t22 := Tryz.underlying129
  a22 := Tryz.isAgg129
  z22 := Tryz.sizeOf129
  v22 := Tryz.zeroValue129
  t25 := Tryz.underlying182
  a25 := Tryz.isAgg182
  z25 := Tryz.sizeOf182
  v25 := Tryz.zeroValue182 }
end Go.Proofs.YtjocnooekgnedaaGreatDoor
/- Plain mathematics of layer 8: no program in sight. -/
namespace Go.Proofs.YtjocnooekgnedaaGreatDoor

/-- The error of a layout. -/
def rgE (s j i : Int) : Int := if s < 64 ∨ 256 < s ∨ j < 8 ∨ 96 < j ∨ i < 1 ∨ 60 < i then 7 else if s - (2 + j + i) < 8 then 5 else 0
def rgJ (s j i : Int) : Int := if rgE s j i = 0 then 1 else 0
def rgM (s j i : Int) : Int := if rgE s j i = 0 then 1 + j else 0
def rgT (s j i : Int) : Int := if rgE s j i = 0 then 2 + j else 0
def rgD (s j i : Int) : Int := if rgE s j i = 0 then 2 + j + i else 0
def rgB (s j i : Int) : Int := if rgE s j i = 0 then s - (2 + j + i) else 0

theorem rgE_7 {s j i : Int} (h : s < 64 ∨ 256 < s ∨ j < 8 ∨ 96 < j ∨ i < 1 ∨ 60 < i) : rgE s j i = 7 := by simp [rgE, h]
theorem rgE_5 {s j i : Int} (h : ¬ (s < 64 ∨ 256 < s ∨ j < 8 ∨ 96 < j ∨ i < 1 ∨ 60 < i)) (h' : s - (2 + j + i) < 8) : rgE s j i = 5 := by simp [rgE, h, h']
theorem rgE_0 {s j i : Int} (h : ¬ (s < 64 ∨ 256 < s ∨ j < 8 ∨ 96 < j ∨ i < 1 ∨ 60 < i)) (h' : ¬ s - (2 + j + i) < 8) : rgE s j i = 0 := by simp only [rgE, if_neg h, if_neg h']
theorem rgE_cases (s j i : Int) : rgE s j i = 7 ∨ rgE s j i = 5 ∨ rgE s j i = 0 := by
  unfold rgE
  repeat' split
  all_goals simp
theorem rg_zero {s j i : Int} (h : rgE s j i ≠ 0) : rgJ s j i = 0 ∧ rgM s j i = 0 ∧ rgT s j i = 0 ∧ rgD s j i = 0 ∧ rgB s j i = 0 := by simp [rgJ, rgM, rgT, rgD, rgB, h]
theorem rg_ok {s j i : Int} (h : rgE s j i = 0) : rgJ s j i = 1 ∧ rgM s j i = 1 + j ∧ rgT s j i = 2 + j ∧ rgD s j i = 2 + j + i ∧ rgB s j i = s - (2 + j + i) := by simp [rgJ, rgM, rgT, rgD, rgB, h]
theorem rg_bds {s j i : Int} (h : rgE s j i = 0) : 64 ≤ s ∧ s ≤ 256 ∧ 8 ≤ j ∧ j ≤ 96 ∧ 1 ≤ i ∧ i ≤ 60 ∧ 8 ≤ s - (2 + j + i) := by
  unfold rgE at h
  repeat' split at h
  all_goals omega
theorem rgB_bds (s j i : Int) : 0 ≤ rgB s j i ∧ rgB s j i ≤ 256 := by
  unfold rgB; split
  · rename_i h; have := rg_bds h; omega
  · omega

/-- Is a number outside of a range? -/
def outB (n lo hi : Int) : Bool := decide (n < lo) || decide (hi < n)
theorem outB_yes {n lo hi : Int} (h : n < lo ∨ hi < n) : outB n lo hi = true := by simp [outB]; omega
theorem outB_no {n lo hi : Int} (h : ¬ (n < lo ∨ hi < n)) : outB n lo hi = false := by simp [outB]; omega
end Go.Proofs.YtjocnooekgnedaaGreatDoor
/- General words: slices that read as lists; small lemmas. No program in sight. -/
namespace Go.Proofs.YtjocnooekgnedaaGreatDoor
open Go.RowKit

theorem ret_int {k : IntKind} {a b : Int} (h : a = b) : Ending.returned (.int k a) = .returned (.int k b) := by rw [h]

/-- A slice of one-cell elements that reads as a list. -/
def Reads (w : World) (A : Option Addr) (xs : List Value) : Prop :=
  xs = [] ∨ ∃ b off, A = some ⟨b, off, none⟩ ∧ b < w.heap.size ∧ ∀ j u, xs[j]? = some u → w.cell? ⟨b, off + j, none⟩ = some u

theorem Reads.nil {w : World} {A : Option Addr} : Reads w A [] := .inl rfl
theorem Reads.below {w w' : World} {A : Option Addr} {xs : List Value} (h : Reads w A xs) (hb : Below w.heap.size w w') : Reads w' A xs := by
  rcases h with h | ⟨b, off, hA, hlt, hc⟩
  · exact .inl h
  · exact .inr ⟨b, off, hA, Nat.lt_of_lt_of_le hlt hb.size, fun j u hu => (hb.cell (p := ⟨b, off + j, none⟩) hlt).trans (hc j u hu)⟩
theorem Reads.at_ {w : World} {A : Option Addr} {xs : List Value} (h : Reads w A xs) {k : Nat} (hk : k < xs.length) :
    ∃ b off, A = some ⟨b, off, none⟩ ∧ b < w.heap.size ∧ w.cell? ⟨b, off + k, none⟩ = some xs[k] := by
  rcases h with h | ⟨b, off, hA, hlt, hc⟩
  · subst h; simp at hk
  · exact ⟨b, off, hA, hlt, hc k _ (List.getElem?_eq_getElem hk)⟩
theorem Reads.alloc {w : World} {A : Option Addr} {xs : List Value} (h : Reads w A xs) (o : Obj) : Reads (w.alloc o) A xs :=
  h.below ((Below.refl _ _).alloc (Nat.le_refl _) _)
theorem Reads.of_own {w : World} {base : Nat} {e : TypeId} {A : Option Addr} {n c : Nat} {xs : List Value} (h : w.ownsRow base e 1 (.slice A n c) n xs) : Reads w A xs := by
  obtain ⟨h1, h2⟩ := h
  rcases h2 with ⟨_, h2⟩ | ⟨g, cap, cur, hv, hg, hh, h3, h4, h5, h6⟩
  · left; subst h2; simpa using h1
  · right
    simp only [Value.slice.injEq] at hv
    refine ⟨g, 0, hv.1, ?_, fun j u hu => ?_⟩
    · exact (Array.getElem?_eq_some_iff.1 hh).1
    · rw [cell_of_row w g (0 + j) cur e (0, 0) hh]
      rw [← h6, List.getElem?_take] at hu
      split at hu
      · simpa using hu
      · simp at hu

theorem bcell {W w1 : World} (hb : Below W.heap.size W w1) : (∀ b o, b < W.heap.size → w1.cell? ⟨b, o, none⟩ = W.cell? ⟨b, o, none⟩) ∧ (∀ b o, b < W.heap.size → w1.frozen? ⟨b, o, none⟩ = W.frozen? ⟨b, o, none⟩) :=
  ⟨fun b o h => hb.cell (p := ⟨b, o, none⟩) h, fun b o h => hb.frozen (p := ⟨b, o, none⟩) h⟩

theorem box_cell {W w1 : World} {k : Nat} {cs : Array Value} {t : TypeId} {m : Nat × Nat} (hb : Below W.heap.size W w1) (hk : W.heap[k]? = some (.cells cs t m)) : ∀ j, w1.cell? ⟨k, j, none⟩ = cs[j]? := fun j => by
  have hlt : k < W.heap.size := (Array.getElem?_eq_some_iff.1 hk).1
  rw [hb.cell (p := ⟨k, j, none⟩) hlt]
  exact cell_of_row W k j cs t m hk
theorem box_free {W w1 : World} {k : Nat} {cs : Array Value} {t : TypeId} (hb : Below W.heap.size W w1) (hk : W.heap[k]? = some (.cells cs t (0, 0))) : ∀ j, w1.frozen? ⟨k, j, none⟩ = false := fun j => by
  have hlt : k < W.heap.size := (Array.getElem?_eq_some_iff.1 hk).1
  rw [hb.frozen (p := ⟨k, j, none⟩) hlt]
  simp [World.frozen?, hk]
theorem hp1 (w : World) (o : Obj) : (w.alloc o).heap[w.heap.size]? = some o := heap_alloc_new w o
theorem hp_keep {w : World} {k : Nat} {o : Obj} (h : w.heap[k]? = some o) (p : Obj) : (w.alloc p).heap[k]? = some o :=
  (Below.heap_alloc w p k (Array.getElem?_eq_some_iff.1 h).1).trans h
theorem hp20 (w : World) (o p : Obj) : ((w.alloc o).alloc p).heap[w.heap.size]? = some o := hp_keep (hp1 w o) p
theorem hp21 (w : World) (o p : Obj) : ((w.alloc o).alloc p).heap[w.heap.size + 1]? = some p := by have := hp1 (w.alloc o) p; rwa [World.size_alloc] at this
theorem hp30 (w : World) (o p q : Obj) : (((w.alloc o).alloc p).alloc q).heap[w.heap.size]? = some o := hp_keep (hp20 w o p) q
theorem hp31 (w : World) (o p q : Obj) : (((w.alloc o).alloc p).alloc q).heap[w.heap.size + 1]? = some p := hp_keep (hp21 w o p) q
theorem hp32 (w : World) (o p q : Obj) : (((w.alloc o).alloc p).alloc q).heap[w.heap.size + 2]? = some q := by have := hp21 (w.alloc o) p q; rwa [World.size_alloc] at this
theorem hpL {w : World} {o : Obj} {k : Nat} (h : k = w.heap.size) : (w.alloc o).heap[k]? = some o := by subst h; exact hp1 w o
theorem hpLd {w : World} {o : Obj} {k : Nat} (h : k = w.heap.size) : (w.alloc o).drew.heap[k]? = some o := hpL h
theorem below1 {w w1 : World} {o : Obj} (hb : Below (w.alloc o).heap.size (w.alloc o) w1) : Below w.heap.size w w1 :=
  ((Below.refl _ _).alloc (Nat.le_refl _) _).trans (hb.mono (by simp))
theorem below2 {w w1 : World} {o p : Obj} (hb : Below ((w.alloc o).alloc p).heap.size ((w.alloc o).alloc p) w1) : Below w.heap.size w w1 :=
  below1 (below1 hb)
theorem below3 {w w1 : World} {o p q : Obj} (hb : Below (((w.alloc o).alloc p).alloc q).heap.size (((w.alloc o).alloc p).alloc q) w1) : Below w.heap.size w w1 :=
  below2 (below1 hb)
theorem sz1 {w w1 : World} {o : Obj} (hb : Below (w.alloc o).heap.size (w.alloc o) w1) : w.heap.size < w1.heap.size := by have := hb.size; simp at this; omega
theorem sz2 {w w1 : World} {o p : Obj} (hb : Below ((w.alloc o).alloc p).heap.size ((w.alloc o).alloc p) w1) : w.heap.size < w1.heap.size ∧ w.heap.size + 1 < w1.heap.size := by have := hb.size; simp at this; omega

section
variable {P : Program} (w : World)

theorem run_append_of_nil (base : Nat) (t ty e : TypeId) (i : TypeInfo) (size : Nat) (ht : P.underlying t = some (.slice e)) (hi : P.info? e = some i)
    (v : Value) (n : Nat) (xs : List Value) (hown : w.ownsRow base e size v n xs) (c : Nat) : (Builtin.append_ #[t, t] ty #[v, .slice none 0 c]).run P w = .ok v w := by
  rcases hown.2 with ⟨rfl, rfl⟩ | ⟨g, cap, cur, rfl, _, _, hnc, _⟩
  · simp [Builtin.append_, run_underlying ht, sizeOf, typeInfo, hi, Builtin.lenOf, Builtin.firstCells]
  · simp [Builtin.append_, run_underlying ht, sizeOf, typeInfo, hi, Builtin.lenOf, Builtin.firstCells, hnc, storeCells]

/-- append onto a row of the call's own, the source nil, empty or not. -/
theorem run_append_any (base : Nat) (t ty e : TypeId) (i : TypeInfo) (z : Value) (bytes : Nat) (ht : P.underlying t = some (.slice e)) (hi : P.info? e = some i) (hz : i.zero = some z)
    (hsize : i.size = 1) (hby : i.bytes = bytes) (hzs : z.cells.size = 1)
    (v : Value) (n : Nat) (xs : List Value) (hown : w.ownsRow base e 1 v n xs)
    (A : Option Addr) (m c : Nat) (news : List Value) (hm : news.length = m) (hA : A = none → m = 0) (hr : Reads w A news) (h1 : ∀ u ∈ news, u.oneCell' = true)
    (h63 : n + m ≤ maxLen) (hbytes : (n + m) * bytes ≤ 140737488355328) (hbase : base ≤ w.heap.size) :
    ∃ v' w', (Builtin.append_ #[t, t] ty #[v, .slice A m c]).run P w = .ok v' w' ∧ w'.ownsRow base e 1 v' (n + m) (xs ++ news) ∧ w.grownBy w' v.ownBlock ∧
      (v'.ownBlock = v.ownBlock ∨ v'.ownBlock = some w.heap.size) := by
  rcases A with _ | ad
  · have hm0 := hA rfl
    subst hm0
    have hn : news = [] := List.eq_nil_of_length_eq_zero hm
    subst hn
    exact ⟨v, w, run_append_of_nil w base t ty e i 1 ht hi v n xs hown c, by simpa using hown, World.grownBy.refl w _, .inl rfl⟩
  · have hcells : ∀ j u, news[j]? = some u → w.cell? (ad.add j) = some u := by
      intro j u hu
      rcases hr with h0 | ⟨b, off, hA', _, hc⟩
      · subst h0; simp at hu
      · injection hA' with hA'
        subst hA'
        have := hc j u hu
        unfold Addr.add
        split
        · rename_i h0; subst h0; simpa using this
        · exact this
    obtain ⟨v', w', hrun, h2, h3, _, h5⟩ := run_append_own_at (P := P) w base t ty e i z 1 bytes ht hi hz hsize hby hzs (by omega) v n xs hown ad m c news (by omega) hcells h1 h63 hbytes hbase
    exact ⟨v', w', hrun, h2, h3, h5⟩

theorem wp_append_any {o : Oper} {a : Act} {K : Act → World → Prop} {Q : Exit → Act → World → Prop} (s x : Operand) (t : TypeId)
    (ho : o.op = .call { callee := .builtin .append, args := #[s, x], argTypes := #[t, t] })
    (base : Nat) (e : TypeId) (i : TypeInfo) (z : Value) (bytes : Nat) (ht : P.underlying t = some (.slice e)) (hi : P.info? e = some i) (hz : i.zero = some z)
    (hsize : i.size = 1) (hby : i.bytes = bytes) (hzs : z.cells.size = 1)
    (v : Value) (n : Nat) (xs : List Value) (hs : a.eval s = v) (hown : w.ownsRow base e 1 v n xs)
    (A : Option Addr) (m c : Nat) (news : List Value) (hx : a.eval x = .slice A m c) (hm : news.length = m) (hA : A = none → m = 0) (hr : Reads w A news) (h1 : ∀ u ∈ news, u.oneCell' = true)
    (h63 : n + m ≤ maxLen) (hbytes : (n + m) * bytes ≤ 140737488355328) (hbase : base ≤ w.heap.size)
    (h : ∀ v' w', w'.ownsRow base e 1 v' (n + m) (xs ++ news) → w.grownBy w' v.ownBlock → (v'.ownBlock = v.ownBlock ∨ v'.ownBlock = some w.heap.size) → K (a.put o.dst v') w') : o.wp P a w K Q := by
  obtain ⟨v', w', hrun, h2, h3, h4⟩ := run_append_any (P := P) w base t o.type e i z bytes ht hi hz hsize hby hzs v n xs hown A m c news hm hA hr h1 h63 hbytes hbase
  unfold Oper.wp execOp
  simp only [ho, resolve, invoke, builtin, Sem.run_bind, Sem.run_pure, Result.andThen_ok, List.map_toArray, List.map_cons, List.map_nil, hs, hx, hrun]
  exact h v' w' h2 h3 h4

theorem wpList_append_any {ops : Array Oper} {rest : List Oper} {o : Oper} {a : Act} {Q : Exit → Act → World → Prop} (hgd : o.guard = none) (s x : Operand) (t : TypeId)
    (ho : o.op = .call { callee := .builtin .append, args := #[s, x], argTypes := #[t, t] })
    (base : Nat) (e : TypeId) (i : TypeInfo) (z : Value) (bytes : Nat) (ht : P.underlying t = some (.slice e)) (hi : P.info? e = some i) (hz : i.zero = some z)
    (hsize : i.size = 1) (hby : i.bytes = bytes) (hzs : z.cells.size = 1)
    (v : Value) (n : Nat) (xs : List Value) (hs : a.eval s = v) (hown : w.ownsRow base e 1 v n xs)
    (A : Option Addr) (m c : Nat) (news : List Value) (hx : a.eval x = .slice A m c) (hm : news.length = m) (hA : A = none → m = 0) (hr : Reads w A news) (h1 : ∀ u ∈ news, u.oneCell' = true)
    (h63 : n + m ≤ maxLen) (hbytes : (n + m) * bytes ≤ 140737488355328) (hbase : base ≤ w.heap.size)
    (h : ∀ v' w', w'.ownsRow base e 1 v' (n + m) (xs ++ news) → w.grownBy w' v.ownBlock → (v'.ownBlock = v.ownBlock ∨ v'.ownBlock = some w.heap.size) → wpList P ops Q rest (a.put o.dst v') w') : wpList P ops Q (o :: rest) a w :=
  wpList_plain hgd fun _ hK => wp_append_any w s x t ho base e i z bytes ht hi hz hsize hby hzs v n xs hs hown A m c news hx hm hA hr h1 h63 hbytes hbase fun v' w' h2 h3 h4 => hK _ _ (h v' w' h2 h3 h4)
end

/-- A slice that owns an element at least is written out. -/
theorem own_form {W : World} {base : Nat} {e : TypeId} {size : Nat} {v : Value} {k : Nat} {xs : List Value} (h : W.ownsRow base e size v k xs) (hk : 0 < k) : ∃ g cap, v = .slice (some ⟨g, 0, none⟩) k cap ∧ base ≤ g ∧ g < W.heap.size := by
  rcases h.2 with ⟨_, h0⟩ | ⟨g, cap, _, rfl, hb, hh, _⟩
  · omega
  · exact ⟨g, cap, rfl, hb, (Array.getElem?_eq_some_iff.1 hh).1⟩
theorem own_below {W W' : World} {base : Nat} {e : TypeId} {size : Nat} {v : Value} {k : Nat} {xs : List Value} (h : W.ownsRow base e size v k xs) (hb : Below W.heap.size W W') : W'.ownsRow base e size v k xs := by
  rcases h with ⟨h1, h2⟩
  refine ⟨h1, ?_⟩
  rcases h2 with h2 | ⟨g, cap, cur, hv, hg, hh, r⟩
  · exact .inl h2
  · exact .inr ⟨g, cap, cur, hv, hg, (hb.block g (Array.getElem?_eq_some_iff.1 hh).1).trans hh, r⟩
theorem own_base {W : World} {base base' : Nat} {e : TypeId} {size : Nat} {v : Value} {k : Nat} {xs : List Value} (h : W.ownsRow base e size v k xs) (hb : base' ≤ base) : W.ownsRow base' e size v k xs := by
  rcases h with ⟨h1, h2⟩
  refine ⟨h1, ?_⟩
  rcases h2 with h2 | ⟨g, cap, cur, hv, hg, r⟩
  · exact .inl h2
  · exact .inr ⟨g, cap, cur, hv, by omega, r⟩

/-- n cells of one value, kept behind a name. -/
def fill (v : Value) (n : Nat) : Array Value := madeCells #[v] n
theorem fill_eq (v : Value) (n : Nat) : fill v n = Array.replicate n v := by
  unfold fill madeCells
  apply Array.ext
  · simp
  · intro i h1 h2
    simp [Nat.mod_one]
theorem fill_size (v : Value) (n : Nat) : (fill v n).size = n := by rw [fill_eq]; simp

end Go.Proofs.YtjocnooekgnedaaGreatDoor
/- Layer 11 in plain words: an inode, what is wrong with it, its bytes. No program in sight. -/
namespace Go.Proofs.YtjocnooekgnedaaGreatDoor
open Go.RowKit Go.Maps

structure Ino where
  kind : Int
  links : Int
  size : Int
  major : Int
  minor : Int
  parent : Int
  blocks : List Int
  attrs : List Int
/-- Are the numbers as the kind's limits say (inos: the layout's inodes)? -/
def Ino.nums (x : Ino) (inos : Int) : Prop :=
  if x.kind = 0 then x.links = 0 ∧ x.size = 0 ∧ x.major = 0 ∧ x.minor = 0 ∧ x.parent = 0
  else if x.kind = 1 then x.links = 1 ∧ (0 ≤ x.size ∧ x.size ≤ 24) ∧ x.major = 0 ∧ x.minor = 0 ∧ (1 ≤ x.parent ∧ x.parent ≤ inos)
  else if x.kind = 2 then (1 ≤ x.links ∧ x.links ≤ 120) ∧ (0 ≤ x.size ∧ x.size ≤ 384) ∧ x.major = 0 ∧ x.minor = 0 ∧ x.parent = 0
  else if x.kind = 3 then (1 ≤ x.links ∧ x.links ≤ 120) ∧ (1 ≤ x.size ∧ x.size ≤ 200) ∧ x.major = 0 ∧ x.minor = 0 ∧ x.parent = 0
  else (1 ≤ x.links ∧ x.links ≤ 120) ∧ x.size = 0 ∧ (0 ≤ x.major ∧ x.major ≤ 255) ∧ (0 ≤ x.minor ∧ x.minor ≤ 255) ∧ x.parent = 0
instance (x : Ino) (i : Int) : Decidable (x.nums i) := by unfold Ino.nums; repeat' split
                                                          all_goals infer_instance
/-- Are there as many blocks as there must be? -/
def Ino.many (x : Ino) : Prop :=
  x.attrs.length ≤ 3 ∧ (x.kind = 0 → x.attrs = []) ∧
  (if x.kind = 1 then x.blocks.length ≤ 8 ∧ (x.blocks.length = 0 ↔ x.size = 0) else if x.kind = 2 ∨ x.kind = 3 then (x.blocks.length : Int) = (x.size + 95) / 96 else x.blocks = [])
instance (x : Ino) : Decidable x.many := by unfold Ino.many; infer_instance
def Ino.all (x : Ino) : List Int := x.blocks ++ x.attrs
/-- What is wrong with an inode. -/
def inoE (s j i : Int) (x : Ino) : Int :=
  if rgE s j i ≠ 0 then rgE s j i else if x.kind < 0 ∨ 4 < x.kind then 14 else if ¬ x.nums i then 7 else if ¬ x.many then 6
  else if ∃ b ∈ x.all, b < 0 ∨ rgB s j i ≤ b then 7 else if ¬ x.all.Nodup then 8 else 0
structure InoOk (s j i : Int) (x : Ino) : Prop where
  rg : rgE s j i = 0
  kind : 0 ≤ x.kind ∧ x.kind ≤ 4
  nums : x.nums i
  many : x.many
  rng : ∀ b ∈ x.all, 0 ≤ b ∧ b < rgB s j i
  nd : x.all.Nodup
theorem inoE_ok {s j i : Int} {x : Ino} : inoE s j i x = 0 ↔ InoOk s j i x := by
  unfold inoE
  constructor
  · intro h
    by_cases h1 : rgE s j i = 0
    · rw [if_neg (by simpa using h1)] at h
      by_cases h2 : x.kind < 0 ∨ 4 < x.kind
      · rw [if_pos h2] at h; cases h
      · rw [if_neg h2] at h
        by_cases h3 : x.nums i
        · rw [if_neg (by simpa using h3)] at h
          by_cases h4 : x.many
          · rw [if_neg (by simpa using h4)] at h
            by_cases h5 : ∃ b ∈ x.all, b < 0 ∨ rgB s j i ≤ b
            · rw [if_pos h5] at h; cases h
            · rw [if_neg h5] at h
              by_cases h6 : x.all.Nodup
              · refine ⟨h1, by omega, h3, h4, fun b hb => ?_, h6⟩
                exact ⟨Classical.byContradiction fun hc => h5 ⟨b, hb, .inl (by omega)⟩, Classical.byContradiction fun hc => h5 ⟨b, hb, .inr (by omega)⟩⟩
              · rw [if_pos h6] at h; cases h
          · rw [if_pos h4] at h; cases h
        · rw [if_pos h3] at h; cases h
    · rw [if_pos h1] at h; exact absurd h h1
  · intro h
    rw [if_neg (by simpa using h.rg), if_neg (by have := h.kind; omega), if_neg (by simpa using h.nums), if_neg (by simpa using h.many), if_neg ?_, if_neg (by simpa using h.nd)]
    rintro ⟨b, hb, hc⟩
    have := h.rng b hb
    omega
theorem InoOk.small {s j i : Int} {x : Ino} (h : InoOk s j i x) : x.blocks.length ≤ 8 ∧ x.attrs.length ≤ 3 ∧ (0 ≤ x.links ∧ x.links ≤ 120) ∧ (0 ≤ x.size ∧ x.size ≤ 384) ∧ (0 ≤ x.major ∧ x.major ≤ 255) ∧ (0 ≤ x.minor ∧ x.minor ≤ 255) ∧ (0 ≤ x.parent ∧ x.parent ≤ 60) := by
  have hb := rg_bds h.rg
  have hn := h.nums
  have hk := h.kind
  obtain ⟨m1, m2, m3⟩ := h.many
  unfold Ino.nums at hn
  have hbl : x.blocks.length ≤ 8 := by
    split at m3
    · exact m3.1
    · split at m3
      · have : x.size ≤ 384 := by
          repeat' split at hn
          all_goals omega
        omega
      · rw [m3]; simp
  refine ⟨hbl, m1, ?_⟩
  repeat' split at hn
  all_goals omega

/-- A number's four bytes, the lowest first. -/
def le4 (n : Int) : List Int := [n % 256, n / 256 % 256, n / 65536 % 256, n / 16777216 % 256]
def vals : List Int → List Int
  | a :: b :: c :: d :: t => (a + 256 * b + 65536 * c + 16777216 * d) :: vals t
  | _ => []
theorem vals_le4 : ∀ l : List Int, (∀ n ∈ l, 0 ≤ n ∧ n < 4294967296) → vals (l.flatMap le4) = l
  | [], _ => rfl
  | n :: t, h => by
    have h1 := h n (by simp)
    show ((n % 256 + 256 * (n / 256 % 256) + 65536 * (n / 65536 % 256) + 16777216 * (n / 16777216 % 256)) :: vals (t.flatMap le4)) = n :: t
    rw [vals_le4 t (fun m hm => h m (List.mem_cons_of_mem _ hm))]
    congr 1
    omega
theorem le4_vals : ∀ (k : Nat) (b : List Int), b.length = 4 * k → (∀ c ∈ b, 0 ≤ c ∧ c < 256) → (vals b).flatMap le4 = b ∧ (vals b).length = k
  | 0, b, h, _ => by
    obtain rfl := List.length_eq_zero_iff.1 (by omega : b.length = 0)
    exact ⟨rfl, rfl⟩
  | k + 1, b, h, hc => by
    match b, h with
    | a :: b :: c :: d :: t, h =>
      have ha := hc a (by simp)
      have hb := hc b (by simp)
      have h2 := hc c (by simp)
      have h3 := hc d (by simp)
      obtain ⟨i1, i2⟩ := le4_vals k t (by simp at h; omega) (fun e he => hc e (by simp [he]))
      refine ⟨?_, by show (vals t).length + 1 = k + 1; omega⟩
      show le4 (a + 256 * b + 65536 * c + 16777216 * d) ++ (vals t).flatMap le4 = _
      rw [i1]
      unfold le4
      rw [show (a + 256 * b + 65536 * c + 16777216 * d) % 256 = a by omega, show (a + 256 * b + 65536 * c + 16777216 * d) / 256 % 256 = b by omega, show (a + 256 * b + 65536 * c + 16777216 * d) / 65536 % 256 = c by omega, show (a + 256 * b + 65536 * c + 16777216 * d) / 16777216 % 256 = d by omega]
      rfl
theorem le4s_length (l : List Int) : (l.flatMap le4).length = 4 * l.length := by
  induction l with
  | nil => rfl
  | cons n t ih => rw [List.flatMap_cons, List.length_append, ih]; show 4 + _ = 4 * (t.length + 1); omega

/-- An inode's bytes. -/
def encI (x : Ino) : List Int :=
  [x.kind, x.links, x.size % 256, x.size / 256, x.major, x.minor, x.parent, (x.blocks.length : Int)] ++ x.blocks.flatMap le4 ++ [(x.attrs.length : Int)] ++ x.attrs.flatMap le4
/-- What bytes are an inode's. -/
def decI (b : List Int) : Option Ino :=
  if b.length < 8 then none
  else if 60 < b.getD 7 0 then none
  else if b.length < 9 + 4 * (b.getD 7 0).toNat then none
  else if 60 < b.getD (8 + 4 * (b.getD 7 0).toNat) 0 then none
  else if b.length ≠ 9 + 4 * (b.getD 7 0).toNat + 4 * (b.getD (8 + 4 * (b.getD 7 0).toNat) 0).toNat then none
  else some ⟨b.getD 0 0, b.getD 1 0, b.getD 2 0 + 256 * b.getD 3 0, b.getD 4 0, b.getD 5 0, b.getD 6 0, vals ((b.drop 8).take (4 * (b.getD 7 0).toNat)), vals (b.drop (9 + 4 * (b.getD 7 0).toNat))⟩
theorem encI_length (x : Ino) : (encI x).length = 9 + 4 * (x.blocks.length + x.attrs.length) := by
  unfold encI
  simp only [List.length_append, le4s_length, List.length_cons, List.length_nil]
  omega
theorem dec_enc_ino {s j i : Int} {x : Ino} (h : InoOk s j i x) : decI (encI x) = some x ∧ (encI x).length ≤ 96 := by
  obtain ⟨h1, h2, h3, h4, h5, h6, h7⟩ := h.small
  have hl := encI_length x
  have hb := rgB_bds s j i
  have hr : ∀ n ∈ x.all, 0 ≤ n ∧ n < 4294967296 := fun n hn => by have := h.rng n hn; omega
  have hv1 := vals_le4 x.blocks (fun n hn => hr n (List.mem_append_left _ hn))
  have hv2 := vals_le4 x.attrs (fun n hn => hr n (List.mem_append_right _ hn))
  refine ⟨?_, by omega⟩
  have g7 : (encI x).getD 7 0 = x.blocks.length := rfl
  have e8 : (encI x).drop 8 = x.blocks.flatMap le4 ++ ([(x.attrs.length : Int)] ++ x.attrs.flatMap le4) := by
    show x.blocks.flatMap le4 ++ [(x.attrs.length : Int)] ++ x.attrs.flatMap le4 = _
    rw [List.append_assoc]
  have g8 : (encI x).getD (8 + 4 * x.blocks.length) 0 = x.attrs.length := by
    have : (encI x)[8 + 4 * x.blocks.length]? = ((encI x).drop 8)[4 * x.blocks.length]? := by rw [List.getElem?_drop]
    rw [List.getD_eq_getElem?_getD, this, e8, List.getElem?_append_right (by rw [le4s_length]; omega), le4s_length]
    simp
  have e9 : (encI x).drop (9 + 4 * x.blocks.length) = x.attrs.flatMap le4 := by
    rw [show 9 + 4 * x.blocks.length = 8 + (4 * x.blocks.length + 1) by omega, ← List.drop_drop, e8, ← List.append_assoc]
    rw [List.drop_append_of_le_length (by rw [List.length_append, le4s_length]; simp)]
    rw [List.drop_eq_nil_of_le (by rw [List.length_append, le4s_length]; simp)]
    rfl
  unfold decI
  rw [g7]
  simp only [Int.toNat_natCast]
  rw [g8, e9, e8]
  simp only [Int.toNat_natCast]
  rw [if_neg (by omega), if_neg (by omega), if_neg (by omega), if_neg (by omega), if_neg (by omega), hv2, List.take_left' (by rw [le4s_length]), hv1]
  show some (⟨x.kind, x.links, x.size % 256 + 256 * (x.size / 256), x.major, x.minor, x.parent, x.blocks, x.attrs⟩ : Ino) = some x
  rw [show x.size % 256 + 256 * (x.size / 256) = x.size by omega]
theorem enc_dec_ino {b : List Int} {x : Ino} (hb : ∀ c ∈ b, 0 ≤ c ∧ c < 256) (h : decI b = some x) : encI x = b := by
  have hg : ∀ k, 0 ≤ b.getD k 0 ∧ b.getD k 0 < 256 := fun k => by
    rw [List.getD_eq_getElem?_getD]
    cases e : b[k]? with
    | none => exact (by decide : (0 : Int) ≤ 0 ∧ (0 : Int) < 256)
    | some c => exact hb c (List.mem_of_getElem? e)
  unfold decI at h
  split at h
  · cases h
  split at h
  · cases h
  split at h
  · cases h
  split at h
  · cases h
  split at h
  · cases h
  rename_i h1 h2 h3 h4 h5
  obtain ⟨nb, hnb⟩ : ∃ nb : Nat, (b.getD 7 0).toNat = nb := ⟨_, rfl⟩
  have h7 := hg 7
  have e7 : b.getD 7 0 = nb := by omega
  rw [hnb] at h h3 h4 h5
  obtain ⟨na, hna⟩ : ∃ na : Nat, (b.getD (8 + 4 * nb) 0).toNat = na := ⟨_, rfl⟩
  have h8 := hg (8 + 4 * nb)
  have e8 : b.getD (8 + 4 * nb) 0 = na := by omega
  rw [hna] at h5
  simp only [Option.some.injEq] at h
  subst h
  have l1 : ((b.drop 8).take (4 * nb)).length = 4 * nb := by rw [List.length_take, List.length_drop]; omega
  have l2 : (b.drop (9 + 4 * nb)).length = 4 * na := by rw [List.length_drop]; omega
  obtain ⟨v1, v2⟩ := le4_vals nb _ l1 (fun c hc => hb c (List.mem_of_mem_drop (List.mem_of_mem_take hc)))
  obtain ⟨u1, u2⟩ := le4_vals na _ l2 (fun c hc => hb c (List.mem_of_mem_drop hc))
  unfold encI
  simp only
  rw [v1, u1, v2, u2, ← e7, ← e8, show (b.getD 2 0 + 256 * b.getD 3 0) % 256 = b.getD 2 0 by have := hg 2; omega, show (b.getD 2 0 + 256 * b.getD 3 0) / 256 = b.getD 3 0 by have := hg 2; have := hg 3; omega]
  match b, (by omega : 8 ≤ b.length) with
  | c0 :: c1 :: c2 :: c3 :: c4 :: c5 :: c6 :: c7 :: t, _ =>
    have k8 : (c0 :: c1 :: c2 :: c3 :: c4 :: c5 :: c6 :: c7 :: t).getD (8 + 4 * nb) 0 = t.getD (4 * nb) 0 := by
      rw [List.getD_eq_getElem?_getD, List.getD_eq_getElem?_getD, show 8 + 4 * nb = 4 * nb + 8 by omega]; rfl
    have k9 : (c0 :: c1 :: c2 :: c3 :: c4 :: c5 :: c6 :: c7 :: t).drop (9 + 4 * nb) = t.drop (4 * nb + 1) := by
      rw [show 9 + 4 * nb = (4 * nb + 1) + 8 by omega]; rfl
    rw [k8, k9]
    show [c0, c1, c2, c3, c4, c5, c6, c7] ++ t.take (4 * nb) ++ [t.getD (4 * nb) 0] ++ t.drop (4 * nb + 1) = _
    have hlt : 4 * nb < t.length := by simp at h5; omega
    rw [List.getD_eq_getElem?_getD, List.getElem?_eq_getElem hlt]
    simp only [Option.getD_some, List.append_assoc, List.cons_append, List.nil_append]
    rw [← List.drop_eq_getElem_cons hlt, List.take_append_drop]
end Go.Proofs.YtjocnooekgnedaaGreatDoor
/- The small functions of layer 8. -/
namespace Go.Proofs.YtjocnooekgnedaaGreatDoor
open Go.RowKit

set_option maxHeartbeats 400000 in
theorem outside_any (n lo hi : Int) (w : World) :
    Calls Tryz.prog 62 #[.int .i64 n, .int .i64 lo, .int .i64 hi] w fun e w' => e = .returned (.bool (decide (n < lo) || decide (hi < n))) ∧ w = w' := by
  by_cases h1 : n < lo
  · go_enter Tryz.func62, Tryz.ntmps62
    go_wp2
    go_ret
    exact ⟨by simp [h1], rfl⟩
  · have hd : decide (n < lo) = false := by simpa using h1
    by_cases h2 : hi < n
    all_goals
      go_enter Tryz.func62, Tryz.ntmps62
      go_wp2
      go_ret
      exact ⟨by simp [h2] <;> omega, rfl⟩

set_option maxHeartbeats 400000 in
theorem within_any (n lo hi : Int) (w : World) :
    Calls Tryz.prog 66 #[.int .i64 n, .int .i64 lo, .int .i64 hi] w fun e w' => e = .returned (.bool (decide (lo ≤ n) && decide (n ≤ hi))) ∧ w = w' := by
  by_cases h1 : lo ≤ n
  · by_cases h2 : n ≤ hi
    all_goals
      go_enter Tryz.func66, Tryz.ntmps66
      go_wp2
      go_ret
      exact ⟨by simp [h1, h2], rfl⟩
  · have hd : decide (lo ≤ n) = false := by simpa using h1
    go_enter Tryz.func66, Tryz.ntmps66
    go_wp2
    go_ret
    exact ⟨by simp <;> omega, rfl⟩

end Go.Proofs.YtjocnooekgnedaaGreatDoor
