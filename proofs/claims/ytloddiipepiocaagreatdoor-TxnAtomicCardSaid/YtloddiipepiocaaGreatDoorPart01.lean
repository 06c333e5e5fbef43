/- Parts of the proof, put together by program: M, L, A1, A2. -/
import Derived.WalkKit
import Derived.WalkSpells
import Derived.WalkLawsBesides
import Derived.BigQuiet
import Derived.Deep.Draws
import Derived.Deep.AppendLies
import Derived.Lib.Hide
import Derived.Maps.AppendAt
import Derived.RegionTactic
import Derived.OwnWalk
import Derived.Test.YtloddiipepiocaaGreatDoorProg
set_option linter.unusedVariables false
set_option linter.unusedSimpArgs false
/- Plain mathematics of layer 8: no program in sight. -/
namespace Go.Proofs.YtloddiipepiocaaGreatDoor

/-- The error of a layout. -/
def rgE (s j i : Int) : Int := if s < 64 ∨ 256 < s ∨ j < 8 ∨ 96 < j ∨ i < 1 ∨ 60 < i then 7 else if s - (2 + j + i) < 8 then 5 else 0
def rgJ (s j i : Int) : Int := if rgE s j i = 0 then 1 else 0
def rgM (s j i : Int) : Int := if rgE s j i = 0 then 1 + j else 0
def rgT (s j i : Int) : Int := if rgE s j i = 0 then 2 + j else 0
def rgD (s j i : Int) : Int := if rgE s j i = 0 then 2 + j + i else 0
def rgB (s j i : Int) : Int := if rgE s j i = 0 then s - (2 + j + i) else 0

theorem rgE_7 {s j i : Int} (h : s < 64 ∨ 256 < s ∨ j < 8 ∨ 96 < j ∨ i < 1 ∨ 60 < i) : rgE s j i = 7 := by simp [rgE, h]
theorem rgE_5 {s j i : Int} (h : ¬ (s < 64 ∨ 256 < s ∨ j < 8 ∨ 96 < j ∨ i < 1 ∨ 60 < i)) (h' : s - (2 + j + i) < 8) : rgE s j i = 5 := by simp [rgE, h, h']
theorem rgE_0 {s j i : Int} (h : ¬ (s < 64 ∨ 256 < s ∨ j < 8 ∨ 96 < j ∨ i < 1 ∨ 60 < i)) (h' : ¬ s - (2 + j + i) < 8) : rgE s j i = 0 := by simp only [rgE, if_neg h, if_neg h']
theorem rgE_cases (s j i : Int) : rgE s j i = 7 ∨ rgE s j i = 5 ∨ rgE s j i = 0 := by
  unfold rgE
  repeat' split
  all_goals simp
theorem rg_zero {s j i : Int} (h : rgE s j i ≠ 0) : rgJ s j i = 0 ∧ rgM s j i = 0 ∧ rgT s j i = 0 ∧ rgD s j i = 0 ∧ rgB s j i = 0 := by simp [rgJ, rgM, rgT, rgD, rgB, h]
theorem rg_ok {s j i : Int} (h : rgE s j i = 0) : rgJ s j i = 1 ∧ rgM s j i = 1 + j ∧ rgT s j i = 2 + j ∧ rgD s j i = 2 + j + i ∧ rgB s j i = s - (2 + j + i) := by simp [rgJ, rgM, rgT, rgD, rgB, h]
theorem rg_bds {s j i : Int} (h : rgE s j i = 0) : 64 ≤ s ∧ s ≤ 256 ∧ 8 ≤ j ∧ j ≤ 96 ∧ 1 ≤ i ∧ i ≤ 60 ∧ 8 ≤ s - (2 + j + i) := by
  unfold rgE at h
  repeat' split at h
  all_goals omega
theorem rgB_bds (s j i : Int) : 0 ≤ rgB s j i ∧ rgB s j i ≤ 256 := by
  unfold rgB; split
  · rename_i h; have := rg_bds h; omega
  · omega

/-- Is a number outside of a range? -/
def outB (n lo hi : Int) : Bool := decide (n < lo) || decide (hi < n)
theorem outB_yes {n lo hi : Int} (h : n < lo ∨ hi < n) : outB n lo hi = true := by simp [outB]; omega
theorem outB_no {n lo hi : Int} (h : ¬ (n < lo ∨ hi < n)) : outB n lo hi = false := by simp [outB]; omega
end Go.Proofs.YtloddiipepiocaaGreatDoor
/- General words: slices that read as lists; small lemmas. No program in sight. -/
namespace Go.Proofs.YtloddiipepiocaaGreatDoor
open Go.RowKit

theorem ret_int {k : IntKind} {a b : Int} (h : a = b) : Ending.returned (.int k a) = .returned (.int k b) := by rw [h]

/-- A slice of one-cell elements that reads as a list. -/
def Reads (w : World) (A : Option Addr) (xs : List Value) : Prop :=
  xs = [] ∨ ∃ b off, A = some ⟨b, off, none⟩ ∧ b < w.heap.size ∧ ∀ j u, xs[j]? = some u → w.cell? ⟨b, off + j, none⟩ = some u

theorem Reads.nil {w : World} {A : Option Addr} : Reads w A [] := .inl rfl
theorem Reads.below {w w' : World} {A : Option Addr} {xs : List Value} (h : Reads w A xs) (hb : Below w.heap.size w w') : Reads w' A xs := by
  rcases h with h | ⟨b, off, hA, hlt, hc⟩
  · exact .inl h
  · exact .inr ⟨b, off, hA, Nat.lt_of_lt_of_le hlt hb.size, fun j u hu => (hb.cell (p := ⟨b, off + j, none⟩) hlt).trans (hc j u hu)⟩
theorem Reads.at_ {w : World} {A : Option Addr} {xs : List Value} (h : Reads w A xs) {k : Nat} (hk : k < xs.length) :
    ∃ b off, A = some ⟨b, off, none⟩ ∧ b < w.heap.size ∧ w.cell? ⟨b, off + k, none⟩ = some xs[k] := by
  rcases h with h | ⟨b, off, hA, hlt, hc⟩
  · subst h; simp at hk
  · exact ⟨b, off, hA, hlt, hc k _ (List.getElem?_eq_getElem hk)⟩
theorem Reads.alloc {w : World} {A : Option Addr} {xs : List Value} (h : Reads w A xs) (o : Obj) : Reads (w.alloc o) A xs :=
  h.below ((Below.refl _ _).alloc (Nat.le_refl _) _)
theorem Reads.of_own {w : World} {base : Nat} {e : TypeId} {A : Option Addr} {n c : Nat} {xs : List Value} (h : w.ownsRow base e 1 (.slice A n c) n xs) : Reads w A xs := by
  obtain ⟨h1, h2⟩ := h
  rcases h2 with ⟨_, h2⟩ | ⟨g, cap, cur, hv, hg, hh, h3, h4, h5, h6⟩
  · left; subst h2; simpa using h1
  · right
    simp only [Value.slice.injEq] at hv
    refine ⟨g, 0, hv.1, ?_, fun j u hu => ?_⟩
    · exact (Array.getElem?_eq_some_iff.1 hh).1
    · rw [cell_of_row w g (0 + j) cur e (0, 0) hh]
      rw [← h6, List.getElem?_take] at hu
      split at hu
      · simpa using hu
      · simp at hu

theorem bcell {W w1 : World} (hb : Below W.heap.size W w1) : (∀ b o, b < W.heap.size → w1.cell? ⟨b, o, none⟩ = W.cell? ⟨b, o, none⟩) ∧ (∀ b o, b < W.heap.size → w1.frozen? ⟨b, o, none⟩ = W.frozen? ⟨b, o, none⟩) :=
  ⟨fun b o h => hb.cell (p := ⟨b, o, none⟩) h, fun b o h => hb.frozen (p := ⟨b, o, none⟩) h⟩

theorem box_cell {W w1 : World} {k : Nat} {cs : Array Value} {t : TypeId} {m : Nat × Nat} (hb : Below W.heap.size W w1) (hk : W.heap[k]? = some (.cells cs t m)) : ∀ j, w1.cell? ⟨k, j, none⟩ = cs[j]? := fun j => by
  have hlt : k < W.heap.size := (Array.getElem?_eq_some_iff.1 hk).1
  rw [hb.cell (p := ⟨k, j, none⟩) hlt]
  exact cell_of_row W k j cs t m hk
theorem box_free {W w1 : World} {k : Nat} {cs : Array Value} {t : TypeId} (hb : Below W.heap.size W w1) (hk : W.heap[k]? = some (.cells cs t (0, 0))) : ∀ j, w1.frozen? ⟨k, j, none⟩ = false := fun j => by
  have hlt : k < W.heap.size := (Array.getElem?_eq_some_iff.1 hk).1
  rw [hb.frozen (p := ⟨k, j, none⟩) hlt]
  simp [World.frozen?, hk]
theorem hp1 (w : World) (o : Obj) : (w.alloc o).heap[w.heap.size]? = some o := heap_alloc_new w o
theorem hp_keep {w : World} {k : Nat} {o : Obj} (h : w.heap[k]? = some o) (p : Obj) : (w.alloc p).heap[k]? = some o :=
  (Below.heap_alloc w p k (Array.getElem?_eq_some_iff.1 h).1).trans h
theorem hp20 (w : World) (o p : Obj) : ((w.alloc o).alloc p).heap[w.heap.size]? = some o := hp_keep (hp1 w o) p
theorem hp21 (w : World) (o p : Obj) : ((w.alloc o).alloc p).heap[w.heap.size + 1]? = some p := by have := hp1 (w.alloc o) p; rwa [World.size_alloc] at this
theorem hp30 (w : World) (o p q : Obj) : (((w.alloc o).alloc p).alloc q).heap[w.heap.size]? = some o := hp_keep (hp20 w o p) q
theorem hp31 (w : World) (o p q : Obj) : (((w.alloc o).alloc p).alloc q).heap[w.heap.size + 1]? = some p := hp_keep (hp21 w o p) q
theorem hp32 (w : World) (o p q : Obj) : (((w.alloc o).alloc p).alloc q).heap[w.heap.size + 2]? = some q := by have := hp21 (w.alloc o) p q; rwa [World.size_alloc] at this
theorem hpL {w : World} {o : Obj} {k : Nat} (h : k = w.heap.size) : (w.alloc o).heap[k]? = some o := by subst h; exact hp1 w o
theorem hpLd {w : World} {o : Obj} {k : Nat} (h : k = w.heap.size) : (w.alloc o).drew.heap[k]? = some o := hpL h
theorem below1 {w w1 : World} {o : Obj} (hb : Below (w.alloc o).heap.size (w.alloc o) w1) : Below w.heap.size w w1 :=
  ((Below.refl _ _).alloc (Nat.le_refl _) _).trans (hb.mono (by simp))
theorem below2 {w w1 : World} {o p : Obj} (hb : Below ((w.alloc o).alloc p).heap.size ((w.alloc o).alloc p) w1) : Below w.heap.size w w1 :=
  below1 (below1 hb)
theorem below3 {w w1 : World} {o p q : Obj} (hb : Below (((w.alloc o).alloc p).alloc q).heap.size (((w.alloc o).alloc p).alloc q) w1) : Below w.heap.size w w1 :=
  below2 (below1 hb)
theorem sz1 {w w1 : World} {o : Obj} (hb : Below (w.alloc o).heap.size (w.alloc o) w1) : w.heap.size < w1.heap.size := by have := hb.size; simp at this; omega
theorem sz2 {w w1 : World} {o p : Obj} (hb : Below ((w.alloc o).alloc p).heap.size ((w.alloc o).alloc p) w1) : w.heap.size < w1.heap.size ∧ w.heap.size + 1 < w1.heap.size := by have := hb.size; simp at this; omega

section
variable {P : Program} (w : World)

theorem run_append_of_nil (base : Nat) (t ty e : TypeId) (i : TypeInfo) (size : Nat) (ht : P.underlying t = some (.slice e)) (hi : P.info? e = some i)
    (v : Value) (n : Nat) (xs : List Value) (hown : w.ownsRow base e size v n xs) (c : Nat) : (Builtin.append_ #[t, t] ty #[v, .slice none 0 c]).run P w = .ok v w := by
  rcases hown.2 with ⟨rfl, rfl⟩ | ⟨g, cap, cur, rfl, _, _, hnc, _⟩
  · simp [Builtin.append_, run_underlying ht, sizeOf, typeInfo, hi, Builtin.lenOf, Builtin.firstCells]
  · simp [Builtin.append_, run_underlying ht, sizeOf, typeInfo, hi, Builtin.lenOf, Builtin.firstCells, hnc, storeCells]

/-- append onto a row of the call's own, the source nil, empty or not. -/
theorem run_append_any (base : Nat) (t ty e : TypeId) (i : TypeInfo) (z : Value) (bytes : Nat) (ht : P.underlying t = some (.slice e)) (hi : P.info? e = some i) (hz : i.zero = some z)
    (hsize : i.size = 1) (hby : i.bytes = bytes) (hzs : z.cells.size = 1)
    (v : Value) (n : Nat) (xs : List Value) (hown : w.ownsRow base e 1 v n xs)
    (A : Option Addr) (m c : Nat) (news : List Value) (hm : news.length = m) (hA : A = none → m = 0) (hr : Reads w A news) (h1 : ∀ u ∈ news, u.oneCell' = true)
    (h63 : n + m ≤ maxLen) (hbytes : (n + m) * bytes ≤ 140737488355328) (hbase : base ≤ w.heap.size) :
    ∃ v' w', (Builtin.append_ #[t, t] ty #[v, .slice A m c]).run P w = .ok v' w' ∧ w'.ownsRow base e 1 v' (n + m) (xs ++ news) ∧ w.grownBy w' v.ownBlock ∧
      (v'.ownBlock = v.ownBlock ∨ v'.ownBlock = some w.heap.size) := by
  rcases A with _ | ad
  · have hm0 := hA rfl
    subst hm0
    have hn : news = [] := List.eq_nil_of_length_eq_zero hm
    subst hn
    exact ⟨v, w, run_append_of_nil w base t ty e i 1 ht hi v n xs hown c, by simpa using hown, World.grownBy.refl w _, .inl rfl⟩
  · have hcells : ∀ j u, news[j]? = some u → w.cell? (ad.add j) = some u := by
      intro j u hu
      rcases hr with h0 | ⟨b, off, hA', _, hc⟩
      · subst h0; simp at hu
      · injection hA' with hA'
        subst hA'
        have := hc j u hu
        unfold Addr.add
        split
        · rename_i h0; subst h0; simpa using this
        · exact this
    obtain ⟨v', w', hrun, h2, h3, _, h5⟩ := run_append_own_at (P := P) w base t ty e i z 1 bytes ht hi hz hsize hby hzs (by omega) v n xs hown ad m c news (by omega) hcells h1 h63 hbytes hbase
    exact ⟨v', w', hrun, h2, h3, h5⟩

theorem wp_append_any {o : Oper} {a : Act} {K : Act → World → Prop} {Q : Exit → Act → World → Prop} (s x : Operand) (t : TypeId)
    (ho : o.op = .call { callee := .builtin .append, args := #[s, x], argTypes := #[t, t] })
    (base : Nat) (e : TypeId) (i : TypeInfo) (z : Value) (bytes : Nat) (ht : P.underlying t = some (.slice e)) (hi : P.info? e = some i) (hz : i.zero = some z)
    (hsize : i.size = 1) (hby : i.bytes = bytes) (hzs : z.cells.size = 1)
    (v : Value) (n : Nat) (xs : List Value) (hs : a.eval s = v) (hown : w.ownsRow base e 1 v n xs)
    (A : Option Addr) (m c : Nat) (news : List Value) (hx : a.eval x = .slice A m c) (hm : news.length = m) (hA : A = none → m = 0) (hr : Reads w A news) (h1 : ∀ u ∈ news, u.oneCell' = true)
    (h63 : n + m ≤ maxLen) (hbytes : (n + m) * bytes ≤ 140737488355328) (hbase : base ≤ w.heap.size)
    (h : ∀ v' w', w'.ownsRow base e 1 v' (n + m) (xs ++ news) → w.grownBy w' v.ownBlock → (v'.ownBlock = v.ownBlock ∨ v'.ownBlock = some w.heap.size) → K (a.put o.dst v') w') : o.wp P a w K Q := by
  obtain ⟨v', w', hrun, h2, h3, h4⟩ := run_append_any (P := P) w base t o.type e i z bytes ht hi hz hsize hby hzs v n xs hown A m c news hm hA hr h1 h63 hbytes hbase
  unfold Oper.wp execOp
  simp only [ho, resolve, invoke, builtin, Sem.run_bind, Sem.run_pure, Result.andThen_ok, List.map_toArray, List.map_cons, List.map_nil, hs, hx, hrun]
  exact h v' w' h2 h3 h4

theorem wpList_append_any {ops : Array Oper} {rest : List Oper} {o : Oper} {a : Act} {Q : Exit → Act → World → Prop} (hgd : o.guard = none) (s x : Operand) (t : TypeId)
    (ho : o.op = .call { callee := .builtin .append, args := #[s, x], argTypes := #[t, t] })
    (base : Nat) (e : TypeId) (i : TypeInfo) (z : Value) (bytes : Nat) (ht : P.underlying t = some (.slice e)) (hi : P.info? e = some i) (hz : i.zero = some z)
    (hsize : i.size = 1) (hby : i.bytes = bytes) (hzs : z.cells.size = 1)
    (v : Value) (n : Nat) (xs : List Value) (hs : a.eval s = v) (hown : w.ownsRow base e 1 v n xs)
    (A : Option Addr) (m c : Nat) (news : List Value) (hx : a.eval x = .slice A m c) (hm : news.length = m) (hA : A = none → m = 0) (hr : Reads w A news) (h1 : ∀ u ∈ news, u.oneCell' = true)
    (h63 : n + m ≤ maxLen) (hbytes : (n + m) * bytes ≤ 140737488355328) (hbase : base ≤ w.heap.size)
    (h : ∀ v' w', w'.ownsRow base e 1 v' (n + m) (xs ++ news) → w.grownBy w' v.ownBlock → (v'.ownBlock = v.ownBlock ∨ v'.ownBlock = some w.heap.size) → wpList P ops Q rest (a.put o.dst v') w') : wpList P ops Q (o :: rest) a w :=
  wpList_plain hgd fun _ hK => wp_append_any w s x t ho base e i z bytes ht hi hz hsize hby hzs v n xs hs hown A m c news hx hm hA hr h1 h63 hbytes hbase fun v' w' h2 h3 h4 => hK _ _ (h v' w' h2 h3 h4)
end

/-- A slice that owns an element at least is written out. -/
theorem own_form {W : World} {base : Nat} {e : TypeId} {size : Nat} {v : Value} {k : Nat} {xs : List Value} (h : W.ownsRow base e size v k xs) (hk : 0 < k) : ∃ g cap, v = .slice (some ⟨g, 0, none⟩) k cap ∧ base ≤ g ∧ g < W.heap.size := by
  rcases h.2 with ⟨_, h0⟩ | ⟨g, cap, _, rfl, hb, hh, _⟩
  · omega
  · exact ⟨g, cap, rfl, hb, (Array.getElem?_eq_some_iff.1 hh).1⟩
theorem own_below {W W' : World} {base : Nat} {e : TypeId} {size : Nat} {v : Value} {k : Nat} {xs : List Value} (h : W.ownsRow base e size v k xs) (hb : Below W.heap.size W W') : W'.ownsRow base e size v k xs := by
  rcases h with ⟨h1, h2⟩
  refine ⟨h1, ?_⟩
  rcases h2 with h2 | ⟨g, cap, cur, hv, hg, hh, r⟩
  · exact .inl h2
  · exact .inr ⟨g, cap, cur, hv, hg, (hb.block g (Array.getElem?_eq_some_iff.1 hh).1).trans hh, r⟩
theorem own_base {W : World} {base base' : Nat} {e : TypeId} {size : Nat} {v : Value} {k : Nat} {xs : List Value} (h : W.ownsRow base e size v k xs) (hb : base' ≤ base) : W.ownsRow base' e size v k xs := by
  rcases h with ⟨h1, h2⟩
  refine ⟨h1, ?_⟩
  rcases h2 with h2 | ⟨g, cap, cur, hv, hg, r⟩
  · exact .inl h2
  · exact .inr ⟨g, cap, cur, hv, by omega, r⟩

/-- n cells of one value, kept behind a name. -/
def fill (v : Value) (n : Nat) : Array Value := madeCells #[v] n
theorem fill_eq (v : Value) (n : Nat) : fill v n = Array.replicate n v := by
  unfold fill madeCells
  apply Array.ext
  · simp
  · intro i h1 h2
    simp [Nat.mod_one]
theorem fill_size (v : Value) (n : Nat) : (fill v n).size = n := by rw [fill_eq]; simp

end Go.Proofs.YtloddiipepiocaaGreatDoor
/- The small functions of layer 8. -/
namespace Go.Proofs.YtloddiipepiocaaGreatDoor
open Go.RowKit

set_option maxHeartbeats 400000 in
theorem outside_any (n lo hi : Int) (w : World) :
    Calls Tryz.prog 152 #[.int .i64 n, .int .i64 lo, .int .i64 hi] w fun e w' => e = .returned (.bool (decide (n < lo) || decide (hi < n))) ∧ w = w' := by
  by_cases h1 : n < lo
  · go_enter Tryz.func152, Tryz.ntmps152
    go_wp2
    go_ret
    exact ⟨by simp [h1], rfl⟩
  · have hd : decide (n < lo) = false := by simpa using h1
    by_cases h2 : hi < n
    all_goals
      go_enter Tryz.func152, Tryz.ntmps152
      go_wp2
      go_ret
      exact ⟨by simp [h2] <;> omega, rfl⟩

set_option maxHeartbeats 400000 in
theorem within_any (n lo hi : Int) (w : World) :
    Calls Tryz.prog 37 #[.int .i64 n, .int .i64 lo, .int .i64 hi] w fun e w' => e = .returned (.bool (decide (lo ≤ n) && decide (n ≤ hi))) ∧ w = w' := by
  by_cases h1 : lo ≤ n
  · by_cases h2 : n ≤ hi
    all_goals
      go_enter Tryz.func37, Tryz.ntmps37
      go_wp2
      go_ret
      exact ⟨by simp [h1, h2], rfl⟩
  · have hd : decide (lo ≤ n) = false := by simpa using h1
    go_enter Tryz.func37, Tryz.ntmps37
    go_wp2
    go_ret
    exact ⟨by simp <;> omega, rfl⟩

end Go.Proofs.YtloddiipepiocaaGreatDoor
/- Regions. -/
namespace Go.Proofs.YtloddiipepiocaaGreatDoor
open Go.RowKit

theorem outside_out (n lo hi : Int) (w : World) :
    Calls Tryz.prog 152 #[.int .i64 n, .int .i64 lo, .int .i64 hi] w fun e w' => e = .returned (.bool (outB n lo hi)) ∧ w = w' :=
  (outside_any n lo hi w).mono fun e w' ⟨he, hw⟩ => ⟨by rw [he, outB], hw⟩
theorem within_out (n lo hi : Int) (w : World) :
    Calls Tryz.prog 37 #[.int .i64 n, .int .i64 lo, .int .i64 hi] w fun e w' => e = .returned (.bool (!outB n lo hi)) ∧ w = w' :=
  (within_any n lo hi w).mono fun e w' ⟨he, hw⟩ => ⟨by rw [he, outB]; simp only [Ending.returned.injEq, Value.bool.injEq]; by_cases h1 : n < lo <;> by_cases h2 : hi < n <;> simp [h1, h2] <;> omega, hw⟩

def rgV (s j i : Int) : Value := .agg #[.int .i64 (rgJ s j i), .int .i64 (rgM s j i), .int .i64 (rgT s j i), .int .i64 (rgD s j i), .int .i64 (rgB s j i)]

def RgPost (s j i : Int) (w : World) (e : Ending) (w' : World) : Prop :=
  e = .returned (.tuple #[rgV s j i, .int .i64 (rgE s j i)]) ∧ Below w.heap.size w w'


set_option maxHeartbeats 400000 in
theorem regions_any (s j i : Int) (w : World) :
    Calls Tryz.prog 90 #[.agg #[.int .i64 s, .int .i64 j, .int .i64 i]] w (RgPost s j i w) := by
  by_cases h1 : s < 64 ∨ 256 < s
  · have d1 := outB_yes h1
    go_enter Tryz.func90, Tryz.ntmps90
    go_wp2_with (go_at_call 152; refine (outside_out _ _ _ _).mono ?_; rintro e w' ⟨rfl, rfl⟩)
    refine bodyPost_ret (v := .tuple #[.agg #[.int .i64 0, .int .i64 0, .int .i64 0, .int .i64 0, .int .i64 0], .int .i64 7]) (by simp [results, Tryz.results90, go_sem]) rfl ?_
    have e7 := rgE_7 (s := s) (j := j) (i := i) (by omega)
    obtain ⟨a1, a2, a3, a4, a5⟩ := rg_zero (s := s) (j := j) (i := i) (by omega)
    exact ⟨by simp only [rgV, e7, a1, a2, a3, a4, a5], by (repeat' (first | (with_reducible exact Below.refl _ _) | (with_reducible assumption) | (with_reducible refine Below.alloc ?_ ?_ _) | (with_reducible refine Below.drew ?_) | (with_reducible refine Below.setCell ?_ ?_ _) | (with_reducible exact Nat.le_refl _) | omega | (simp; done) | (simp; omega)))⟩
  have d1 := outB_no h1
  by_cases h2 : j < 8 ∨ 96 < j
  · have d2 := outB_yes h2
    go_enter Tryz.func90, Tryz.ntmps90
    go_wp2_with (go_at_call 152; refine (outside_out _ _ _ _).mono ?_; rintro e w' ⟨rfl, rfl⟩)
    refine bodyPost_ret (v := .tuple #[.agg #[.int .i64 0, .int .i64 0, .int .i64 0, .int .i64 0, .int .i64 0], .int .i64 7]) (by simp [results, Tryz.results90, go_sem]) rfl ?_
    have e7 := rgE_7 (s := s) (j := j) (i := i) (by omega)
    obtain ⟨a1, a2, a3, a4, a5⟩ := rg_zero (s := s) (j := j) (i := i) (by omega)
    exact ⟨by simp only [rgV, e7, a1, a2, a3, a4, a5], by (repeat' (first | (with_reducible exact Below.refl _ _) | (with_reducible assumption) | (with_reducible refine Below.alloc ?_ ?_ _) | (with_reducible refine Below.drew ?_) | (with_reducible refine Below.setCell ?_ ?_ _) | (with_reducible exact Nat.le_refl _) | omega | (simp; done) | (simp; omega)))⟩
  have d2 := outB_no h2
  by_cases h3 : i < 1 ∨ 60 < i
  · have d3 := outB_yes h3
    go_enter Tryz.func90, Tryz.ntmps90
    go_wp2_with (go_at_call 152; refine (outside_out _ _ _ _).mono ?_; rintro e w' ⟨rfl, rfl⟩)
    refine bodyPost_ret (v := .tuple #[.agg #[.int .i64 0, .int .i64 0, .int .i64 0, .int .i64 0, .int .i64 0], .int .i64 7]) (by simp [results, Tryz.results90, go_sem]) rfl ?_
    have e7 := rgE_7 (s := s) (j := j) (i := i) (by omega)
    obtain ⟨a1, a2, a3, a4, a5⟩ := rg_zero (s := s) (j := j) (i := i) (by omega)
    exact ⟨by simp only [rgV, e7, a1, a2, a3, a4, a5], by (repeat' (first | (with_reducible exact Below.refl _ _) | (with_reducible assumption) | (with_reducible refine Below.alloc ?_ ?_ _) | (with_reducible refine Below.drew ?_) | (with_reducible refine Below.setCell ?_ ?_ _) | (with_reducible exact Nat.le_refl _) | omega | (simp; done) | (simp; omega)))⟩
  have d3 := outB_no h3
  by_cases h4 : s - (2 + j + i) < 8
  · skip
    go_enter Tryz.func90, Tryz.ntmps90
    go_wp2_with (go_at_call 152; refine (outside_out _ _ _ _).mono ?_; rintro e w' ⟨rfl, rfl⟩)
    refine bodyPost_ret (v := .tuple #[.agg #[.int .i64 0, .int .i64 0, .int .i64 0, .int .i64 0, .int .i64 0], .int .i64 5]) (by simp [results, Tryz.results90, go_sem]) rfl ?_
    have e7 := rgE_5 (s := s) (j := j) (i := i) (by omega) (by omega)
    obtain ⟨a1, a2, a3, a4, a5⟩ := rg_zero (s := s) (j := j) (i := i) (by omega)
    exact ⟨by simp only [rgV, e7, a1, a2, a3, a4, a5], by (repeat' (first | (with_reducible exact Below.refl _ _) | (with_reducible assumption) | (with_reducible refine Below.alloc ?_ ?_ _) | (with_reducible refine Below.drew ?_) | (with_reducible refine Below.setCell ?_ ?_ _) | (with_reducible exact Nat.le_refl _) | omega | (simp; done) | (simp; omega)))⟩
  · skip
    go_enter Tryz.func90, Tryz.ntmps90
    go_wp2_with (go_at_call 152; refine (outside_out _ _ _ _).mono ?_; rintro e w' ⟨rfl, rfl⟩)
    refine bodyPost_ret (v := .tuple #[.agg #[.int .i64 1, .int .i64 (1 + j), .int .i64 (1 + j + 1), .int .i64 (1 + j + 1 + i), .int .i64 (s - (1 + j + 1 + i))], .int .i64 0]) (by simp [results, Tryz.results90, go_sem]) rfl ?_
    have e7 := rgE_0 (s := s) (j := j) (i := i) (by omega) (by omega)
    obtain ⟨a1, a2, a3, a4, a5⟩ := rg_ok (s := s) (j := j) (i := i) e7
    refine ⟨?_, by (repeat' (first | (with_reducible exact Below.refl _ _) | (with_reducible assumption) | (with_reducible refine Below.alloc ?_ ?_ _) | (with_reducible refine Below.drew ?_) | (with_reducible refine Below.setCell ?_ ?_ _) | (with_reducible exact Nat.le_refl _) | omega | (simp; done) | (simp; omega)))⟩
    simp only [rgV, e7, a1, a2, a3, a4, a5]
    simp; omega

set_option maxHeartbeats 400000 in
theorem regionsR_any (s j i : Int) (w : World) :
    Calls Tryz.prog 7 #[.agg #[.int .i64 s, .int .i64 j, .int .i64 i]] w (RgPost s j i w) := by
  by_cases h1 : s < 64 ∨ 256 < s
  · have d1 := outB_yes h1
    go_enter Tryz.func7, Tryz.ntmps7
    go_wp2_with (go_at_call 37; refine (within_out _ _ _ _).mono ?_; rintro e w' ⟨rfl, rfl⟩)
    refine bodyPost_ret (v := .tuple #[.agg #[.int .i64 0, .int .i64 0, .int .i64 0, .int .i64 0, .int .i64 0], .int .i64 7]) (by simp [results, Tryz.results7, go_sem]) rfl ?_
    have e7 := rgE_7 (s := s) (j := j) (i := i) (by omega)
    obtain ⟨a1, a2, a3, a4, a5⟩ := rg_zero (s := s) (j := j) (i := i) (by omega)
    exact ⟨by simp only [rgV, e7, a1, a2, a3, a4, a5], by (repeat' (first | (with_reducible exact Below.refl _ _) | (with_reducible assumption) | (with_reducible refine Below.alloc ?_ ?_ _) | (with_reducible refine Below.drew ?_) | (with_reducible refine Below.setCell ?_ ?_ _) | (with_reducible exact Nat.le_refl _) | omega | (simp; done) | (simp; omega)))⟩
  have d1 := outB_no h1
  by_cases h2 : j < 8 ∨ 96 < j
  · have d2 := outB_yes h2
    go_enter Tryz.func7, Tryz.ntmps7
    go_wp2_with (go_at_call 37; refine (within_out _ _ _ _).mono ?_; rintro e w' ⟨rfl, rfl⟩)
    refine bodyPost_ret (v := .tuple #[.agg #[.int .i64 0, .int .i64 0, .int .i64 0, .int .i64 0, .int .i64 0], .int .i64 7]) (by simp [results, Tryz.results7, go_sem]) rfl ?_
    have e7 := rgE_7 (s := s) (j := j) (i := i) (by omega)
    obtain ⟨a1, a2, a3, a4, a5⟩ := rg_zero (s := s) (j := j) (i := i) (by omega)
    exact ⟨by simp only [rgV, e7, a1, a2, a3, a4, a5], by (repeat' (first | (with_reducible exact Below.refl _ _) | (with_reducible assumption) | (with_reducible refine Below.alloc ?_ ?_ _) | (with_reducible refine Below.drew ?_) | (with_reducible refine Below.setCell ?_ ?_ _) | (with_reducible exact Nat.le_refl _) | omega | (simp; done) | (simp; omega)))⟩
  have d2 := outB_no h2
  by_cases h3 : i < 1 ∨ 60 < i
  · have d3 := outB_yes h3
    go_enter Tryz.func7, Tryz.ntmps7
    go_wp2_with (go_at_call 37; refine (within_out _ _ _ _).mono ?_; rintro e w' ⟨rfl, rfl⟩)
    refine bodyPost_ret (v := .tuple #[.agg #[.int .i64 0, .int .i64 0, .int .i64 0, .int .i64 0, .int .i64 0], .int .i64 7]) (by simp [results, Tryz.results7, go_sem]) rfl ?_
    have e7 := rgE_7 (s := s) (j := j) (i := i) (by omega)
    obtain ⟨a1, a2, a3, a4, a5⟩ := rg_zero (s := s) (j := j) (i := i) (by omega)
    exact ⟨by simp only [rgV, e7, a1, a2, a3, a4, a5], by (repeat' (first | (with_reducible exact Below.refl _ _) | (with_reducible assumption) | (with_reducible refine Below.alloc ?_ ?_ _) | (with_reducible refine Below.drew ?_) | (with_reducible refine Below.setCell ?_ ?_ _) | (with_reducible exact Nat.le_refl _) | omega | (simp; done) | (simp; omega)))⟩
  have d3 := outB_no h3
  by_cases h4 : s - (2 + j + i) < 8
  · skip
    go_enter Tryz.func7, Tryz.ntmps7
    go_wp2_with (go_at_call 37; refine (within_out _ _ _ _).mono ?_; rintro e w' ⟨rfl, rfl⟩)
    refine bodyPost_ret (v := .tuple #[.agg #[.int .i64 0, .int .i64 0, .int .i64 0, .int .i64 0, .int .i64 0], .int .i64 5]) (by simp [results, Tryz.results7, go_sem]) rfl ?_
    have e7 := rgE_5 (s := s) (j := j) (i := i) (by omega) h4
    obtain ⟨a1, a2, a3, a4, a5⟩ := rg_zero (s := s) (j := j) (i := i) (by omega)
    exact ⟨by simp only [rgV, e7, a1, a2, a3, a4, a5], by (repeat' (first | (with_reducible exact Below.refl _ _) | (with_reducible assumption) | (with_reducible refine Below.alloc ?_ ?_ _) | (with_reducible refine Below.drew ?_) | (with_reducible refine Below.setCell ?_ ?_ _) | (with_reducible exact Nat.le_refl _) | omega | (simp; done) | (simp; omega)))⟩
  · skip
    go_enter Tryz.func7, Tryz.ntmps7
    go_wp2_with (go_at_call 37; refine (within_out _ _ _ _).mono ?_; rintro e w' ⟨rfl, rfl⟩)
    refine bodyPost_ret (v := .tuple #[.agg #[.int .i64 1, .int .i64 (1 + j), .int .i64 (1 + j + 1), .int .i64 (1 + j + 1 + i), .int .i64 (s - (1 + j + 1 + i))], .int .i64 0]) (by simp [results, Tryz.results7, go_sem]) rfl ?_
    have e7 := rgE_0 (s := s) (j := j) (i := i) (by omega) (by omega)
    obtain ⟨a1, a2, a3, a4, a5⟩ := rg_ok (s := s) (j := j) (i := i) e7
    refine ⟨?_, by (repeat' (first | (with_reducible exact Below.refl _ _) | (with_reducible assumption) | (with_reducible refine Below.alloc ?_ ?_ _) | (with_reducible refine Below.drew ?_) | (with_reducible refine Below.setCell ?_ ?_ _) | (with_reducible exact Nat.le_refl _) | omega | (simp; done) | (simp; omega)))⟩
    simp only [rgV, e7, a1, a2, a3, a4, a5]
    simp; omega

end Go.Proofs.YtloddiipepiocaaGreatDoor
