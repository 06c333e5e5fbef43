/- Parts of the proof, put together by program: Z0, Z1, G3. -/
import Derived.Test.YtljmdcegcckblaaGreatDoorQuart03
import Derived.Test.YtljmdcegcckblaaGreatDoorQuart01
import Derived.Test.YtljmdcegcckblaaGreatDoorQuart09
import Derived.Test.YtljmdcegcckblaaGreatDoorQuart06
import Derived.Test.YtljmdcegcckblaaGreatDoorQuart20
import Derived.Test.YtljmdcegcckblaaGreatDoorQuart11
import Derived.Maps.AppendAt
/- A range over a function that writes one box of its own between its rounds, and whose rounds all go on. -/
namespace Go.Proofs.YtljmdcegcckblaaGreatDoor
open Go.RowKit Go.Shelf

section
variable {F : Fence} {n : Nat} {P : Program} {α : Type}

/-- An iterator over a box in block Bs: it may write this box between the rounds; a round leaves the box alone. -/
def SeqAllB (F : Fence) (n : Nat) (P : Program) (gf : Nat) (lb : Array Value) (encs : α → Array Value) (S : List α → Prop) (N Bs : Nat) (w : World) : Prop :=
  ∀ (l : Nat) (J : List α → World → Prop) (W : World), Below w.heap.size w W → (∀ s V v, J s V → J s (V.setCell ⟨Bs, 0, none⟩ v)) →
    (∀ pre x V, J pre V → pre.length < N → YieldAt F (n - 1) P l (encs x) V fun e V' => e = .returned (.bool true) ∧ J (pre ++ [x]) V' ∧ V'.heap[Bs]? = V.heap[Bs]?) →
    J [] W → CallsIn F n P gf (#[.func (.yield l) #[] #[]] ++ lb) W fun e V' => (∃ v, e = .returned v) ∧ ∃ xs, S xs ∧ J xs V'

/-- How a round ends: it goes on. -/
def roundAll (B Bs : Nat) (I : List α → World → Prop) (xs : List α) (W : World) : Exit → Act → World → Prop
  | .normal, _, W' => KeepsFrom B W W' ∧ W'.heap[Bs]? = W.heap[Bs]? ∧ I xs W'
  | _, _, _ => False

theorem wpIn_rangeFunc_all {g : Operand} {ps : Array Tmp} {assign body : Code} {Q : Exit → Act → World → Prop} {a : Act} {w : World}
    (hro : F.round = none) (h1 : 1 ≤ n) {gf : Nat} {lb : Array Value} (hg : a.eval g = .func (.func gf) #[] lb) (hFg : F.fn gf) (eg : ∀ args w, (callFunc gf args).run P w = .ok (.enter gf args) w)
    {encs : α → Array Value} {S : List α → Prop} {N Bs : Nat} (hBs : Bs < w.heap.size) (hseq : SeqAllB F (n - 1) P gf lb encs S N Bs w) (hps : ∀ x, (encs x).size = ps.size)
    (I : List α → World → Prop) (hI : OwnFrom w.heap.size I) (hIB : ∀ s V v, I s V → I s (V.setCell ⟨Bs, 0, none⟩ v)) (h0 : I [] w) (a₁ : α → Act)
    (hassign : ∀ (l : Nat) (x : α) (W : World) (K : Act → World → Prop), K (a₁ x) W →
      assign.wpIn (F.inRound l) (n - 1 - 1) P (Exit.then K (fun _ _ _ => False)) { tmps := (ps.zip (encs x)).foldl (fun t (p, v) => t.setIfInBounds p v) a.tmps, defers := [] } W)
    (hbody : ∀ (l : Nat) (pre : List α) (x : α) (W : World), I pre W → pre.length < N → body.wpIn (F.inRound l) (n - 1 - 1) P (roundAll w.heap.size Bs I (pre ++ [x]) W) (a₁ x) W)
    (hdone : ∀ (D : Nat) (xs : List α) (W : World), w.heap.size ≤ D → S xs → I xs W → W.heap[D]? = some (.deferred (some [])) → Q .normal { a with defers := { target := .collected D, args := #[] } :: a.defers } W) :
    (Code.rangeFunc g ps assign body).wpIn F n P Q a w := by
  refine wpIn_rangeFunc fun fn hfn => ?_
  rw [hro]
  let rc : LoopState → Option Code → Loop := fun st pe => { state := st, pending := pe, fn, tmps := a.tmps, params := ps, assign, body, defers := w.heap.size }
  obtain ⟨W1, hW1⟩ : ∃ W1, (w.alloc (.deferred (some []))).alloc (.loop (rc .ready none)) = W1 := ⟨_, rfl⟩
  have z1 : W1.heap.size = w.heap.size + 2 := by rw [← hW1]; simp
  have hl1 : W1.heap[w.heap.size + 1]? = some (.loop (rc .ready none)) := by
    rw [← hW1]; have := World.alloc_heap_new (w.alloc (.deferred (some []))) (.loop (rc .ready none)); rwa [World.size_alloc] at this
  have hd1 : W1.heap[w.heap.size]? = some (.deferred (some [])) := by
    rw [← hW1]; exact (Below.heap_alloc _ _ _ (by simp)).trans (World.alloc_heap_new w _)
  have hi1 : I [] W1 := by rw [← hW1]; exact hI.alloc _ (hI.alloc _ h0)
  have hb1 : Below w.heap.size w W1 := by rw [← hW1]; exact ((Below.refl _ w).alloc (Nat.le_refl _) _).alloc (by simp) _
  -- the block of the box is none of the two new ones
  have hset : ∀ (V : World) v k, w.heap.size ≤ k → (V.setCell ⟨Bs, 0, none⟩ v).heap[k]? = V.heap[k]? := fun V v k hk => Below.heap_setCell V ⟨Bs, 0, none⟩ v k (by show k ≠ Bs; omega)
  refine ⟨w.heap.size + 1, [{ target := .collected w.heap.size, args := #[] }], W1, { target := .fn (.func gf) lb, args := #[.func (.yield (w.heap.size + 1)) #[] #[]] }, W1, gf,
    #[.func (.yield (w.heap.size + 1)) #[] #[]] ++ lb, W1, ?_, ?_, ?_, ?_, fun _ => h1, ?_⟩
  · rw [← hW1]; exact run_enterLoop_outer _ _ _ _ _
  · simp only [resolve, hg]
    simp [go_sem]
  · intro f' hf'; simp [Target.leads] at hf'; subst hf'; exact hFg
  · simp [invoke, go_sem, eg]
  refine (hseq (w.heap.size + 1) (fun pre W => I pre W ∧ W.heap[w.heap.size + 1]? = some (.loop (rc .ready none)) ∧ W.heap[w.heap.size]? = some (.deferred (some []))) W1 hb1
    (fun s V v h => ⟨hIB s V v h.1, (hset V v _ (by omega)).trans h.2.1, (hset V v _ (Nat.le_refl _)).trans h.2.2⟩) ?_ ⟨hi1, hl1, hd1⟩).mono ?_
  · rintro pre x W ⟨hi, hl, hk⟩ hlen
    have hlt : w.heap.size + 1 < W.heap.size := (Array.getElem?_eq_some_iff.1 hl).1
    have hy := run_yield (P := P) (args := encs x) hl (hps x)
    obtain ⟨Wb, hWb⟩ : ∃ Wb, Wb = W.putObj (w.heap.size + 1) (.loop { rc .ready none with state := .busy }) := ⟨_, rfl⟩
    have hl2 : Wb.heap[w.heap.size + 1]? = some (.loop { rc .ready none with state := .busy }) := by rw [hWb]; exact World.putObj_heap_same hlt
    have hk2 : Wb.heap[w.heap.size]? = some (.deferred (some [])) := by rw [hWb]; exact (World.putObj_heap_other (by omega)).trans hk
    have hB2 : Wb.heap[Bs]? = W.heap[Bs]? := by rw [hWb]; exact World.putObj_heap_other (by omega)
    refine ⟨fn, _, assign, body, hy, roundIn_of_wpIn hfn (hassign _ x W _ ⟨Wb, by rw [hWb]; exact run_beginRound hl rfl, ?_⟩)⟩
    refine wpIn_mono (hbody _ pre x Wb (by rw [hWb]; exact hI.putObj _ hi (by omega) hl rfl) hlen) ?_
    rintro e a3 W3 hp
    cases e with
    | normal =>
      obtain ⟨hk3, hB3, hi3⟩ := hp
      have hl3 := hk3.same _ _ (by omega) hl2 rfl
      have hr := run_endRound (P := P) none hl3
      refine ⟨_, _, hr, ⟨rfl, ⟨hI.putObj _ hi3 (by omega) hl3 rfl, World.putObj_heap_same (Array.getElem?_eq_some_iff.1 hl3).1, (World.putObj_heap_other (by omega)).trans (hk3.same _ _ (Nat.le_refl _) hk2 rfl)⟩, ?_⟩⟩
      exact (World.putObj_heap_other (by omega)).trans (hB3.trans hB2)
    | ret => exact hp.elim
    | exit id => exact hp.elim
    | goto t => exact hp.elim
    | panic ch => exact hp.elim
    | outgrown => exact hp.elim
  · rintro e W2 ⟨⟨v, rfl⟩, xs, hS, hi, hl, hk⟩
    exact ⟨none, _, run_endLoop (P := P) hl (by simp [rc]), hdone _ xs _ (Nat.le_refl _) hS (hI.putObj _ hi (by omega) hl rfl) ((World.putObj_heap_other (by omega)).trans hk)⟩

end
end Go.Proofs.YtljmdcegcckblaaGreatDoor
/- Layer 12: the parts into which a string is cut: the closure of cuts. -/
namespace Go.Proofs.YtljmdcegcckblaaGreatDoor
open Go.RowKit Go.Shelf

attribute [local go_sem] Oper.semAt_some

def cutAt (s : ByteArray) (k : Nat) : ByteArray := s.extract (96 * k) (96 * k + 96)
def nCuts (n : Nat) : Nat := (n + 95) / 96
def cutsL (s : ByteArray) : List ByteArray := (List.range (nCuts s.size)).map (cutAt s)
def restOf (s : ByteArray) (k : Nat) : ByteArray := s.extract (96 * k) s.size

theorem ba_ext {a b : ByteArray} (h : a.data = b.data) : a = b := ByteArray.ext h
theorem restOf_0 (s : ByteArray) : restOf s 0 = s := by unfold restOf; simp
theorem restOf_size (s : ByteArray) (k : Nat) : (restOf s k).size = s.size - 96 * k := by unfold restOf; simp
theorem restOf_head (s : ByteArray) (k : Nat) (m : Nat) (hm : m = min (s.size - 96 * k) 96) : (restOf s k).extract 0 m = cutAt s k := by
  unfold restOf cutAt
  rw [ByteArray.extract_extract]
  subst hm
  apply ba_ext
  simp only [ByteArray.data_extract]
  apply Array.ext_getElem?
  intro i
  simp only [Array.getElem?_extract]
  have e : s.data.size = s.size := rfl
  by_cases hi : i < min (s.size - 96 * k) 96
  · rw [if_pos (by simp only [e]; omega), if_pos (by simp only [e]; omega), Nat.add_zero]
  · rw [if_neg (by simp only [e]; omega), if_neg (by simp only [e]; omega)]
theorem restOf_tail (s : ByteArray) (k : Nat) (m z : Nat) (hm : m = min (s.size - 96 * k) 96) (hz : z = s.size - 96 * k) : (restOf s k).extract m z = restOf s (k + 1) := by
  unfold restOf
  rw [ByteArray.extract_extract]
  subst hm hz
  apply ba_ext
  simp only [ByteArray.data_extract]
  apply Array.ext_getElem?
  intro i
  simp only [Array.getElem?_extract]
  have e : s.data.size = s.size := rfl
  by_cases hi : i < s.size - 96 * (k + 1)
  · rw [if_pos (by simp only [e]; omega), if_pos (by simp only [e]; omega)]
    congr 1; omega
  · rw [if_neg (by simp only [e]; omega), if_neg (by simp only [e]; omega)]
theorem ByteArray.extract_same (r : ByteArray) (n : Nat) : r.extract n n = ByteArray.empty := by
  apply ba_ext; simp
theorem cutsL_snoc (s : ByteArray) (k : Nat) : (List.range (k + 1)).map (cutAt s) = (List.range k).map (cutAt s) ++ [cutAt s k] := by rw [List.range_succ, List.map_append]; rfl

def boxLen (w : World) (B : Nat) : Nat := match w.cell? ⟨B, 0, none⟩ with | some (.string r) => r.size | _ => 0

theorem boxLen_set {W : World} {B : Nat} {t : TypeId} {v : Value} {x : ByteArray} (b : Blk W B t #[v]) : boxLen (W.setCell ⟨B, 0, none⟩ (.string x)) B = x.size := by
  have h : (W.setCell ⟨B, 0, none⟩ (.string x)).cell? ⟨B, 0, none⟩ = some (.string x) := ((b.set_ 0 (.string x)).cells 0).trans rfl
  unfold boxLen; rw [h]

set_option maxRecDepth 100000 in
set_option maxHeartbeats 2000000 in
theorem cuts1_all (F : Fence) (n : Nat) (hF : F.fn 75) (hro : F.round = none) (hn : 1 ≤ n) (Bs : Nat) (s : ByteArray) (hs : s.size ≤ 1000000) (w : World) (b : Blk w Bs 9 #[.string s]) :
    SeqAllB F n Tryz.prog 75 #[.pointer (some ⟨Bs, 0, none⟩)] (fun x : ByteArray => #[Value.string x]) (fun xs => xs = cutsL s) (nCuts s.size) Bs w := by
  intro l J W hW hJB hY h0
  refine callsIn_of_wp Tryz.func75 rfl hF ?_ hro
  simp only [Tryz.ntmps75, List.size_toArray, List.length_cons, List.length_nil, Nat.reduceAdd, Nat.reduceSub, Array.replicate_succ, Array.replicate_zero, List.push_toArray, List.append_toArray, List.nil_append, List.cons_append]
  have hbW := b.belowAll hW
  gi_wp2
  gi_loopw [3] (fun q wr => ∃ k : Nat, k ≤ nCuts s.size ∧ J ((List.range k).map (cutAt s)) wr ∧ Blk wr Bs 9 #[.string (restOf s k)])
    (fun q wr => boxLen wr Bs)
  case atStart => exact ⟨0, Nat.zero_le _, h0, by rw [restOf_0]; exact hbW⟩
  case round =>
    obtain ⟨k, hk, hJs, hb⟩ := hrel
    have hsz := restOf_size s k
    have cB : wr.cell? ⟨Bs, 0, none⟩ = some (.string (restOf s k)) := (hb.cells 0).trans rfl
    have lB := hb.lt
    have fB := hb.free
    by_cases hlt : 96 * k < s.size
    · have hkn : k < nCuts s.size := by unfold nCuts; omega
      have HH := Lib.hid (restOf_head s k)
      have HT := Lib.hid (restOf_tail s k)
      have HS := Lib.hid hsz
      have HSN := Lib.hid (cutsL_snoc s k)
      have hpos : 0 < (restOf s k).size := by omega
      have hr6 : (restOf s k).size ≤ 1000000 := by omega
      generalize restOf s k = r at *
      clear hsz
      rcases Nat.lt_or_ge 96 r.size with h96 | h96
      rotate_left
      focus
        have hm : r.size = min (s.size - 96 * k) 96 := by rw [HS.out] at h96 ⊢; omega
        have HX : Hid (r = cutAt s k) := Lib.hid (by have := HH.out _ hm; rwa [ByteArray.extract_zero_size] at this)
        have HT2 := Lib.hid (HT.out _ _ hm HS.out)
        have hi : (r.size : Int) ≤ 96 := by omega
        have hmn : min (r.size : Int) 96 = (r.size : Int) := by omega
        obtain ⟨fn, tmps, assign, body, hy, hR⟩ := hY _ r wr hJs (by simpa using hkn)
        clear hm h96
        gi_wp2
      rotate_left
      focus
        have hm : 96 = min (s.size - 96 * k) 96 := by have := HS.out; omega
        have HX := Lib.hid (HH.out _ hm)
        have HT2 := Lib.hid (HT.out _ _ hm HS.out)
        have hi : ¬ (r.size : Int) ≤ 96 := by omega
        have hmn : min (r.size : Int) 96 = 96 := by omega
        obtain ⟨fn, tmps, assign, body, hy, hR⟩ := hY _ (r.extract 0 96) wr hJs (by simpa using hkn)
        clear hm
        gi_wp2
      all_goals
        refine hR.mono ?_
        rintro e W3 ⟨rfl, hJ3, hB3⟩
        have hb3 : Blk W3 Bs 9 #[.string r] := hB3.trans hb
        have cB3 : W3.cell? ⟨Bs, 0, none⟩ = some (.string r) := (hb3.cells 0).trans rfl
        have lB3 := hb3.lt
        have fB3 := hb3.free
        gi_wp2
        go_roundw
        case rel =>
          refine ⟨k + 1, hkn, hJB _ _ _ ?_, ?_⟩
          · rw [HSN.out, ← HX.out]; exact hJ3
          · rw [← HT2.out]; first | exact hb3.set_ 0 _ | (rw [ByteArray.extract_same]; exact hb3.set_ 0 _)
        case measure =>
          have e1 : boxLen wr Bs = r.size := by unfold boxLen; rw [cB]
          have e3 := restOf_size s (k + 1)
          have e4 := HS.out
          rw [e1]
          first
            | (rw [boxLen_set hb3]; have : (r.extract 96 r.size).size = r.size - 96 := (by simp); omega)
            | (rw [boxLen_set hb3]; exact hpos)
    · have hk2 : k = nCuts s.size := by unfold nCuts at hk ⊢; omega
      have hpos : (restOf s k).size = 0 := by omega
      have HK := Lib.hid hk2
      clear hk2 hsz hlt hk
      generalize restOf s k = r at *
      gi_wp2
      go_end0
      refine ⟨⟨_, rfl⟩, _, rfl, ?_⟩
      unfold cutsL
      rw [← HK.out]
      exact hJs

end Go.Proofs.YtljmdcegcckblaaGreatDoor
/- Layer 6: Save. -/
namespace Go.Proofs.YtljmdcegcckblaaGreatDoor
open Go.RowKit Go.Maps

theorem Tryz.infoSec3 : (Tryz.prog.info? 141).map (fun i => (i.zero, i.size, i.bytes)) = some (some (.agg (fill (.int .u8 0) 128)), 128, 128) := by kernel_rfl
theorem wpList_appendBy' {P : Program} {ops : Array Oper} {rest : List Oper} {o : Oper} {a : Act} {w w' : World} {Q : Exit → Act → World → Prop} (hgd : o.guard = none) (s x : Operand) (t : TypeId) (ho : o.op = .call { callee := .builtin .append, args := #[s, x], argTypes := #[t, t] }) (p q v : Value) (hs : a.eval s = p) (hx : a.eval x = q)
    (hrun : (Builtin.append_ #[t, t] o.type #[p, q]).run P w = .ok v w') (h : wpList P ops Q rest (a.put o.dst v) w') : wpList P ops Q (o :: rest) a w := by
  refine wpList_plain hgd fun _ hK => ?_
  unfold Oper.wp execOp
  simp only [ho, resolve, invoke, builtin, Sem.run_bind, Sem.run_pure, Result.andThen_ok, List.map_toArray, List.map_cons, List.map_nil, hs, hx, hrun]
  exact hK _ _ h

set_option maxRecDepth 100000 in
set_option maxHeartbeats 400000 in
theorem clone_sec (A : Option Addr) (n c : Nat) (xs : List Value) (hx : xs.length = n * 128) (hn : n ≤ 1000) (w : World) (hR : Reads w A xs) (hA : A = none → n = 0) (h1 : ∀ u ∈ xs, u.oneCell' = true) :
    Calls Tryz.prog 59 #[.slice A n c] w fun e w' => ∃ v, e = .returned v ∧ w'.ownsRow w.heap.size 141 128 v n xs ∧ Below w.heap.size w w' := by
  obtain ⟨i, z, hi, hz, hsz, hby, hzs⟩ : ∃ i z, Tryz.prog.info? 141 = some i ∧ i.zero = some z ∧ i.size = 128 ∧ i.bytes = 128 ∧ z.cells.size = 128 := by
    have h0 : ((Tryz.prog.info? 141).bind fun i => i.zero.map fun z => (i.size, i.bytes, z.cells.size)) = some (128, 128, 128) := by kernel_rfl
    cases hi : Tryz.prog.info? 141 with
    | none => rw [hi] at h0; cases h0
    | some i =>
      rw [hi] at h0
      cases hz : i.zero with
      | none => rw [Option.bind_some, hz] at h0; cases h0
      | some z =>
        rw [Option.bind_some, hz] at h0
        simp only [Option.map_some, Option.some.injEq, Prod.mk.injEq] at h0
        exact ⟨i, z, rfl, hz, h0.1, h0.2.1, h0.2.2⟩
  have hnil := fun (w : World) => Lib.run_eql_slice_nil (P := Tryz.prog) w 80 141 A n c 0 0 Tryz.underlying80
  rcases A with _ | ad
  · have hn0 := hA rfl
    subst hn0
    obtain rfl : xs = [] := List.eq_nil_of_length_eq_zero (by omega)
    go_enter Tryz.func59, Tryz.ntmps59
    go_wp2_with fail
    go_ret
    exact ⟨_, rfl, World.ownsRow_nil _ _ _ _, Below.refl _ _⟩
  · obtain ⟨w0, hw0⟩ : ∃ w0, w0 = w.alloc (.cells #[] 141) := ⟨_, rfl⟩
    have hown0 : w0.ownsRow w.heap.size 141 128 (.slice (some ⟨w.heap.size, 0, none⟩) 0 0) 0 [] := by rw [hw0]; exact World.ownsRow_made w #[] 0 (Nat.le_refl _) (by simp) rfl
    have B0 : Below w.heap.size w w0 := by rw [hw0]; exact (Below.refl _ _).alloc (Nat.le_refl _) _
    have hcells : ∀ j u, xs[j]? = some u → w0.cell? (ad.add j) = some u := fun j u hu => by
      rcases hR.below B0 with h | ⟨b, off, hb, hlt, hc⟩
      · subst h; simp at hu
      · cases hb
        rw [addr_add]
        exact hc j u hu
    obtain ⟨v1, w1, hrun, hown1, hg1, -, hat1⟩ := run_append_own_at (P := Tryz.prog) w0 w.heap.size 80 80 141 i z 128 128 Tryz.underlying80 hi hz hsz hby hzs (by omega) _ _ _ hown0 ad n c xs hx hcells h1 (by simp only [maxLen]; omega) (by omega) B0.size
    go_enter Tryz.func59, Tryz.ntmps59
    go_wp2_with (refine wpList_appendBy' rfl _ _ _ rfl (.slice (some ⟨w.heap.size, 0, none⟩) 0 0) (.slice (some ad) n c) v1 rfl rfl (by rw [← hw0]; exact hrun) ?_)
    go_ret
    exact ⟨v1, rfl, by simpa using hown1, B0.grown hg1 B0.size (fun k hk => by simp [Value.ownBlock] at hk; omega)⟩
set_option maxRecDepth 100000 in
set_option maxHeartbeats 400000 in
theorem clone_dvw (A : Option Addr) (n c : Nat) (xs : List Value) (hx : xs.length = n * 129) (hn : n ≤ 1000) (w : World) (hR : Reads w A xs) (hA : A = none → n = 0) (h1 : ∀ u ∈ xs, u.oneCell' = true) :
    Calls Tryz.prog 60 #[.slice A n c] w fun e w' => ∃ v, e = .returned v ∧ w'.ownsRow w.heap.size 144 129 v n xs ∧ Below w.heap.size w w' := by
  obtain ⟨i, z, hi, hz, hsz, hby, hzs⟩ : ∃ i z, Tryz.prog.info? 144 = some i ∧ i.zero = some z ∧ i.size = 129 ∧ i.bytes = 136 ∧ z.cells.size = 129 := by
    have h0 : ((Tryz.prog.info? 144).bind fun i => i.zero.map fun z => (i.size, i.bytes, z.cells.size)) = some (129, 136, 129) := by kernel_rfl
    cases hi : Tryz.prog.info? 144 with
    | none => rw [hi] at h0; cases h0
    | some i =>
      rw [hi] at h0
      cases hz : i.zero with
      | none => rw [Option.bind_some, hz] at h0; cases h0
      | some z =>
        rw [Option.bind_some, hz] at h0
        simp only [Option.map_some, Option.some.injEq, Prod.mk.injEq] at h0
        exact ⟨i, z, rfl, hz, h0.1, h0.2.1, h0.2.2⟩
  have hnil := fun (w : World) => Lib.run_eql_slice_nil (P := Tryz.prog) w 81 144 A n c 0 0 Tryz.underlying81
  rcases A with _ | ad
  · have hn0 := hA rfl
    subst hn0
    obtain rfl : xs = [] := List.eq_nil_of_length_eq_zero (by omega)
    go_enter Tryz.func60, Tryz.ntmps60
    go_wp2_with fail
    go_ret
    exact ⟨_, rfl, World.ownsRow_nil _ _ _ _, Below.refl _ _⟩
  · obtain ⟨w0, hw0⟩ : ∃ w0, w0 = w.alloc (.cells #[] 144) := ⟨_, rfl⟩
    have hown0 : w0.ownsRow w.heap.size 144 129 (.slice (some ⟨w.heap.size, 0, none⟩) 0 0) 0 [] := by rw [hw0]; exact World.ownsRow_made w #[] 0 (Nat.le_refl _) (by simp) rfl
    have B0 : Below w.heap.size w w0 := by rw [hw0]; exact (Below.refl _ _).alloc (Nat.le_refl _) _
    have hcells : ∀ j u, xs[j]? = some u → w0.cell? (ad.add j) = some u := fun j u hu => by
      rcases hR.below B0 with h | ⟨b, off, hb, hlt, hc⟩
      · subst h; simp at hu
      · cases hb
        rw [addr_add]
        exact hc j u hu
    obtain ⟨v1, w1, hrun, hown1, hg1, -, hat1⟩ := run_append_own_at (P := Tryz.prog) w0 w.heap.size 81 81 144 i z 129 136 Tryz.underlying81 hi hz hsz hby hzs (by omega) _ _ _ hown0 ad n c xs hx hcells h1 (by simp only [maxLen]; omega) (by omega) B0.size
    go_enter Tryz.func60, Tryz.ntmps60
    go_wp2_with (refine wpList_appendBy' rfl _ _ _ rfl (.slice (some ⟨w.heap.size, 0, none⟩) 0 0) (.slice (some ad) n c) v1 rfl rfl (by rw [← hw0]; exact hrun) ?_)
    go_ret
    exact ⟨v1, rfl, by simpa using hown1, B0.grown hg1 B0.size (fun k hk => by simp [Value.ownBlock] at hk; omega)⟩

theorem storeRow' {W : World} {g : Nat} {t ty : TypeId} {cur : Array Value} {vs : Array Value} (b : Blk W g t cur) (hl : cur.size = vs.size) (h1 : vs.all (·.oneCell') = true) (hsz : (sizeOf ty).run Tryz.prog W = .ok vs.size W) :
    (Instr.storeAt ty (.pointer (some ⟨g, 0, none⟩)) (.agg vs)).run Tryz.prog W = .ok () (W.setRow g vs) := by
  have h := run_storeAt_row (P := Tryz.prog) (w := W) (ty := ty) (t := t) (g := g) (o := 0) (cur := cur) (vs := vs.toList) b (by simp; omega) (fun v hv => by
    have := Array.all_eq_true'.1 h1 v (by simpa using hv)
    exact this) (by simpa using hsz)
  have e : (cur.toList.take 0 ++ vs.toList ++ cur.toList.drop (0 + vs.toList.length)).toArray = vs := by
    rw [List.take_zero, List.nil_append, List.drop_of_length_le (by simp; omega), List.append_nil]
  rw [e] at h
  simpa using h
/-- What Save returns. -/
def stateC (sv cv : Value) (tk pw : Int) (off : Bool) : Array Value := #[sv, cv, .int .i64 tk, .int .i64 pw, .bool off]
set_option maxRecDepth 100000 in
set_option maxHeartbeats 1000000 in
theorem save_any (D S c M : Nat) (cv : Value) (x : DevS) (ok : x.Ok) (w : World) (m : DevMem w D S c M cv x) :
    Calls Tryz.prog 28 #[.pointer (some ⟨D, 0, none⟩)] w fun e w' => ∃ sv cv', e = .returned (.agg (stateC sv cv' x.taken x.power x.off)) ∧ w'.ownsRow w.heap.size 141 128 sv x.stable.length (x.stable.flatMap secV) ∧ w'.ownsRow w.heap.size 144 129 cv' x.cache.length (x.cache.flatMap dwV) ∧ Below w.heap.size w w' := by
  obtain ⟨A, cc, g, hcv, hA⟩ := cv_form m
  subst hcv
  have hL := ok.len
  have hN := ok.hi
  have bD := m.dev
  unfold devC at bD
  have hok := fun W (b : Blk W D 138 #[.slice (some ⟨S, 0, none⟩) x.stable.length c, .slice A x.cache.length cc, .int .i64 x.taken, .int .i64 x.power, .bool x.off, .map (some M)]) => devOk_any D S x.stable.length c (.slice A x.cache.length cc) x.taken x.power x.off M W b
  obtain ⟨w0, hw0⟩ : ∃ w0, w0 = w.alloc (.cells (stateC (.slice none 0 0) (.slice none 0 0) 0 0 false) 83) := ⟨_, rfl⟩
  obtain ⟨w1, hw1⟩ : ∃ w1, w1 = w0.alloc (.cells (stateC (.slice (some ⟨S, 0, none⟩) x.stable.length c) (.slice A x.cache.length cc) x.taken x.power x.off) 83) := ⟨_, rfl⟩
  have bD0 : Blk w0 D 138 #[.slice (some ⟨S, 0, none⟩) x.stable.length c, .slice A x.cache.length cc, .int .i64 x.taken, .int .i64 x.power, .bool x.off, .map (some M)] := by rw [hw0]; exact bD.alloc _
  have bR1 : Blk w1 w.heap.size 83 (stateC (.slice none 0 0) (.slice none 0 0) 0 0 false) := by rw [hw1, hw0]; exact (Blk.new _ _ _).alloc _
  have bS1 : Blk w1 (w.heap.size + 1) 83 (stateC (.slice (some ⟨S, 0, none⟩) x.stable.length c) (.slice A x.cache.length cc) x.taken x.power x.off) := by rw [hw1, hw0]; exact Blk.new' (by simp)
  have B0 : Below w.heap.size w w0 := by rw [hw0]; (repeat' (first | (with_reducible exact Below.refl _ _) | (with_reducible assumption) | (with_reducible refine Below.alloc ?_ ?_ _) | (with_reducible refine Below.drew ?_) | (with_reducible refine below_drewN' ?_ _) | (with_reducible refine Below.setCell ?_ ?_ _) | (with_reducible exact Nat.le_refl _) | omega | (simp; done) | (simp; omega)))
  have B1 : Below w.heap.size w w1 := by rw [hw1]; exact B0.alloc B0.size _
  have Rs : Reads w (some ⟨S, 0, none⟩) (x.stable.flatMap secV) := .inr ⟨S, 0, rfl, (m.sta.lt S rfl).2, fun j u hu => by rw [Nat.zero_add]; exact own_cell m.sta hu⟩
  have Rc : Reads w A (x.cache.flatMap dwV) := by
    by_cases h0 : 0 < x.cache.length
    · have hA' := hA h0
      subst hA'
      exact .inr ⟨g, 0, rfl, (m.cac.lt g rfl).2, fun j u hu => by rw [Nat.zero_add]; exact own_cell m.cac hu⟩
    · left
      have : x.cache = [] := List.eq_nil_of_length_eq_zero (by omega)
      rw [this]; rfl
  have lenS : (x.stable.flatMap secV).length = x.stable.length * 128 := m.sta.1
  have lenC : (x.cache.flatMap dwV).length = x.cache.length * 129 := m.cac.1
  have oneS : ∀ u ∈ x.stable.flatMap secV, u.oneCell' = true := fun u hu => by
    obtain ⟨s, _, hs⟩ := List.mem_flatMap.1 hu
    exact secV_one s u hs
  have oneC : ∀ u ∈ x.cache.flatMap dwV, u.oneCell' = true := fun u hu => by
    obtain ⟨s, _, hs⟩ := List.mem_flatMap.1 hu
    exact dwV_one s u hs
  have hAn : A = none → x.cache.length = 0 := fun h => by
    by_cases h0 : 0 < x.cache.length
    · have := hA h0; rw [h] at this; cases this
    · omega
  have cl1 := clone_sec (some ⟨S, 0, none⟩) x.stable.length c (x.stable.flatMap secV) lenS (by omega) w1.drew ((Rs.below B1).below (Below.refl _ _).drew) (fun h => by cases h) oneS
  have cD0 := bD0.cells
  have lD0 := bD0.lt
  have hS0 : w1.cell? ⟨w.heap.size + 1, 0, none⟩ = some (.slice (some ⟨S, 0, none⟩) x.stable.length c) ∧ w1.cell? ⟨w.heap.size + 1, 1, none⟩ = some (.slice A x.cache.length cc) := ⟨by rw [bS1.cells]; rfl, by rw [bS1.cells]; rfl⟩
  have Rc1 := Rc.below B1
  clear Rs Rc B0 bD m
  have hok0 := hok w0 bD0
  have hz0 : w0.heap.size = w.heap.size + 1 := by rw [hw0]; simp
  have z1 := B1.size
  have HZ0 := Lib.hid hz0
  clear hz0
  have HW1 := Lib.hid hw1
  unfold stateC at hw0 hw1 bR1 bS1
  go_enter Tryz.func28, Tryz.ntmps28
  go_wp2_with fail
  rw [← hw0]
  refine hok0.mono ?_
  rintro e w' ⟨rfl, hw'⟩
  replace hw' := hw'.symm
  subst hw'
  clear hok0 hok hw0
  go_wp2_with fail
  rw [← hw1, HZ0.out]
  clear hw1 cD0 lD0
  refine wp_region_mix [.take 0, .take 1, .take 3, .take 4, .one 2, .take 6, .one 5, .one 7, .one 8, .one 9] 7 (fun w' => w'.cell? ⟨w.heap.size + 1, 0, none⟩ = some (.slice (some ⟨S, 0, none⟩) x.stable.length c) ∧ w'.cell? ⟨w.heap.size + 1, 1, none⟩ = some (.slice A x.cache.length cc)) (by kernel_rfl) (by kernel_rfl) (fun _ _ _ _ _ h => h) hS0 ?_
  simp only [List.map_cons, List.map_nil, Ms.fill, List.getD_cons_zero, List.getD_cons_succ]
  iterate 4 (refine mixT_take (by rfl) ?_ (fun w' hw' => ?_) ?_; rotate_left; (focus (go_simp; (try with_reducible rfl))); (try simp only [Act.put, List.setIfInBounds_toArray, List.set_cons_zero, List.set_cons_succ]))
  refine mixT_step (by rfl) fun K hK => ?_
  go_simp
  refine cl1.mono ?_
  rintro e w2 ⟨sv, rfl, ownS, hb2⟩
  have bS2 := bS1.drew.belowAll hb2
  have bR2 := bR1.drew.belowAll hb2
  have B2 : Below w.heap.size w w2 := B1.drew.trans (hb2.mono z1)
  have Rc2 := (Rc1.below (Below.refl _ _).drew).below hb2
  have ownS2 : w2.ownsRow w.heap.size 141 128 sv x.stable.length (x.stable.flatMap secV) := own_base ownS z1
  have hsv : ∀ g, sv.ownBlock = some g → w1.heap.size ≤ g := fun g e => (ownS.lt g e).1
  have z2 : w1.heap.size ≤ w2.heap.size := hb2.size
  refine hK _ _ (fun _ => ⟨by rw [bS2.cells]; rfl, by rw [bS2.cells]; rfl⟩) ?_
  clear hK K cl1 hb2 hS0 bS1 bR1 Rc1 ownS
  iterate 1 (refine mixT_take (by rfl) ?_ (fun w' hw' => ?_) ?_; rotate_left; (focus (go_simp; (try with_reducible rfl))); (try simp only [Act.put, List.setIfInBounds_toArray, List.set_cons_zero, List.set_cons_succ]))
  refine mixT_step (by rfl) fun K hK => ?_
  go_simp
  refine (clone_dvw A x.cache.length cc (x.cache.flatMap dwV) lenC (by omega) w2 Rc2 hAn oneC).mono ?_
  rintro e w3 ⟨cv', rfl, ownC, hb3⟩
  have bS3 := bS2.belowAll hb3
  have bR3 := bR2.belowAll hb3
  have B3 : Below w.heap.size w w3 := B2.trans (hb3.mono B2.size)
  have ownS3 := own_below ownS2 hb3
  have ownC3 : w3.ownsRow w.heap.size 144 129 cv' x.cache.length (x.cache.flatMap dwV) := own_base ownC B2.size
  have hcv' : ∀ g, cv'.ownBlock = some g → w1.heap.size ≤ g := fun g e => Nat.le_trans z2 (ownC.lt g e).1
  refine hK _ _ (fun _ => ⟨by rw [bS3.cells]; rfl, by rw [bS3.cells]; rfl⟩) ?_
  clear hK K hb3 bS2 bR2 B2 Rc2 ownS2 ownC z2
  obtain ⟨S', c', rfl, -, -⟩ := own_form ownS3 (by have := ok.lo; omega)
  obtain ⟨A', cc', g', hcv2, -⟩ : ∃ A' cc' g', cv' = .slice A' x.cache.length cc' ∧ (0 < x.cache.length → A' = some ⟨g', 0, none⟩) := by
    rcases ownC3.2 with ⟨rfl, h0⟩ | ⟨g, cap, cur, rfl, -⟩
    · exact ⟨none, 0, 0, by rw [h0], by omega⟩
    · exact ⟨_, cap, g, rfl, fun _ => rfl⟩
  subst hcv2
  have cS3 := bS3.cells
  have fS3 := bS3.free
  have lS3 := bS3.lt
  refine mixT_step (by rfl) fun K hK => ?_
  go_simp
  refine hK _ _ (fun h => absurd h (by decide)) ?_
  clear hK K
  refine mixT_step (by rfl) fun K hK => ?_
  go_simp
  refine hK _ _ (fun h => absurd h (by decide)) ?_
  clear hK K
  refine mixT_step (by rfl) fun K hK => ?_
  go_simp
  refine hK _ _ (fun h => absurd h (by decide)) ?_
  clear hK K
  refine mixT_nil ?_
  obtain ⟨w4, hw4⟩ : ∃ w4, w4 = (w3.setCell ⟨w.heap.size + 1, 0, none⟩ (.slice (some ⟨S', 0, none⟩) x.stable.length c')).setCell ⟨w.heap.size + 1, 1, none⟩ (.slice A' x.cache.length cc') := ⟨_, rfl⟩
  have zz : w.heap.size + 1 < w1.heap.size := by have := HZ0.out; rw [HW1.out]; simp; omega
  have bS4 : Blk w4 (w.heap.size + 1) 83 #[.slice (some ⟨S', 0, none⟩) x.stable.length c', .slice A' x.cache.length cc', .int .i64 x.taken, .int .i64 x.power, .bool x.off] := by rw [hw4]; exact (bS3.set_ 0 _).set_ 1 _
  have bR4 : Blk w4 w.heap.size 83 #[.slice none 0 0, .slice none 0 0, .int .i64 0, .int .i64 0, .bool false] := by rw [hw4]; exact (bR3.far (by simp) _).far (by simp) _
  have B4 : Below w.heap.size w w4 := by rw [hw4]; exact (B3.setCell (by simp) _).setCell (by simp) _
  have k4 : KeepEx w3.heap.size [w.heap.size + 1] w3 w4 := by rw [hw4]; exact (KeepEx.setCell _ (.inl (by simp)) _).trans (KeepEx.setCell _ (.inl (by simp)) _)
  rw [← hw4]
  clear hw4 cS3 fS3 lS3 bS3 bR3 B3
  have ownS4 := own_block ownS3 (fun g e => k4.block g (ownS3.lt g e).2 (by have := hsv g e; simp; omega))
  have ownC4 := own_block ownC3 (fun g e => k4.block g (ownC3.lt g e).2 (by have := hcv' g e; simp; omega))
  have cS4 := bS4.cells
  have lS4 := bS4.lt
  have cR4 := bR4.cells
  have fR4 := bR4.free
  have lR4 := bR4.lt
  have hst := storeRow' (ty := 83) (vs := stateC (.slice (some ⟨S', 0, none⟩) x.stable.length c') (.slice A' x.cache.length cc') x.taken x.power x.off) bR4 rfl (by simp [stateC, Value.oneCell']) (by kernel_rfl)
  unfold stateC at hst
  clear fR4 cR4 lR4
  go_wp2_with (refine wpList_storeBy rfl _ _ _ rfl _ _ rfl rfl hst ?_)
  have bR5 := bR4.setRow (cs' := #[.slice (some ⟨S', 0, none⟩) x.stable.length c', .slice A' x.cache.length cc', .int .i64 x.taken, .int .i64 x.power, .bool x.off])
  have cR5 := bR5.cells
  have k5 : KeepEx w4.heap.size [w.heap.size] w4 (w4.setRow w.heap.size #[.slice (some ⟨S', 0, none⟩) x.stable.length c', .slice A' x.cache.length cc', .int .i64 x.taken, .int .i64 x.power, .bool x.off]) := KeepEx.setRow _ (.inl (by simp)) _
  refine bodyPost_ret (v := .agg #[.slice (some ⟨S', 0, none⟩) x.stable.length c', .slice A' x.cache.length cc', .int .i64 x.taken, .int .i64 x.power, .bool x.off]) (by simp [results, Tryz.results28, go_sem, cR5]) rfl ?_
  exact ⟨_, _, rfl, own_block ownS4 (fun g e => k5.block g (ownS4.lt g e).2 (by have := hsv g e; simp; omega)), own_block ownC4 (fun g e => k5.block g (ownC4.lt g e).2 (by have := hcv' g e; simp; omega)), Below.setRow B4 (Nat.le_refl _) _⟩

end Go.Proofs.YtljmdcegcckblaaGreatDoor
