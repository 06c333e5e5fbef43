/- Parts of the proof, put together by program: Z0, Z1, Z2. -/
import Derived.Test.YtfmobeeddlnhcaaGreatDoorPart04
import Derived.Test.YtfmobeeddlnhcaaGreatDoorPart02
import Derived.Test.YtfmobeeddlnhcaaGreatDoorPart26
/- A range over a function that writes one box of its own between its rounds, and whose rounds all go on. -/
namespace Go.Proofs.YtfmobeeddlnhcaaGreatDoor
open Go.RowKit Go.Shelf

section
variable {F : Fence} {n : Nat} {P : Program} {α : Type}

/-- An iterator over a box in block Bs: it may write this box between the rounds; a round leaves the box alone. -/
def SeqAllB (F : Fence) (n : Nat) (P : Program) (gf : Nat) (lb : Array Value) (encs : α → Array Value) (S : List α → Prop) (N Bs : Nat) (w : World) : Prop :=
  ∀ (l : Nat) (J : List α → World → Prop) (W : World), Below w.heap.size w W → (∀ s V v, J s V → J s (V.setCell ⟨Bs, 0, none⟩ v)) →
    (∀ pre x V, J pre V → pre.length < N → YieldAt F (n - 1) P l (encs x) V fun e V' => e = .returned (.bool true) ∧ J (pre ++ [x]) V' ∧ V'.heap[Bs]? = V.heap[Bs]?) →
    J [] W → CallsIn F n P gf (#[.func (.yield l) #[] #[]] ++ lb) W fun e V' => (∃ v, e = .returned v) ∧ ∃ xs, S xs ∧ J xs V'

/-- How a round ends: it goes on. -/
def roundAll (B Bs : Nat) (I : List α → World → Prop) (xs : List α) (W : World) : Exit → Act → World → Prop
  | .normal, _, W' => KeepsFrom B W W' ∧ W'.heap[Bs]? = W.heap[Bs]? ∧ I xs W'
  | _, _, _ => False

theorem wpIn_rangeFunc_all {g : Operand} {ps : Array Tmp} {assign body : Code} {Q : Exit → Act → World → Prop} {a : Act} {w : World}
    (hro : F.round = none) (h1 : 1 ≤ n) {gf : Nat} {lb : Array Value} (hg : a.eval g = .func (.func gf) #[] lb) (hFg : F.fn gf) (eg : ∀ args w, (callFunc gf args).run P w = .ok (.enter gf args) w)
    {encs : α → Array Value} {S : List α → Prop} {N Bs : Nat} (hBs : Bs < w.heap.size) (hseq : SeqAllB F (n - 1) P gf lb encs S N Bs w) (hps : ∀ x, (encs x).size = ps.size)
    (I : List α → World → Prop) (hI : OwnFrom w.heap.size I) (hIB : ∀ s V v, I s V → I s (V.setCell ⟨Bs, 0, none⟩ v)) (h0 : I [] w) (a₁ : α → Act)
    (hassign : ∀ (l : Nat) (x : α) (W : World) (K : Act → World → Prop), K (a₁ x) W →
      assign.wpIn (F.inRound l) (n - 1 - 1) P (Exit.then K (fun _ _ _ => False)) { tmps := (ps.zip (encs x)).foldl (fun t (p, v) => t.setIfInBounds p v) a.tmps, defers := [] } W)
    (hbody : ∀ (l : Nat) (pre : List α) (x : α) (W : World), I pre W → pre.length < N → body.wpIn (F.inRound l) (n - 1 - 1) P (roundAll w.heap.size Bs I (pre ++ [x]) W) (a₁ x) W)
    (hdone : ∀ (D : Nat) (xs : List α) (W : World), w.heap.size ≤ D → S xs → I xs W → W.heap[D]? = some (.deferred (some [])) → Q .normal { a with defers := { target := .collected D, args := #[] } :: a.defers } W) :
    (Code.rangeFunc g ps assign body).wpIn F n P Q a w := by
  refine wpIn_rangeFunc fun fn hfn => ?_
  rw [hro]
  let rc : LoopState → Option Code → Loop := fun st pe => { state := st, pending := pe, fn, tmps := a.tmps, params := ps, assign, body, defers := w.heap.size }
  obtain ⟨W1, hW1⟩ : ∃ W1, (w.alloc (.deferred (some []))).alloc (.loop (rc .ready none)) = W1 := ⟨_, rfl⟩
  have z1 : W1.heap.size = w.heap.size + 2 := by rw [← hW1]; simp
  have hl1 : W1.heap[w.heap.size + 1]? = some (.loop (rc .ready none)) := by
    rw [← hW1]; have := World.alloc_heap_new (w.alloc (.deferred (some []))) (.loop (rc .ready none)); rwa [World.size_alloc] at this
  have hd1 : W1.heap[w.heap.size]? = some (.deferred (some [])) := by
    rw [← hW1]; exact (Below.heap_alloc _ _ _ (by simp)).trans (World.alloc_heap_new w _)
  have hi1 : I [] W1 := by rw [← hW1]; exact hI.alloc _ (hI.alloc _ h0)
  have hb1 : Below w.heap.size w W1 := by rw [← hW1]; exact ((Below.refl _ w).alloc (Nat.le_refl _) _).alloc (by simp) _
  -- the block of the box is none of the two new ones
  have hset : ∀ (V : World) v k, w.heap.size ≤ k → (V.setCell ⟨Bs, 0, none⟩ v).heap[k]? = V.heap[k]? := fun V v k hk => Below.heap_setCell V ⟨Bs, 0, none⟩ v k (by show k ≠ Bs; omega)
  refine ⟨w.heap.size + 1, [{ target := .collected w.heap.size, args := #[] }], W1, { target := .fn (.func gf) lb, args := #[.func (.yield (w.heap.size + 1)) #[] #[]] }, W1, gf,
    #[.func (.yield (w.heap.size + 1)) #[] #[]] ++ lb, W1, ?_, ?_, ?_, ?_, fun _ => h1, ?_⟩
  · rw [← hW1]; exact run_enterLoop_outer _ _ _ _ _
  · simp only [resolve, hg]
    simp [go_sem]
  · intro f' hf'; simp [Target.leads] at hf'; subst hf'; exact hFg
  · simp [invoke, go_sem, eg]
  refine (hseq (w.heap.size + 1) (fun pre W => I pre W ∧ W.heap[w.heap.size + 1]? = some (.loop (rc .ready none)) ∧ W.heap[w.heap.size]? = some (.deferred (some []))) W1 hb1
    (fun s V v h => ⟨hIB s V v h.1, (hset V v _ (by omega)).trans h.2.1, (hset V v _ (Nat.le_refl _)).trans h.2.2⟩) ?_ ⟨hi1, hl1, hd1⟩).mono ?_
  · rintro pre x W ⟨hi, hl, hk⟩ hlen
    have hlt : w.heap.size + 1 < W.heap.size := (Array.getElem?_eq_some_iff.1 hl).1
    have hy := run_yield (P := P) (args := encs x) hl (hps x)
    obtain ⟨Wb, hWb⟩ : ∃ Wb, Wb = W.putObj (w.heap.size + 1) (.loop { rc .ready none with state := .busy }) := ⟨_, rfl⟩
    have hl2 : Wb.heap[w.heap.size + 1]? = some (.loop { rc .ready none with state := .busy }) := by rw [hWb]; exact World.putObj_heap_same hlt
    have hk2 : Wb.heap[w.heap.size]? = some (.deferred (some [])) := by rw [hWb]; exact (World.putObj_heap_other (by omega)).trans hk
    have hB2 : Wb.heap[Bs]? = W.heap[Bs]? := by rw [hWb]; exact World.putObj_heap_other (by omega)
    refine ⟨fn, _, assign, body, hy, roundIn_of_wpIn hfn (hassign _ x W _ ⟨Wb, by rw [hWb]; exact run_beginRound hl rfl, ?_⟩)⟩
    refine wpIn_mono (hbody _ pre x Wb (by rw [hWb]; exact hI.putObj _ hi (by omega) hl rfl) hlen) ?_
    rintro e a3 W3 hp
    cases e with
    | normal =>
      obtain ⟨hk3, hB3, hi3⟩ := hp
      have hl3 := hk3.same _ _ (by omega) hl2 rfl
      have hr := run_endRound (P := P) none hl3
      refine ⟨_, _, hr, ⟨rfl, ⟨hI.putObj _ hi3 (by omega) hl3 rfl, World.putObj_heap_same (Array.getElem?_eq_some_iff.1 hl3).1, (World.putObj_heap_other (by omega)).trans (hk3.same _ _ (Nat.le_refl _) hk2 rfl)⟩, ?_⟩⟩
      exact (World.putObj_heap_other (by omega)).trans (hB3.trans hB2)
    | ret => exact hp.elim
    | exit id => exact hp.elim
    | goto t => exact hp.elim
    | panic ch => exact hp.elim
    | outgrown => exact hp.elim
  · rintro e W2 ⟨⟨v, rfl⟩, xs, hS, hi, hl, hk⟩
    exact ⟨none, _, run_endLoop (P := P) hl (by simp [rc]), hdone _ xs _ (Nat.le_refl _) hS (hI.putObj _ hi (by omega) hl rfl) ((World.putObj_heap_other (by omega)).trans hk)⟩

end
end Go.Proofs.YtfmobeeddlnhcaaGreatDoor
/- Layer 12: the parts into which a string is cut: the closure of cuts. -/
namespace Go.Proofs.YtfmobeeddlnhcaaGreatDoor
open Go.RowKit Go.Shelf

attribute [local go_sem] Oper.semAt_some

def cutAt (s : ByteArray) (k : Nat) : ByteArray := s.extract (96 * k) (96 * k + 96)
def nCuts (n : Nat) : Nat := (n + 95) / 96
def cutsL (s : ByteArray) : List ByteArray := (List.range (nCuts s.size)).map (cutAt s)
def restOf (s : ByteArray) (k : Nat) : ByteArray := s.extract (96 * k) s.size

theorem ba_ext {a b : ByteArray} (h : a.data = b.data) : a = b := ByteArray.ext h
theorem restOf_0 (s : ByteArray) : restOf s 0 = s := by unfold restOf; simp
theorem restOf_size (s : ByteArray) (k : Nat) : (restOf s k).size = s.size - 96 * k := by unfold restOf; simp
theorem restOf_head (s : ByteArray) (k : Nat) (m : Nat) (hm : m = min (s.size - 96 * k) 96) : (restOf s k).extract 0 m = cutAt s k := by
  unfold restOf cutAt
  rw [ByteArray.extract_extract]
  subst hm
  apply ba_ext
  simp only [ByteArray.data_extract]
  apply Array.ext_getElem?
  intro i
  simp only [Array.getElem?_extract]
  have e : s.data.size = s.size := rfl
  by_cases hi : i < min (s.size - 96 * k) 96
  · rw [if_pos (by simp only [e]; omega), if_pos (by simp only [e]; omega), Nat.add_zero]
  · rw [if_neg (by simp only [e]; omega), if_neg (by simp only [e]; omega)]
theorem restOf_tail (s : ByteArray) (k : Nat) (m z : Nat) (hm : m = min (s.size - 96 * k) 96) (hz : z = s.size - 96 * k) : (restOf s k).extract m z = restOf s (k + 1) := by
  unfold restOf
  rw [ByteArray.extract_extract]
  subst hm hz
  apply ba_ext
  simp only [ByteArray.data_extract]
  apply Array.ext_getElem?
  intro i
  simp only [Array.getElem?_extract]
  have e : s.data.size = s.size := rfl
  by_cases hi : i < s.size - 96 * (k + 1)
  · rw [if_pos (by simp only [e]; omega), if_pos (by simp only [e]; omega)]
    congr 1; omega
  · rw [if_neg (by simp only [e]; omega), if_neg (by simp only [e]; omega)]
theorem ByteArray.extract_same (r : ByteArray) (n : Nat) : r.extract n n = ByteArray.empty := by
  apply ba_ext; simp
theorem cutsL_snoc (s : ByteArray) (k : Nat) : (List.range (k + 1)).map (cutAt s) = (List.range k).map (cutAt s) ++ [cutAt s k] := by rw [List.range_succ, List.map_append]; rfl

def boxLen (w : World) (B : Nat) : Nat := match w.cell? ⟨B, 0, none⟩ with | some (.string r) => r.size | _ => 0

theorem boxLen_set {W : World} {B : Nat} {t : TypeId} {v : Value} {x : ByteArray} (b : Blk W B t #[v]) : boxLen (W.setCell ⟨B, 0, none⟩ (.string x)) B = x.size := by
  have h : (W.setCell ⟨B, 0, none⟩ (.string x)).cell? ⟨B, 0, none⟩ = some (.string x) := ((b.set_ 0 (.string x)).cells 0).trans rfl
  unfold boxLen; rw [h]

set_option maxRecDepth 100000 in
set_option maxHeartbeats 2000000 in
theorem cuts1_all (F : Fence) (n : Nat) (hF : F.fn 82) (hro : F.round = none) (hn : 1 ≤ n) (Bs : Nat) (s : ByteArray) (hs : s.size ≤ 1000000) (w : World) (b : Blk w Bs 9 #[.string s]) :
    SeqAllB F n Tryz.prog 82 #[.pointer (some ⟨Bs, 0, none⟩)] (fun x : ByteArray => #[Value.string x]) (fun xs => xs = cutsL s) (nCuts s.size) Bs w := by
  intro l J W hW hJB hY h0
  refine callsIn_of_wp Tryz.func82 rfl hF ?_ hro
  simp only [Tryz.ntmps82, List.size_toArray, List.length_cons, List.length_nil, Nat.reduceAdd, Nat.reduceSub, Array.replicate_succ, Array.replicate_zero, List.push_toArray, List.append_toArray, List.nil_append, List.cons_append]
  have hbW := b.belowAll hW
  gi_wp2
  gi_loopw [3] (fun q wr => ∃ k : Nat, k ≤ nCuts s.size ∧ J ((List.range k).map (cutAt s)) wr ∧ Blk wr Bs 9 #[.string (restOf s k)])
    (fun q wr => boxLen wr Bs)
  case atStart => exact ⟨0, Nat.zero_le _, h0, by rw [restOf_0]; exact hbW⟩
  case round =>
    obtain ⟨k, hk, hJs, hb⟩ := hrel
    have hsz := restOf_size s k
    have cB : wr.cell? ⟨Bs, 0, none⟩ = some (.string (restOf s k)) := (hb.cells 0).trans rfl
    have lB := hb.lt
    have fB := hb.free
    by_cases hlt : 96 * k < s.size
    · have hkn : k < nCuts s.size := by unfold nCuts; omega
      have HH := Lib.hid (restOf_head s k)
      have HT := Lib.hid (restOf_tail s k)
      have HS := Lib.hid hsz
      have HSN := Lib.hid (cutsL_snoc s k)
      have hpos : 0 < (restOf s k).size := by omega
      have hr6 : (restOf s k).size ≤ 1000000 := by omega
      generalize restOf s k = r at *
      clear hsz
      rcases Nat.lt_or_ge 96 r.size with h96 | h96
      rotate_left
      focus
        have hm : r.size = min (s.size - 96 * k) 96 := by rw [HS.out] at h96 ⊢; omega
        have HX : Hid (r = cutAt s k) := Lib.hid (by have := HH.out _ hm; rwa [ByteArray.extract_zero_size] at this)
        have HT2 := Lib.hid (HT.out _ _ hm HS.out)
        have hi : (r.size : Int) ≤ 96 := by omega
        have hmn : min (r.size : Int) 96 = (r.size : Int) := by omega
        obtain ⟨fn, tmps, assign, body, hy, hR⟩ := hY _ r wr hJs (by simpa using hkn)
        clear hm h96
        gi_wp2
      rotate_left
      focus
        have hm : 96 = min (s.size - 96 * k) 96 := by have := HS.out; omega
        have HX := Lib.hid (HH.out _ hm)
        have HT2 := Lib.hid (HT.out _ _ hm HS.out)
        have hi : ¬ (r.size : Int) ≤ 96 := by omega
        have hmn : min (r.size : Int) 96 = 96 := by omega
        obtain ⟨fn, tmps, assign, body, hy, hR⟩ := hY _ (r.extract 0 96) wr hJs (by simpa using hkn)
        clear hm
        gi_wp2
      all_goals
        refine hR.mono ?_
        rintro e W3 ⟨rfl, hJ3, hB3⟩
        have hb3 : Blk W3 Bs 9 #[.string r] := hB3.trans hb
        have cB3 : W3.cell? ⟨Bs, 0, none⟩ = some (.string r) := (hb3.cells 0).trans rfl
        have lB3 := hb3.lt
        have fB3 := hb3.free
        gi_wp2
        go_roundw
        case rel =>
          refine ⟨k + 1, hkn, hJB _ _ _ ?_, ?_⟩
          · rw [HSN.out, ← HX.out]; exact hJ3
          · rw [← HT2.out]; first | exact hb3.set_ 0 _ | (rw [ByteArray.extract_same]; exact hb3.set_ 0 _)
        case measure =>
          have e1 : boxLen wr Bs = r.size := by unfold boxLen; rw [cB]
          have e3 := restOf_size s (k + 1)
          have e4 := HS.out
          rw [e1]
          first
            | (rw [boxLen_set hb3]; have : (r.extract 96 r.size).size = r.size - 96 := (by simp); omega)
            | (rw [boxLen_set hb3]; exact hpos)
    · have hk2 : k = nCuts s.size := by unfold nCuts at hk ⊢; omega
      have hpos : (restOf s k).size = 0 := by omega
      have HK := Lib.hid hk2
      clear hk2 hsz hlt hk
      generalize restOf s k = r at *
      gi_wp2
      go_end0
      refine ⟨⟨_, rfl⟩, _, rfl, ?_⟩
      unfold cutsL
      rw [← HK.out]
      exact hJs

end Go.Proofs.YtfmobeeddlnhcaaGreatDoor
/- Layer 12: cuts, Collect of what it yields, Split. -/
namespace Go.Proofs.YtfmobeeddlnhcaaGreatDoor
open Go.RowKit Go.Shelf

attribute [local go_sem] Oper.semAt_some

theorem Tryz.infoStr : (Tryz.prog.info? 9).map (fun i => (i.zero, i.size, i.bytes)) = some (some (.string ⟨#[]⟩), 1, 16) := by kernel_rfl

set_option maxHeartbeats 400000 in
theorem cuts_any (s : ByteArray) (w : World) :
    Calls Tryz.prog 44 #[.string s] w fun e w' => e = .returned (.func (.func 82) #[] #[.pointer (some ⟨w.heap.size, 0, none⟩)]) ∧ w' = w.alloc (.cells #[.string s] 9) := by
  have hmf : ∀ (fn : Fn) (first cap : Array Value) (w : World), (Instr.makeFunc fn first cap).run Tryz.prog w = .ok (.func fn first cap) w := fun _ _ _ _ => rfl
  go_enter Tryz.func44, Tryz.ntmps44
  go_wp2
  go_ret
  exact ⟨rfl, rfl⟩

theorem KeepEx.widen {B : Nat} {bs bs' : List Nat} {w w' : World} (h : KeepEx B bs w w') (hs : ∀ k, k ∈ bs → k ∈ bs') : KeepEx B bs' w w' := ⟨h.os, h.tape, h.output, h.size, fun k hk hn => h.block k hk (fun e => hn (hs k e))⟩

def StrsBox (B base : Nat) (l : List ByteArray) (W : World) : Prop :=
  ∃ v, Boxed W B 23 v ∧ W.ownsRow base 9 1 v l.length (l.map Value.string) ∧ (v = .slice none 0 0 ↔ l = [])
theorem strsBox_own (B base C : Nat) : OwnFrom C (fun (l : List ByteArray) W => StrsBox B base l W) :=
  Own.from (holdsRow_own base B 23 9 1 (fun l : List ByteArray => l.length) (fun l => l.map Value.string) (fun l v => v = .slice none 0 0 ↔ l = [])) C
theorem StrsBox.set_ {B base Bs : Nat} {l : List ByteArray} {W : World} (h : StrsBox B base l W) (h1 : Bs ≠ B) (h2 : Bs < base) (u : Value) : StrsBox B base l (W.setCell ⟨Bs, 0, none⟩ u) := by
  obtain ⟨v, hv, hrow, hn⟩ := h
  exact ⟨v, Blk.far hv (Ne.symm h1) u, ownsRow_setCell_below hrow h2 u, hn⟩

def CollPost (l : List ByteArray) (Bs : Nat) (w : World) (e : Ending) (w' : World) : Prop :=
  ∃ v, e = .returned v ∧ w'.ownsRow w.heap.size 9 1 v l.length (l.map .string) ∧ (v = .slice none 0 0 ↔ l = []) ∧ KeepEx w.heap.size [Bs] w w'

theorem cutsL_length (s : ByteArray) : (cutsL s).length = nCuts s.size := by unfold cutsL; simp

set_option maxRecDepth 100000 in
set_option maxHeartbeats 2000000 in
theorem appendSeq_cuts (Bs : Nat) (s : ByteArray) (hs : s.size ≤ 100000) (w : World) (b : Blk w Bs 9 #[.string s]) :
    Calls Tryz.prog 81 #[.slice none 0 0, .func (.func 82) #[] #[.pointer (some ⟨Bs, 0, none⟩)]] w (CollPost (cutsL s) Bs w) := by
  refine calls_of_marks Tryz.func81 rfl ?_
  simp only [Tryz.ntmps81, List.size_toArray, List.length_cons, List.length_nil, Nat.reduceAdd, Nat.reduceSub, Array.replicate_succ, Array.replicate_zero, List.push_toArray, List.append_toArray, List.nil_append, List.cons_append]
  have lB := b.lt
  obtain ⟨W1, hW1⟩ : ∃ W1, W1 = w.alloc (.cells #[.slice none 0 0] 23) := ⟨_, rfl⟩
  have b1 : Blk W1 Bs 9 #[.string s] := by rw [hW1]; exact b.alloc _
  have bL1 : Boxed W1 w.heap.size 23 (.slice none 0 0) := by rw [hW1]; exact Blk.new _ _ _
  have hz1 : W1.heap.size = w.heap.size + 1 := by rw [hW1]; simp
  have B1 : Below w.heap.size w W1 := by rw [hW1]; exact (Below.refl _ _).alloc (Nat.le_refl _) _
  obtain ⟨i0, hi, hz0, hzs, hzb⟩ := info_parts Tryz.infoStr
  have HHI := Lib.hid hi
  clear hi
  go_wp2_with fail
  rw [← hW1]
  clear hW1
  refine range_meet (n := 6) (fun D W => W.heap[D]? = some (.deferred (some [])) ∧ w.heap.size + 1 ≤ D ∧ StrsBox w.heap.size (w.heap.size + 1) (cutsL s) W ∧ KeepEx (w.heap.size + 1) [w.heap.size, Bs] W1 W) ?loop ?after
  case loop =>
    refine wpIn_rangeFunc_all rfl (by omega) (gf := 82) (lb := #[.pointer (some ⟨Bs, 0, none⟩)]) rfl trivial (enters_of Tryz.func82 (by kernel_rfl) rfl) (by omega)
      (cuts1_all Fence.wide (6 - 1) trivial rfl (by omega) Bs s (by omega) W1 b1) (fun _ => rfl)
      (fun pre W => StrsBox w.heap.size (w.heap.size + 1) pre W ∧ KeepEx (w.heap.size + 1) [w.heap.size, Bs] W1 W)
      (OwnFrom.and (strsBox_own _ _ _) (ownFrom_keepEx (by omega) (by omega)))
      (fun pre V v h => ⟨h.1.set_ (by omega) (by omega) v, h.2.trans (KeepEx.setCell V (.inl (by simp)) v)⟩)
      ⟨⟨_, bL1, World.ownsRow_nil _ _ _ _, by simp⟩, KeepEx.refl _ _ _⟩
      (fun x => { tmps := #[.slice none 0 0, .func (.func 82) #[] #[.pointer (some ⟨Bs, 0, none⟩)], .pointer (some ⟨w.heap.size, 0, none⟩), undef, .slice none 0 0, .string x, .func (.func 82) #[] #[.pointer (some ⟨Bs, 0, none⟩)], .string x, undef, undef, undef, undef, undef], defers := [] }) ?assign ?body ?done
    case assign =>
      intro l x W K hK
      gi_wp2
      exact hK
    case body =>
      rintro l pre x W ⟨⟨v, hv, hrow, hnil⟩, hK⟩ hlt
      have hlt2 : pre.length ≤ 2000 := by unfold nCuts at hlt; omega
      obtain ⟨av, cv, rfl⟩ := own_slice hrow
      have hc := hv.cell
      have hf := hv.frozen
      have hsz := hK.size
      clear hnil hlt
      have hi := HHI.out
      gi_wp2_with (gi_at_builtin; refine wpListIn_append_own _ rfl _ _ 23 rfl (w.heap.size + 1) 9 i0 (.string ⟨#[]⟩) 1 16 Tryz.underlying23 hi hz0 hzs hzb rfl (by decide) _ _ _ rfl (hrow.alloc _) ⟨W.heap.size, 0, none⟩ 1 1 [.string x] rfl rfl (cell_one_new _ _ _) (by simp [Value.oneCell']) (by simp only [maxLen]; omega) (by omega) (by simp; omega) ?_; intro v' w2 hown' hgrow _; obtain ⟨g', cap', rfl⟩ := ownsRow_succ hown'; obtain ⟨hv1, hv2, hr2, hk2, hb2⟩ := box_appended hv hrow (by omega) (by omega) hown' hgrow; have hc1 := hv1.cell; have hf1 := hv1.frozen)
      exact ⟨hk2.from _, hb2.block Bs (by omega) (by simp; omega), ⟨_, hv2, by simpa using hr2, by simp⟩, hK.trans (KeepEx.widen hb2 (fun k hk => by simp at hk; simp [hk]))⟩
    case done =>
      rintro D xs W hD rfl ⟨hbox, hK⟩ hKd
      exact ⟨.inl rfl, D, rfl, hKd, by omega, hbox, hK⟩
  case after =>
    rintro D W ⟨hKd, hD, ⟨v, hv, hrow, hnil⟩, hK⟩
    obtain ⟨av, cv, rfl⟩ := own_slice hrow
    have hc := hv.cell
    have hf := hv.frozen
    have HN := Lib.hid hnil
    clear hnil
    go_wp2
    refine marks_ret (.slice av (cutsL s).length cv) hKd (by simp [results, Tryz.results81, go_sem]) ?_
    refine ⟨_, rfl, own_base (ownsRow_putObj hrow _ hKd rfl) (by omega), HN.out, ?_⟩
    have h1 : KeepEx w.heap.size [Bs] w W := (KeepEx.of_below B1).trans ⟨hK.os, hK.tape, hK.output, hK.size, fun k hk hn => hK.block k (by omega) (by simp at hn ⊢; omega)⟩
    exact h1.trans ⟨rfl, rfl, rfl, by simp, fun k hk _ => World.putObj_heap_other (by omega)⟩

theorem collect_cuts (Bs : Nat) (s : ByteArray) (hs : s.size ≤ 100000) (w : World) (b : Blk w Bs 9 #[.string s]) :
    Calls Tryz.prog 43 #[.func (.func 82) #[] #[.pointer (some ⟨Bs, 0, none⟩)]] w (CollPost (cutsL s) Bs w) := by
  have h := appendSeq_cuts Bs s hs w b
  go_enter Tryz.func43, Tryz.ntmps43
  go_wp2_with fail
  refine h.mono ?_
  rintro e w1 ⟨v, rfl, h1⟩
  go_wp2_with fail
  go_ret
  exact ⟨v, rfl, h1⟩

def SplitPost (s : ByteArray) (w : World) (e : Ending) (w' : World) : Prop :=
  Below w.heap.size w w' ∧ ((768 < s.size ∧ e = .returned (.tuple #[.slice none 0 0, .int .i64 3])) ∨
    (s.size ≤ 768 ∧ ∃ v, e = .returned (.tuple #[v, .int .i64 0]) ∧ w'.ownsRow w.heap.size 9 1 v (cutsL s).length ((cutsL s).map .string)))

set_option maxHeartbeats 1000000 in
theorem split_any (s : ByteArray) (hs : s.size ≤ 100000) (w : World) :
    Calls Tryz.prog 11 #[.string s] w (SplitPost s w) := by
  by_cases h : 768 < s.size
  · have hd : (768 : Int) < (s.size : Int) := by omega
    have HH := Lib.hid h
    clear h
    go_enter Tryz.func11, Tryz.ntmps11
    go_wp2_with fail
    go_ret2
    exact ⟨Below.refl _ _, .inl ⟨HH.out, rfl⟩⟩
  · have hd : ¬ (768 : Int) < (s.size : Int) := by omega
    have HH := Lib.hid (by omega : s.size ≤ 768)
    clear h
    go_enter Tryz.func11, Tryz.ntmps11
    go_wp2_with fail
    refine (cuts_any s w).mono ?_
    rintro e w1 ⟨rfl, hw1⟩
    have b : Blk w1 w.heap.size 9 #[.string s] := by rw [hw1]; exact Blk.new _ _ _
    have B1 : Below w.heap.size w w1 := by rw [hw1]; exact (Below.refl _ _).alloc (Nat.le_refl _) _
    have Z1 := Lib.hid B1.size
    clear hw1
    go_wp2_with fail
    refine (collect_cuts w.heap.size s hs w1 b).mono ?_
    rintro e w2 ⟨v, rfl, ho, hn, hk⟩
    clear hn
    go_wp2_with fail
    go_ret2
    exact ⟨B1.trans (hk.toBelow Z1.out (by simp)), .inr ⟨HH.out, v, rfl, own_base ho Z1.out⟩⟩

end Go.Proofs.YtfmobeeddlnhcaaGreatDoor
