/- Parts of the proof, put together by program: J3, J4, J5. -/
import Derived.Test.YtloddiipepiocaaGreatDoorPart13
set_option linter.unusedVariables false
set_option linter.unusedSimpArgs false
/- Layer 9: Format, as a whole. -/
namespace Go.Proofs.YtloddiipepiocaaGreatDoor
open Go.RowKit Go.Maps

/-- Since world wA all that has changed is a device that lay in the blocks of B: it has state x now. -/
def Stay (wA : World) (D : Nat) (B : List Nat) (W : World) (x : DevS) : Prop := ∃ B', DevAt W D B' x ∧ Grow wA B W B'
theorem Stay.refl {w : World} {D : Nat} {B : List Nat} {x : DevS} (h : DevAt w D B x) : Stay w D B w x := ⟨B, h, Grow.refl _ _⟩
theorem Stay.open_ {wA W : World} {D : Nat} {B : List Nat} {x : DevS} (h : Stay wA D B W x) : ∃ B', DevAt W D B' x ∧ Grow wA B W B' ∧ (∀ g t cs, Blk wA g t cs → g ∉ B → Blk W g t cs ∧ g ∉ B') := by
  obtain ⟨B', h1, h2⟩ := h
  exact ⟨B', h1, h2, fun g t cs b hg => ⟨h2.blk b hg, h2.notin hg b.lt⟩⟩
theorem Stay.blk {wA W : World} {D : Nat} {B : List Nat} {x : DevS} (h : Stay wA D B W x) {g : Nat} {t : TypeId} {cs : Array Value} (b : Blk wA g t cs) (hg : g ∉ B) : Blk W g t cs := by
  obtain ⟨B', h1, h2⟩ := h
  exact h2.blk b hg
theorem Stay.then_ {wA W W' : World} {D : Nat} {B B' : List Nat} {x : DevS} (g : Grow wA B W B') (h : ∃ B'', DevAt W' D B'' x ∧ Grow W B' W' B'') : Stay wA D B W' x := by
  obtain ⟨B'', h1, h2⟩ := h
  exact ⟨B'', h1, g.trans h2⟩
theorem Stay.below {wA W W' : World} {D : Nat} {B : List Nat} {x : DevS} (h : Stay wA D B W x) (hb : Below W.heap.size W W') : Stay wA D B W' x := by
  obtain ⟨B', h1, h2⟩ := h
  exact ⟨B', h1.below hb, h2.trans (Grow.of_below hb B')⟩
theorem Stay.did {w wA W : World} {D : Nat} {B : List Nat} {x : DevS} (hb : Below w.heap.size w wA) (h : Stay wA D B W x) : ∃ B', DevAt W D B' x ∧ Grow w B W B' := by
  obtain ⟨B', h1, h2⟩ := h
  exact ⟨B', h1, (Grow.of_below hb B).trans h2⟩

def funcV (f : FuncId) (first cap : Array Value) : Value := .func (.func f) first cap
theorem calls_as {f : FuncId} {args args' : Array Value} {w : World} {R R' : Ending → World → Prop} (h : Calls Tryz.prog f args w R) (e : args = args') (hR : ∀ e w', R e w' → R' e w') : Calls Tryz.prog f args' w R' := by
  subst e; exact h.mono hR

set_option maxRecDepth 100000 in
set_option maxHeartbeats 1000000 in
theorem jformat_any (D : Nat) (F Z : Int) (B : List Nat) (x : DevS) (w : World) (h : DevAt w D B x) :
    Calls Tryz.prog 51 #[.pointer (some ⟨D, 0, none⟩), .agg #[.int .i64 F, .int .i64 Z]] w (DevDid w D B (x.jfmt F Z)) := by
  have hmf : ∀ (fn : Fn) (first cap : Array Value) (w : World), (Instr.makeFunc fn first cap).run Tryz.prog w = .ok (.func fn first cap) w := fun _ _ _ _ => rfl
  obtain ⟨wA, hA⟩ : ∃ wA, wA = ((w.alloc (.cells #[.pointer (some ⟨D, 0, none⟩)] 45)).alloc (.cells #[.int .i64 F, .int .i64 Z] 101)).alloc (.cells #[funcV 97 #[] #[.pointer (some ⟨w.heap.size + 1, 0, none⟩)], funcV 99 #[] #[.pointer (some ⟨w.heap.size, 0, none⟩), .pointer (some ⟨w.heap.size + 1, 0, none⟩)], funcV 101 #[] #[.pointer (some ⟨w.heap.size + 1, 0, none⟩), .pointer (some ⟨w.heap.size, 0, none⟩)], funcV 103 #[.pointer (some ⟨D, 0, none⟩)] #[]] 75) := ⟨_, rfl⟩
  have bP : Blk wA w.heap.size 45 #[.pointer (some ⟨D, 0, none⟩)] := by rw [hA]; exact (by (repeat' (first | (with_reducible assumption) | exact Blk.new' (by simp) | refine Blk.alloc ?_ _)))
  have bJ : Blk wA (w.heap.size + 1) 101 #[.int .i64 F, .int .i64 Z] := by rw [hA]; exact (by (repeat' (first | (with_reducible assumption) | exact Blk.new' (by simp) | refine Blk.alloc ?_ _)))
  have bS := by have := Blk.new' (w := (w.alloc (.cells #[.pointer (some ⟨D, 0, none⟩)] 45)).alloc (.cells #[.int .i64 F, .int .i64 Z] 101)) (t := 75) (cs := #[funcV 97 #[] #[.pointer (some ⟨w.heap.size + 1, 0, none⟩)], funcV 99 #[] #[.pointer (some ⟨w.heap.size, 0, none⟩), .pointer (some ⟨w.heap.size + 1, 0, none⟩)], funcV 101 #[] #[.pointer (some ⟨w.heap.size + 1, 0, none⟩), .pointer (some ⟨w.heap.size, 0, none⟩)], funcV 103 #[.pointer (some ⟨D, 0, none⟩)] #[]]) (g := w.heap.size + 2) (by simp); rw [← hA] at this; exact this
  have hb : Below w.heap.size w wA := by rw [hA]; (repeat' (first | (with_reducible exact Below.refl _ _) | (with_reducible assumption) | (with_reducible refine Below.alloc ?_ ?_ _) | (with_reducible refine Below.drew ?_) | (with_reducible refine below_drewN' ?_ _) | (with_reducible refine Below.setCell ?_ ?_ _) | (with_reducible exact Nat.le_refl _) | omega | (simp; done) | (simp; omega)))
  have nP : w.heap.size ∉ B := h.far (Nat.le_refl _)
  have nJ : w.heap.size + 1 ∉ B := h.far (by omega)
  have nS : w.heap.size + 2 ∉ B := h.far (by omega)
  have h0 : Stay wA D B wA x := Stay.refl (h.below hb)
  have hthen := then_any 4 (by omega) (fun k => [97, 99, 101, 103].getD k 0) (fun k => [#[], #[], #[], #[.pointer (some ⟨D, 0, none⟩)]].getD k #[]) (fun k => [#[.pointer (some ⟨w.heap.size + 1, 0, none⟩)], #[.pointer (some ⟨w.heap.size, 0, none⟩), .pointer (some ⟨w.heap.size + 1, 0, none⟩)], #[.pointer (some ⟨w.heap.size + 1, 0, none⟩), .pointer (some ⟨w.heap.size, 0, none⟩)], #[]].getD k #[]) (w.heap.size + 2) _
    (fun k W => Stay wA D B W ([x, x, (x.put F 1 0 ⟨#[]⟩).2, ((x.put F 1 0 ⟨#[]⟩).2.blanks (F + 1) (Z - 1).toNat).2, ((x.put F 1 0 ⟨#[]⟩).2.blanks (F + 1) (Z - 1).toNat).2.flush.2].getD k x) ∧ (1 ≤ k → checkE F Z = 0) ∧ (2 ≤ k → (x.put F 1 0 ⟨#[]⟩).1 = 0) ∧ (3 ≤ k → ((x.put F 1 0 ⟨#[]⟩).2.blanks (F + 1) (Z - 1).toNat).1 = 0) ∧ (4 ≤ k → ((x.put F 1 0 ⟨#[]⟩).2.blanks (F + 1) (Z - 1).toNat).2.flush.1 = 0))
    (fun E W => E = (x.jfmt F Z).1 ∧ Stay wA D B W (x.jfmt F Z).2)
    (by
      intro k hk args W
      rcases (by omega : k = 0 ∨ k = 1 ∨ k = 2 ∨ k = 3) with rfl | rfl | rfl | rfl <;> kernel_rfl)
    (by
      intro k hk
      rcases (by omega : k = 0 ∨ k = 1 ∨ k = 2 ∨ k = 3) with rfl | rfl | rfl | rfl <;> rfl)
    (fun k W hk hI => hI.1.blk bS nS)
    (by
      intro k hk W hI
      obtain ⟨hs, h1, h2, h3, h4⟩ := hI
      obtain ⟨B', hd, hg, hbl⟩ := hs.open_
      obtain ⟨bP', nP'⟩ := hbl _ _ _ bP nP
      obtain ⟨bJ', nJ'⟩ := hbl _ _ _ bJ nJ
      rcases (by omega : k = 0 ∨ k = 1 ∨ k = 2 ∨ k = 3) with rfl | rfl | rfl | rfl
      · refine calls_as (jfmt1 _ F Z W bJ') rfl ?_
        rintro e W' ⟨rfl, hb'⟩
        refine ⟨_, rfl, fun hE => ⟨hs.below hb', fun _ => hE, by omega, by omega, by omega⟩, fun hE => ?_⟩
        unfold DevS.jfmt
        rw [if_pos hE]
        exact ⟨rfl, hs.below hb'⟩
      · refine calls_as (jfmt2 D _ _ F Z B' x W hd bP' bJ') rfl ?_
        rintro e W' ⟨rfl, hd'⟩
        refine ⟨_, rfl, fun hE => ⟨Stay.then_ hg hd', fun _ => h1 (by omega), fun _ => hE, by omega, by omega⟩, fun hE => ?_⟩
        unfold DevS.jfmt
        rw [if_neg (by rw [h1 (by omega)]; simp), if_pos hE]
        exact ⟨rfl, Stay.then_ hg hd'⟩
      · refine calls_as (jfmt3 D _ _ F Z (h1 (by omega)) B' (x.put F 1 0 ⟨#[]⟩).2 W hd bP' nP' bJ' nJ') rfl ?_
        rintro e W' ⟨rfl, hd'⟩
        refine ⟨_, rfl, fun hE => ⟨Stay.then_ hg hd', fun _ => h1 (by omega), fun _ => h2 (by omega), fun _ => hE, by omega⟩, fun hE => ?_⟩
        unfold DevS.jfmt
        rw [if_neg (by rw [h1 (by omega)]; simp), if_neg (by rw [h2 (by omega)]; simp), if_pos hE]
        exact ⟨rfl, Stay.then_ hg hd'⟩
      · refine calls_as (flush_dev D B' ((x.put F 1 0 ⟨#[]⟩).2.blanks (F + 1) (Z - 1).toNat).2 W hd) rfl ?_
        rintro e W' ⟨rfl, hd', hg'⟩
        refine ⟨_, rfl, fun hE => ⟨Stay.then_ hg ⟨_, hd', hg'⟩, fun _ => h1 (by omega), fun _ => h2 (by omega), fun _ => h3 (by omega), fun _ => hE⟩, fun hE => ?_⟩
        unfold DevS.jfmt
        rw [if_neg (by rw [h1 (by omega)]; simp), if_neg (by rw [h2 (by omega)]; simp), if_neg (by rw [h3 (by omega)]; simp)]
        exact ⟨rfl, Stay.then_ hg ⟨_, hd', hg'⟩⟩)
    (by
      rintro W ⟨hs, h1, h2, h3, h4⟩
      unfold DevS.jfmt
      rw [if_neg (by rw [h1 (by omega)]; simp), if_neg (by rw [h2 (by omega)]; simp), if_neg (by rw [h3 (by omega)]; simp)]
      exact ⟨(h4 (by omega)).symm, hs⟩)
    wA ⟨h0, by omega, by omega, by omega, by omega⟩
  unfold DevDid
  clear h0 nP nJ nS bP bJ bS
  go_enter Tryz.func51, Tryz.ntmps51
  go_wp2_with fail
  unfold funcV at hA
  rw [← hA]
  refine hthen.mono ?_
  rintro e w' ⟨E, rfl, rfl, hs⟩
  go_wp2_with fail
  go_ret
  exact ⟨rfl, hs.did hb⟩

end Go.Proofs.YtloddiipepiocaaGreatDoor
/- Layer 9: Head, short, broken, steps on a device. -/
namespace Go.Proofs.YtloddiipepiocaaGreatDoor
open Go.RowKit Go.Maps

theorem getF_dev (D : Nat) (B : List Nat) (x : DevS) (a : Int) (w : World) (h : DevAt w D B x) :
    Calls Tryz.prog 43 #[.pointer (some ⟨D, 0, none⟩), .int .i64 a] w fun e w' => Below w.heap.size w w' ∧ e = .returned (.tuple #[.agg #[.int .i64 (x.fr a).kind, .int .u32 (x.fr a).seq, .string (x.fr a).data], .int .i64 (x.ge a)]) := by
  have := get_dev D B x a w h
  rw [get_fr] at this
  exact this
theorem fr_seq (x : DevS) (a : Int) : 0 ≤ (x.fr a).seq ∧ (x.fr a).seq < 4294967296 := by
  unfold DevS.fr
  split
  · exact readK_bounds _ _ _
  · exact ⟨by decide, by decide⟩
theorem str_empty {s : ByteArray} : s.toList.isEmpty = true ↔ s = ⟨#[]⟩ := by
  rw [← decide_eq_emptyBytes s, decide_eq_true_iff]
  exact Iff.rfl

set_option maxRecDepth 100000 in
set_option maxHeartbeats 1000000 in
theorem head_dev (D : Nat) (F Z : Int) (B : List Nat) (x : DevS) (w : World) (h : DevAt w D B x) :
    Calls Tryz.prog 145 #[.pointer (some ⟨D, 0, none⟩), .agg #[.int .i64 F, .int .i64 Z]] w fun e w' => e = .returned (.tuple #[.int .u32 (x.head F Z).2, .int .i64 (x.head F Z).1]) ∧ Below w.heap.size w w' := by
  have hck := jcheck_any F Z (w.alloc (.cells #[.int .i64 F, .int .i64 Z] 101))
  have bJ : Blk (w.alloc (.cells #[.int .i64 F, .int .i64 Z] 101)) w.heap.size 101 #[.int .i64 F, .int .i64 Z] := Blk.new _ _ _
  by_cases hc : checkE F Z = 0
  rotate_left
  · have HH : Hid (x.head F Z = (checkE F Z, 0)) := Lib.hid (by unfold DevS.head; rw [if_pos hc])
    generalize checkE F Z = E at *
    have hc' : (E != 0) = true := by simpa using hc
    clear bJ hc
    go_enter Tryz.func145, Tryz.ntmps145
    go_wp2_with fail
    refine hck.mono ?_
    rintro e w1 ⟨rfl, hb⟩
    go_wp2_with fail
    go_ret2
    exact ⟨by rw [HH.out]; rfl, below1 hb⟩
  have HH0 : Hid (x.head F Z = if x.ge F ≠ 0 then (x.ge F, 0) else if (x.fr F).kind ≠ 1 ∨ (x.fr F).data ≠ ⟨#[]⟩ then (6, 0) else (0, (x.fr F).seq)) := Lib.hid (by unfold DevS.head; rw [if_neg (by rw [hc]; simp)])
  rw [hc] at hck
  clear hc
  go_enter Tryz.func145, Tryz.ntmps145
  go_wp2_with fail
  refine hck.mono ?_
  rintro e w1 ⟨rfl, hb⟩
  have bJ1 := bJ.belowAll hb
  have cJ := bJ1.cells
  have lJ := bJ1.lt
  have h1 := h.below (below1 hb)
  have B1 := below1 hb
  clear hb bJ
  go_wp2_with fail
  refine (getF_dev D B x F w1 h1).mono ?_
  rintro e w2 ⟨hb2, rfl⟩
  have B2 := B1.trans (hb2.mono B1.size)
  have Z2 := B2.size
  clear hb2 B1 h1 hck cJ lJ
  generalize x.ge F = E at *
  generalize x.fr F = f at *
  by_cases hE : E = 0
  rotate_left
  · have HH : Hid (x.head F Z = (E, 0)) := Lib.hid (by rw [HH0.out, if_pos hE])
    have hE' : (E != 0) = true := by simpa using hE
    clear hE HH0
    go_wp2_with fail
    go_ret2
    exact ⟨by rw [HH.out]; rfl, by (repeat' (first | (with_reducible exact Below.refl _ _) | (with_reducible assumption) | (with_reducible refine Below.alloc ?_ ?_ _) | (with_reducible refine Below.drew ?_) | (with_reducible refine below_drewN' ?_ _) | (with_reducible refine Below.setCell ?_ ?_ _) | (with_reducible exact Nat.le_refl _) | omega | (simp; done) | (simp; omega)))⟩
  subst hE
  by_cases hk : f.kind = 1
  · by_cases hd : f.data = ⟨#[]⟩
    · have HH : Hid (x.head F Z = (0, f.seq)) := Lib.hid (by rw [HH0.out, if_neg (by simp), if_neg (by simp [hk, hd])])
      have hk' : (f.kind != 1) = false := by simpa using hk
      have hd' : f.data.toList.isEmpty = true := str_empty.2 hd
      clear hk hd HH0
      go_wp2_with fail
      go_ret2
      exact ⟨by rw [HH.out]; rfl, by (repeat' (first | (with_reducible exact Below.refl _ _) | (with_reducible assumption) | (with_reducible refine Below.alloc ?_ ?_ _) | (with_reducible refine Below.drew ?_) | (with_reducible refine below_drewN' ?_ _) | (with_reducible refine Below.setCell ?_ ?_ _) | (with_reducible exact Nat.le_refl _) | omega | (simp; done) | (simp; omega)))⟩
    · have HH : Hid (x.head F Z = (6, 0)) := Lib.hid (by rw [HH0.out, if_neg (by simp), if_pos (by simp [hd])])
      have hk' : (f.kind != 1) = false := by simpa using hk
      have hd' : f.data.toList.isEmpty = false := by rw [Bool.eq_false_iff]; exact fun h => hd (str_empty.1 h)
      clear hk hd HH0
      go_wp2_with fail
      go_ret2
      exact ⟨by rw [HH.out]; rfl, by (repeat' (first | (with_reducible exact Below.refl _ _) | (with_reducible assumption) | (with_reducible refine Below.alloc ?_ ?_ _) | (with_reducible refine Below.drew ?_) | (with_reducible refine below_drewN' ?_ _) | (with_reducible refine Below.setCell ?_ ?_ _) | (with_reducible exact Nat.le_refl _) | omega | (simp; done) | (simp; omega)))⟩
  · have HH : Hid (x.head F Z = (6, 0)) := Lib.hid (by rw [HH0.out, if_neg (by simp), if_pos (by simp [hk])])
    have hk' : (f.kind != 1) = true := by simpa using hk
    clear hk HH0
    go_wp2_with fail
    go_ret2
    exact ⟨by rw [HH.out]; rfl, by (repeat' (first | (with_reducible exact Below.refl _ _) | (with_reducible assumption) | (with_reducible refine Below.alloc ?_ ?_ _) | (with_reducible refine Below.drew ?_) | (with_reducible refine below_drewN' ?_ _) | (with_reducible refine Below.setCell ?_ ?_ _) | (with_reducible exact Nat.le_refl _) | omega | (simp; done) | (simp; omega)))⟩

end Go.Proofs.YtloddiipepiocaaGreatDoor
/- Layer 9: inside, most, short, broken; slices.Contains. -/
namespace Go.Proofs.YtloddiipepiocaaGreatDoor
open Go.RowKit Go.Maps

set_option maxRecDepth 100000 in
set_option maxHeartbeats 400000 in
theorem index_err (A : Option Addr) (c : Nat) (xs : List Int) (hl : xs.length ≤ 1000000) (v : Int) (w : World) (hX : Reads w A (xs.map (.int .i64))) :
    Calls Tryz.prog 201 #[.slice A xs.length c, .int .i64 v] w fun e w' => (∃ i : Int, e = .returned (.int .i64 i) ∧ decide (0 ≤ i) = decide (v ∈ xs)) ∧ w' = w := by
  go_enter Tryz.func201, Tryz.ntmps201
  go_wp2_with fail
  go_loopw [4, 5, 8] (fun _ _ q wr => ∃ k : Nat, k ≤ xs.length ∧ q = .int .i64 k ∧ (∀ j, j < k → xs.getD j 0 ≠ v) ∧ wr = w) (fun _ _ q _ => xs.length - (intOf q).toNat)
  case atStart => exact ⟨0, Nat.zero_le _, rfl, fun j h => absurd h (by omega), rfl⟩
  case round =>
    obtain ⟨k, hk, rfl, hne, hw⟩ := hrel
    subst hw
    by_cases hlt : k < xs.length
    · obtain ⟨b, off, rfl, hb, hc⟩ := hX.at_ (k := k) (by simpa using hlt)
      rw [List.getElem_map] at hc
      by_cases he : v = xs[k]
      · have hm : v ∈ xs := by rw [he]; exact List.getElem_mem hlt
        have he' : (v == xs[k]) = true := by simpa using he
        generalize xs[k] = y at hc he'
        have HM := Lib.hid hm
        clear he hm hne
        go_wp2_with fail
        go_ret
        exact ⟨⟨k, rfl, by simp [HM.out]⟩, rfl⟩
      · have he' : (v == xs[k]) = false := by simpa using he
        have hs : Hid (∀ j, j < k + 1 → xs.getD j 0 ≠ v) := Lib.hid (by
          intro j hj
          by_cases e : j = k
          · subst e; simp [List.getD_eq_getElem?_getD, hlt]; exact fun h => he h.symm
          · exact hne j (by omega))
        generalize xs[k] = y at hc he'
        clear he hne
        go_wp2_with fail
        go_roundw
        case rel => exact ⟨k + 1, by omega, by go_num, hs.out, by first | trivial | rfl⟩
        case measure => simp [intOf]; omega
    · obtain rfl : k = xs.length := by omega
      have hm : v ∉ xs := by
        intro h
        obtain ⟨i, hi, rfl⟩ := List.mem_iff_getElem.1 h
        exact hne i hi (by simp [List.getD_eq_getElem?_getD, hi])
      have HM := Lib.hid hm
      clear hm hne
      go_wp2_with fail
      go_ret
      exact ⟨⟨-1, rfl, by simp [HM.out]⟩, rfl⟩
set_option maxRecDepth 100000 in
set_option maxHeartbeats 400000 in
theorem contains_err (A : Option Addr) (c : Nat) (xs : List Int) (hl : xs.length ≤ 1000000) (v : Int) (w : World) (hX : Reads w A (xs.map (.int .i64))) :
    Calls Tryz.prog 182 #[.slice A xs.length c, .int .i64 v] w fun e w' => e = .returned (.bool (decide (v ∈ xs))) ∧ w' = w := by
  go_enter Tryz.func182, Tryz.ntmps182
  go_wp2_with fail
  refine (index_err A c xs hl v w hX).mono ?_
  rintro e w1 ⟨⟨i, rfl, hi⟩, rfl⟩
  go_wp2_with fail
  go_ret
  exact ⟨by rw [← hi]; rfl, rfl⟩

set_option maxRecDepth 100000 in
set_option maxHeartbeats 400000 in
theorem inside_any (F Z a : Int) (h : 0 ≤ F ∧ F ≤ 256 ∧ 0 ≤ Z ∧ Z ≤ 256) (w : World) :
    Calls Tryz.prog 183 #[.agg #[.int .i64 F, .int .i64 Z], .int .i64 a] w fun e w' => e = .returned (.bool (insideB F Z a)) ∧ Below w.heap.size w w' := by
  have hw : IntKind.i64.wrap (F + Z) = F + Z := by rw [IntKind.wrap_i64]; omega
  by_cases a1 : a < F
  rotate_left
  by_cases a2 : a < F + Z
  rotate_left
  all_goals
    first
      | (have HE : Hid (insideB F Z a = true) := Lib.hid (by unfold insideB; simp; omega))
      | (have HE : Hid (insideB F Z a = false) := Lib.hid (by unfold insideB; simp; omega))
    go_enter Tryz.func183, Tryz.ntmps183
    go_wp2_with fail
    go_ret
    exact ⟨by rw [HE.out]; rfl, by (repeat' (first | (with_reducible exact Below.refl _ _) | (with_reducible assumption) | (with_reducible refine Below.alloc ?_ ?_ _) | (with_reducible refine Below.drew ?_) | (with_reducible refine below_drewN' ?_ _) | (with_reducible refine Below.setCell ?_ ?_ _) | (with_reducible exact Nat.le_refl _) | omega | (simp; done) | (simp; omega)))⟩
set_option maxRecDepth 100000 in
set_option maxHeartbeats 400000 in
theorem most_any (F Z : Int) (h : 0 ≤ Z ∧ Z ≤ 256) (w : World) :
    Calls Tryz.prog 148 #[.agg #[.int .i64 F, .int .i64 Z]] w fun e w' => e = .returned (.int .i64 (mostN Z)) ∧ Below w.heap.size w w' := by
  have hw : IntKind.i64.wrap (Z - 2) = Z - 2 := by rw [IntKind.wrap_i64]; omega
  unfold mostN
  go_enter Tryz.func148, Tryz.ntmps148
  go_wp2_with fail
  go_ret
  exact ⟨rfl, by (repeat' (first | (with_reducible exact Below.refl _ _) | (with_reducible assumption) | (with_reducible refine Below.alloc ?_ ?_ _) | (with_reducible refine Below.drew ?_) | (with_reducible refine below_drewN' ?_ _) | (with_reducible refine Below.setCell ?_ ?_ _) | (with_reducible exact Nat.le_refl _) | omega | (simp; done) | (simp; omega)))⟩

set_option maxRecDepth 100000 in
set_option maxHeartbeats 400000 in
theorem short_any (n : Int) (w : World) :
    Calls Tryz.prog 149 #[.int .i64 n] w fun e w' => e = .returned (.string (shortS n)) ∧ Below w.heap.size w w' := by
  have bS : Blk (w.alloc (.cells #[.int .u8 (n % 256), .int .u8 (n / 256 % 256)] 5)) w.heap.size 5 #[.int .u8 (n % 256), .int .u8 (n / 256 % 256)] := Blk.new _ _ _
  have hR : Reads (w.alloc (.cells #[.int .u8 (n % 256), .int .u8 (n / 256 % 256)] 5)) (some ⟨w.heap.size, 0, none⟩) ([n % 256, n / 256 % 256].map (Value.int .u8)) := .inr ⟨_, 0, rfl, bS.lt, fun j u hu => by rw [Nat.zero_add, bS.cells]; simpa using hu⟩
  have hcv := conv_bytes _ 2 2 _ rfl _ hR
  have HS : Hid (strOfNums [n % 256, n / 256 % 256] = shortS n) := Lib.hid rfl
  clear bS hR
  go_enter Tryz.func149, Tryz.ntmps149
  go_wp2_with fail
  go_ret
  exact ⟨by rw [← HS.out]; rfl, by (repeat' (first | (with_reducible exact Below.refl _ _) | (with_reducible assumption) | (with_reducible refine Below.alloc ?_ ?_ _) | (with_reducible refine Below.drew ?_) | (with_reducible refine below_drewN' ?_ _) | (with_reducible refine Below.setCell ?_ ?_ _) | (with_reducible exact Nat.le_refl _) | omega | (simp; done) | (simp; omega)))⟩
set_option maxRecDepth 100000 in
set_option maxHeartbeats 400000 in
theorem broken_any (E : Int) (w : World) :
    Calls Tryz.prog 146 #[.int .i64 E] w fun e w' => e = .returned (.bool (brokenB E)) ∧ Below w.heap.size w w' := by
  have bS : Blk (w.alloc (.cells #[.int .i64 1, .int .i64 13, .int .i64 7] 34)) w.heap.size 34 #[.int .i64 1, .int .i64 13, .int .i64 7] := Blk.new _ _ _
  have hR : Reads (w.alloc (.cells #[.int .i64 1, .int .i64 13, .int .i64 7] 34)) (some ⟨w.heap.size, 0, none⟩) ([1, 13, 7].map (Value.int .i64)) := .inr ⟨_, 0, rfl, bS.lt, fun j u hu => by rw [Nat.zero_add, bS.cells]; simpa using hu⟩
  have hct := contains_err _ 3 [1, 13, 7] (by decide) E _ hR
  have HB : Hid (brokenB E = (decide (E = 1) || (decide (E = 13) || decide (E = 7)))) := Lib.hid (by unfold brokenB; rw [Bool.or_assoc]; rfl)
  clear bS hR
  go_enter Tryz.func146, Tryz.ntmps146
  go_wp2_with fail
  refine hct.mono ?_
  rintro e w1 ⟨rfl, rfl⟩
  go_wp2_with fail
  go_ret
  exact ⟨by rw [HB.out]; rfl, by (repeat' (first | (with_reducible exact Below.refl _ _) | (with_reducible assumption) | (with_reducible refine Below.alloc ?_ ?_ _) | (with_reducible refine Below.drew ?_) | (with_reducible refine below_drewN' ?_ _) | (with_reducible refine Below.setCell ?_ ?_ _) | (with_reducible exact Nat.le_refl _) | omega | (simp; done) | (simp; omega)))⟩

end Go.Proofs.YtloddiipepiocaaGreatDoor
