/- Parts of the proof, put together by program: B0, LJ, S1, LK, LL, LM. -/
import Derived.Test.YtjocnooekgnedaaGreatDoorPart48
import Derived.Test.YtjocnooekgnedaaGreatDoorPart47
import Derived.Test.YtjocnooekgnedaaGreatDoorPart03
import Derived.BigQuiet
import Derived.Test.YtjocnooekgnedaaGreatDoorPart39
set_option linter.unusedVariables false
set_option linter.unusedSimpArgs false
/- The laws of layer 10: general words (as for the laws of layer 12). -/
namespace Go.Proofs.YtjocnooekgnedaaGreatDoor
open Go.RowKit Go.Maps


/-- What begun hands back. -/
def BegunPost (w : World) (s j i : Int) (e : Ending) (w' : World) : Prop :=
  ∃ D T F B y, e = .returned (.tuple #[.pointer (some ⟨D, 0, none⟩), .pointer (some ⟨T, 0, none⟩)]) ∧ Fresh y s j i 1000000 ∧ TD w' T F D (freeTx s j i) B y ∧ Below w.heap.size w w' ∧ (∀ b ∈ F, w.heap.size ≤ b) ∧ ∀ b ∈ B, w.heap.size ≤ b

/-- A list which the transaction does not touch. -/
structure Keeps (w : World) (F : List Nat) (A : Option Addr) (c : Nat) (l : List Int) : Prop where
  sl : SlI w A c l
  out : ∀ a, A = some a → a.block ∉ F ∧ a.block < w.heap.size
theorem Keeps.grow {w w' : World} {F F' : List Nat} {A : Option Addr} {c : Nat} {l : List Int} (h : Keeps w F A c l) (g : Grow w F w' F') : Keeps w' F' A c l :=
  ⟨⟨h.sl.reads.growF g fun a e => (h.out a e).1, h.sl.nil, h.sl.cap⟩, fun a e => ⟨g.notin (h.out a e).1 (h.out a e).2, Nat.lt_of_lt_of_le (h.out a e).2 g.keep.size⟩⟩
theorem Keeps.below {w w' : World} {F : List Nat} {A : Option Addr} {c : Nat} {l : List Int} (h : Keeps w F A c l) (hb : Below w.heap.size w w') : Keeps w' F A c l :=
  ⟨h.sl.below hb, fun a e => ⟨(h.out a e).1, Nat.lt_of_lt_of_le (h.out a e).2 hb.size⟩⟩
theorem Keeps.of_did {w' : World} {base : Nat} {F' : List Nat} {v : Value} {l : List Int} (ho : w'.ownsRow base 3 1 v l.length (l.map (.int .i64))) (hf : ∀ q, v.ownBlock = some q → q ∉ F') : ∃ A c, v = .slice A l.length c ∧ Keeps w' F' A c l := by
  obtain ⟨A, c, rfl, hs⟩ := SlI.of_own ho
  exact ⟨A, c, rfl, hs, fun a e => by subst e; exact ⟨hf a.block rfl, (own_lt ho a.block rfl).2⟩⟩
theorem Grow.lo {w w' : World} {F F' : List Nat} {n : Nat} (g : Grow w F w' F') (hn : n ≤ w.heap.size) (hF : ∀ b ∈ F, n ≤ b) : ∀ b ∈ F', n ≤ b := fun b hb => by
  rcases g.new b hb with h | h
  · exact hF b h
  · omega
theorem slI_nil (w : World) : SlI w none 0 [] := ⟨.inl rfl, by simp, by simp⟩
end Go.Proofs.YtjocnooekgnedaaGreatDoor
/- The laws of layer 11: a device that was formatted and a transaction on it; file. -/
namespace Go.Proofs.YtjocnooekgnedaaGreatDoor
open Go.RowKit Go.Maps

def Begun11 (w : World) (s j i : Int) (e : Ending) (w' : World) : Prop :=
  ∃ D T F B y, e = .returned (.tuple #[.pointer (some ⟨D, 0, none⟩), .pointer (some ⟨T, 0, none⟩), .int .i64 0]) ∧ Fresh y s j i 1000000 ∧ TD w' T F D (freeTx s j i) B y ∧ Below w.heap.size w w' ∧ (∀ b ∈ F, w.heap.size ≤ b) ∧ ∀ b ∈ B, w.heap.size ≤ b

set_option maxRecDepth 100000 in
set_option maxHeartbeats 2000000 in
theorem begun11_fresh (ns : Nat) (j i : Int) (h : rgE ns j i = 0) (w : World) (hH : HalfAt w) :
    Calls Tryz.prog 19 #[.agg #[.int .i64 ns, .int .i64 j, .int .i64 i]] w (Begun11 w ns j i) := by
  obtain ⟨wA, hA⟩ : ∃ wA, wA = w.alloc (.cells #[.int .i64 ns, .int .i64 j, .int .i64 i] 23) := ⟨_, rfl⟩
  have bL : Blk wA w.heap.size 23 #[.int .i64 ns, .int .i64 j, .int .i64 i] := by rw [hA]; exact (by (repeat' (first | (with_reducible assumption) | exact Blk.new' (by simp) | refine Blk.alloc ?_ _)))
  have BA : Below w.heap.size w wA := by rw [hA]; (repeat' (first | (with_reducible exact Below.refl _ _) | (with_reducible assumption) | (with_reducible refine Below.alloc ?_ ?_ _) | (with_reducible refine Below.drew ?_) | (with_reducible refine below_drewN' ?_ _) | (with_reducible refine Below.setCell ?_ ?_ _) | (with_reducible exact Nat.le_refl _) | omega | (simp; done) | (simp; omega)))
  have hHA : HalfAt wA := hH.below BA hH.1
  have hbd := rg_bds h
  obtain ⟨y, hy, hF⟩ := format_fresh h 1000000 (by omega)
  rw [Int.toNat_natCast] at hy
  obtain ⟨hb1, hb2, hb3⟩ := begin_fresh h hF
  have hnew := new_dev ns (by omega) wA hHA
  have cL := bL.cells
  have lL := bL.lt
  have hp0 := hH.1
  have lA := bL.lt
  unfold Begun11
  go_enter Tryz.func19, Tryz.ntmps19
  go_wp2_with fail
  rw [← hA]
  go_wp2_with fail
  refine hnew.mono ?_
  rintro e w1 ⟨D, B0, rfl, hd1, hw1, hB0⟩
  have B1 := BA.trans (hw1.mono BA.size)
  have bL1 := bL.belowAll hw1
  clear hnew cL lL bL hA hHA
  have cL := bL1.cells
  have lL := bL1.lt
  go_wp2_with fail
  refine (tformat_dev D ns j i B0 (newDev ns) w1 hd1).mono ?_
  rintro e w2 ⟨rfl, B, hd2, g2⟩
  rw [hy] at hd2 ⊢
  have hg0 : w.heap.size ∉ B0 := fun hm => by have := hB0 _ hm; omega
  have bL2 := g2.blk bL1 hg0
  have B2 : Below w.heap.size w w2 := B1.trans (g2.below B1.size fun b hb => by have := hB0 b hb; omega)
  have hBB : ∀ b ∈ B, w.heap.size ≤ b := fun b hb => by
    rcases g2.new b hb with h3 | h3
    · have := hB0 b h3; omega
    · have := B1.size; omega
  clear cL lL bL1 hd1 hw1 g2 hg0 hB0
  have cL := bL2.cells
  have lL := bL2.lt
  have Hb1 := Lib.hid hb1
  have Hb2 := Lib.hid hb2
  have HF := Lib.hid hF
  have Hh := Lib.hid h
  clear hy hb1 hb2 hF h
  go_wp2_with fail
  refine (begin_dev D ns j i B y w2 hd2 hb3).mono ?_
  rintro e w3 ⟨hb4, E, hE, ⟨h5, -⟩ | ⟨-, T, F, rfl, ht, hFF⟩⟩
  · exact absurd ((Hb1.out E).1 hE) h5
  rw [Hb2.out] at ht
  have B3 := B2.trans (hb4.mono B2.size)
  have hd3 := hd2.below hb4
  have hlt := hd2.lt
  clear cL lL bL2 hb4 hE
  go_wp2_with fail
  refine bodyPost_ret (v := .tuple #[.pointer (some ⟨D, 0, none⟩), .pointer (some ⟨T, 0, none⟩), .int .i64 0]) (by simp [results, Tryz.results19, go_sem]) rfl ?_
  exact ⟨D, T, F, B, y, rfl, HF.out, ⟨ht, hd3, fun b hb hm => by have := hFF b hb; have := (hlt b hm).2; omega⟩, B3, fun b hb => by have := hFF b hb; have := B2.size; omega, hBB⟩
set_option maxRecDepth 100000 in
theorem file_any (z : Int) (A : Option Addr) (n c : Nat) (w : World) :
    Calls Tryz.prog 21 #[.int .i64 z, .slice A n c] w fun e w' => e = .returned (.agg #[.int .i64 2, .int .i64 1, .int .i64 z, .int .i64 0, .int .i64 0, .int .i64 0, .slice A n c, .slice none 0 0]) ∧ Below w.heap.size w w' := by
  obtain ⟨wA, hA⟩ : ∃ wA, wA = w.alloc (.cells #[.int .i64 2, .int .i64 1, .int .i64 z, .int .i64 0, .int .i64 0, .int .i64 0, .slice A n c, .slice none 0 0] 26) := ⟨_, rfl⟩
  have bR : Blk wA w.heap.size 26 #[.int .i64 2, .int .i64 1, .int .i64 z, .int .i64 0, .int .i64 0, .int .i64 0, .slice A n c, .slice none 0 0] := by rw [hA]; exact (by (repeat' (first | (with_reducible assumption) | exact Blk.new' (by simp) | refine Blk.alloc ?_ _)))
  have BA : Below w.heap.size w wA := by rw [hA]; (repeat' (first | (with_reducible exact Below.refl _ _) | (with_reducible assumption) | (with_reducible refine Below.alloc ?_ ?_ _) | (with_reducible refine Below.drew ?_) | (with_reducible refine below_drewN' ?_ _) | (with_reducible refine Below.setCell ?_ ?_ _) | (with_reducible exact Nat.le_refl _) | omega | (simp; done) | (simp; omega)))
  go_enter Tryz.func21, Tryz.ntmps21
  go_wp2_with fail
  rw [← hA]
  clear hA
  have cF := bR.cells
  refine bodyPost_ret (v := .agg #[.int .i64 2, .int .i64 1, .int .i64 z, .int .i64 0, .int .i64 0, .int .i64 0, .slice A n c, .slice none 0 0]) (by simp [results, Tryz.results21, go_sem, cF]) rfl ?_
  exact ⟨rfl, BA⟩
end Go.Proofs.YtjocnooekgnedaaGreatDoor
/- Ints, Same, Sector, far, Example. -/
namespace Go.Proofs.YtjocnooekgnedaaGreatDoor
open Go.RowKit

theorem bret {b b' : Bool} (h : b = b') : Ending.returned (.bool b) = .returned (.bool b') := by rw [h]

set_option maxHeartbeats 1000000 in
theorem ints_any (A B : Option Addr) (c d : Nat) (xs ys : List Int) (w : World) (hx : Reads w A (xs.map (.int .i64))) (hy : Reads w B (ys.map (.int .i64))) (hn : xs.length ≤ 100000) (hm : ys.length ≤ maxLen) :
    Calls Tryz.prog 45 #[.slice A xs.length c, .slice B ys.length d] w fun e w' => e = .returned (.bool (decide (xs = ys))) ∧ Below w.heap.size w w' := by
  unfold maxLen at hm
  by_cases hl : xs.length = ys.length
  · have hd : ((xs.length : Int) != (ys.length : Int)) = false := by simp [hl]
    have HL := Lib.hid hl
    clear hl
    go_enter Tryz.func45, Tryz.ntmps45
    go_wp2
    go_loopw [5] (fun q wr => ∃ k : Nat, k ≤ xs.length ∧ q = .int .i64 k ∧ xs.take k = ys.take k ∧ Below w.heap.size w wr) (fun q _ => xs.length - (RowKit.intOf q).toNat)
    case atStart => exact ⟨0, Nat.zero_le _, rfl, rfl, Below.refl _ _⟩
    case round =>
      obtain ⟨k, hk, rfl, heq, hnx⟩ := hrel
      have HEQ := Lib.hid heq
      clear heq
      by_cases hlt : k < xs.length
      · have hlt2 : k < ys.length := by rw [← HL.out]; exact hlt
        obtain ⟨b, off, rfl, hb, hc⟩ := (hx.below hnx).at_ (k := k) (by simpa using hlt)
        obtain ⟨b2, off2, rfl, hb2, hc2⟩ := (hy.below hnx).at_ (k := k) (by simpa using hlt2)
        rw [List.getElem_map] at hc hc2
        have hs1 := Lib.hid (List.take_succ_eq_append_getElem hlt)
        have hs2 := Lib.hid (List.take_succ_eq_append_getElem hlt2)
        have hne : xs[k] ≠ ys[k] → xs ≠ ys := fun h e => by subst e; exact h rfl
        have HNE := Lib.hid hne
        clear hne
        generalize xs[k] = x at hc hs1 HNE
        generalize ys[k] = y at hc2 hs2 HNE
        by_cases hxy : x = y
        · subst hxy
          have hd2 : (x != x) = false := by simp
          go_wp2
          go_quiet (fail)
          go_wp2
          go_roundw
          case rel => exact ⟨k + 1, by omega, by go_num, by rw [hs1.out, hs2.out, HEQ.out], by (repeat' (first | (with_reducible exact Below.refl _ _) | (with_reducible assumption) | (with_reducible refine Below.alloc ?_ ?_ _) | (with_reducible refine Below.drew ?_) | (with_reducible refine below_drewN' ?_ _) | (with_reducible refine Below.setCell ?_ ?_ _) | (with_reducible exact Nat.le_refl _) | omega | (simp; done) | (simp; omega)))⟩
          case measure => simp [RowKit.intOf]; omega
        · have hd2 : (x != y) = true := by simpa using hxy
          have HN := Lib.hid (HNE.out hxy)
          clear hxy
          go_wp2
          go_quiet (fail)
          go_wp2
          go_ret
          exact ⟨bret (by simp [HN.out]), by (repeat' (first | (with_reducible exact Below.refl _ _) | (with_reducible assumption) | (with_reducible refine Below.alloc ?_ ?_ _) | (with_reducible refine Below.drew ?_) | (with_reducible refine below_drewN' ?_ _) | (with_reducible refine Below.setCell ?_ ?_ _) | (with_reducible exact Nat.le_refl _) | omega | (simp; done) | (simp; omega)))⟩
      · obtain rfl : k = xs.length := by omega
        have hfin : xs = ys := by
          have := HEQ.out
          rwa [List.take_length, HL.out, List.take_length] at this
        have HF := Lib.hid hfin
        clear hfin
        go_wp2
        go_ret
        exact ⟨bret (by simp [HF.out]), hnx⟩
  · have hd : ((xs.length : Int) != (ys.length : Int)) = true := by simp; omega
    have HNE := Lib.hid (show xs ≠ ys from fun e => hl (by rw [e]))
    clear hl
    go_enter Tryz.func45, Tryz.ntmps45
    go_wp2
    go_ret
    exact ⟨bret (by simp [HNE.out]), Below.refl _ _⟩

def LayEq (s j i s' j' i' : Int) : Bool := s == s' && j == j' && i == i'


end Go.Proofs.YtjocnooekgnedaaGreatDoor
/- Layer 11: limewashref11.Same. -/
namespace Go.Proofs.YtjocnooekgnedaaGreatDoor
open Go.RowKit Go.Maps

attribute [local go_sem] Oper.semAt_some

def sameIno (v u : Ino) : Bool := v.kind == u.kind && v.links == u.links && v.size == u.size && v.major == u.major && v.minor == u.minor && v.parent == u.parent && decide (v.blocks = u.blocks) && decide (v.attrs = u.attrs)
theorem sameIno_iff (v u : Ino) : sameIno v u = true ↔ v = u := by
  obtain ⟨a, b, c, d, e, f, g, h⟩ := v
  obtain ⟨a', b', c', d', e', f', g', h'⟩ := u
  simp [sameIno, and_assoc]
set_option maxRecDepth 100000 in
set_option maxHeartbeats 4000000 in
theorem same_ino (v u : Ino) (A : Option Addr) (c : Nat) (A2 : Option Addr) (c2 : Nat) (C : Option Addr) (d : Nat) (C2 : Option Addr) (d2 : Nat) (w : World) (h : InoIn w v A c A2 c2) (h' : InoIn w u C d C2 d2)
    (s1 : v.blocks.length ≤ 1000) (s2 : v.attrs.length ≤ 1000) (s3 : u.blocks.length ≤ 1000) (s4 : u.attrs.length ≤ 1000) :
    Calls Tryz.prog 18 #[.agg (inoC v (.slice A v.blocks.length c) (.slice A2 v.attrs.length c2)), .agg (inoC u (.slice C u.blocks.length d) (.slice C2 u.attrs.length d2))] w fun e w' => e = .returned (.bool (sameIno v u)) ∧ Below w.heap.size w w' := by
  obtain ⟨k1, l1, z1, mj1, mn1, p1, bl1, al1⟩ := v
  obtain ⟨k2, l2, z2, mj2, mn2, p2, bl2, al2⟩ := u
  simp only at s1 s2 s3 s4 ⊢
  obtain ⟨wA, hA⟩ : ∃ wA, wA = (w.alloc (.cells (inoC ⟨k1, l1, z1, mj1, mn1, p1, bl1, al1⟩ (.slice A bl1.length c) (.slice A2 al1.length c2)) 26)).alloc (.cells (inoC ⟨k2, l2, z2, mj2, mn2, p2, bl2, al2⟩ (.slice C bl2.length d) (.slice C2 al2.length d2)) 26) := ⟨_, rfl⟩
  have bV : Blk wA w.heap.size 26 #[.int .i64 k1, .int .i64 l1, .int .i64 z1, .int .i64 mj1, .int .i64 mn1, .int .i64 p1, .slice A bl1.length c, .slice A2 al1.length c2] := by rw [hA]; exact (by (repeat' (first | (with_reducible assumption) | exact Blk.new' (by simp) | refine Blk.alloc ?_ _)))
  have bU : Blk wA (w.heap.size + 1) 26 #[.int .i64 k2, .int .i64 l2, .int .i64 z2, .int .i64 mj2, .int .i64 mn2, .int .i64 p2, .slice C bl2.length d, .slice C2 al2.length d2] := by rw [hA]; exact (by (repeat' (first | (with_reducible assumption) | exact Blk.new' (by simp) | refine Blk.alloc ?_ _)))
  have BA : Below w.heap.size w wA := by rw [hA]; (repeat' (first | (with_reducible exact Below.refl _ _) | (with_reducible assumption) | (with_reducible refine Below.alloc ?_ ?_ _) | (with_reducible refine Below.drew ?_) | (with_reducible refine below_drewN' ?_ _) | (with_reducible refine Below.setCell ?_ ?_ _) | (with_reducible exact Nat.le_refl _) | omega | (simp; done) | (simp; omega)))
  have hi1 := ints_any A C c d bl1 bl2 wA (h.below BA).r1 (h'.below BA).r1 (by omega) (by simp only [maxLen]; omega)
  have cV := bV.cells
  have lV := bV.lt
  have cU := bU.cells
  have lU := bU.lt
  have HV := Lib.hid h
  have HU := Lib.hid h'
  have HS := Lib.hid (And.intro s2 s4)
  clear h h'
  go_enter Tryz.func18, Tryz.ntmps18
  subst hA
  clear cV lV cU lU
  by_cases ek : k1 = k2
  rotate_left
  · as_aux_lemma =>
      have dk : (k1 == k2) = false := by simpa using ek
      clear ek hi1
      go_wp2_with fail
      go_ret
      exact ⟨by simp [sameIno, dk], BA⟩
  subst ek
  by_cases el : l1 = l2
  rotate_left
  · as_aux_lemma =>
      have dl : (l1 == l2) = false := by simpa using el
      clear el hi1
      go_wp2_with fail
      go_ret
      exact ⟨by simp [sameIno, dl], BA⟩
  subst el
  by_cases ez : z1 = z2
  rotate_left
  · as_aux_lemma =>
      have dz : (z1 == z2) = false := by simpa using ez
      clear ez hi1
      go_wp2_with fail
      go_ret
      exact ⟨by simp [sameIno, dz], BA⟩
  subst ez
  by_cases emj : mj1 = mj2
  rotate_left
  · as_aux_lemma =>
      have dmj : (mj1 == mj2) = false := by simpa using emj
      clear emj hi1
      go_wp2_with fail
      go_ret
      exact ⟨by simp [sameIno, dmj], BA⟩
  subst emj
  by_cases emn : mn1 = mn2
  rotate_left
  · as_aux_lemma =>
      have dmn : (mn1 == mn2) = false := by simpa using emn
      clear emn hi1
      go_wp2_with fail
      go_ret
      exact ⟨by simp [sameIno, dmn], BA⟩
  subst emn
  by_cases ep : p1 = p2
  rotate_left
  · as_aux_lemma =>
      have dp : (p1 == p2) = false := by simpa using ep
      clear ep hi1
      go_wp2_with fail
      go_ret
      exact ⟨by simp [sameIno, dp], BA⟩
  subst ep
  have q : ∀ z : Int, (z == z) = true := fun z => by simp
  have qk := q k1
  have ql := q l1
  have qz := q z1
  have qmj := q mj1
  have qmn := q mn1
  have qp := q p1
  go_wp2_with fail
  refine hi1.mono ?_
  rintro e w1 ⟨rfl, hb1⟩
  have B1 := BA.trans (hb1.mono BA.size)
  have hi2 := ints_any A2 C2 c2 d2 al1 al2 w1 (HV.out.below B1).r2 (HU.out.below B1).r2 (by omega) (by simp only [maxLen]; omega)
  have bV1 := bV.belowAll hb1
  have bU1 := bU.belowAll hb1
  clear hi1 bV bU hb1
  have cV := bV1.cells
  have lV := bV1.lt
  have cU := bU1.cells
  have lU := bU1.lt
  cases hbl : decide (bl1 = bl2)
  · as_aux_lemma =>
      clear hi2
      go_wp2_with fail
      go_ret
      exact ⟨by simp [sameIno, hbl], B1⟩
  · go_wp2_with fail
    refine hi2.mono ?_
    rintro e w2 ⟨rfl, hb2⟩
    have B2 := B1.trans (hb2.mono B1.size)
    clear hi2 cV lV cU lU
    cases hal : decide (al1 = al2)
    all_goals
      go_wp2_with fail
      go_ret
      exact ⟨by simp [sameIno, hbl, hal], B2⟩
end Go.Proofs.YtjocnooekgnedaaGreatDoor
/- Layer 11: the example: its numbers, in plain words. -/
namespace Go.Proofs.YtjocnooekgnedaaGreatDoor
open Go.RowKit Go.Maps

def fileI (z : Int) (l : List Int) : Ino := ⟨2, 1, z, 0, 0, 0, l, []⟩
def ySm : TxS := freeTx 64 8 10
theorem rgSm : rgE 64 8 10 = 0 := by decide
theorem put_sm1 : (ySm.iput 1 (fileI 0 [])).1 = 0 := by decide +kernel
theorem put_sm2 : ((ySm.iput 1 (fileI 0 [])).2.iput 2 (fileI 5 [7])).1 = 0 := by decide +kernel
theorem chk_sm : inoE 64 8 10 (fileI 97 [3, 4]) = 0 ∧ inoE 64 8 10 (fileI 97 [3]) = 6 ∧ inoE 64 8 10 (fileI 97 [3, 3]) = 8 ∧ inoE 64 8 10 (fileI 0 []) = 0 ∧ inoE 64 8 10 (fileI 5 [7]) = 0 := by decide +kernel
theorem enc_sm : inoE 64 8 10 ⟨1, 1, 1, 0, 0, 1, [0], []⟩ = 0 ∧ encI ⟨1, 1, 1, 0, 0, 1, [0], []⟩ = [1, 1, 1, 0, 0, 0, 1, 1, 0, 0, 0, 0, 0] := by decide +kernel
theorem alloc_sm1 {x : DevS} {N : Nat} (hF : Fresh x 64 8 10 N) : ySm.ialloc x (fileI 0 []) = (1, 0, (ySm.iput 1 (fileI 0 [])).2) := by
  have ht := tab_fresh rgSm hF
  unfold TxS.ialloc
  rw [if_neg (by decide), if_neg (by rw [show inoE ySm.s ySm.j ySm.i (fileI 0 []) = 0 from chk_sm.2.2.2.1]; simp), if_neg (by decide)]
  have h := ialTo_first ht (fileI 0 []) 10 (by decide) 0 (by decide) (by decide) rfl (fun g _ h2 => absurd h2 (by omega))
  have e1 : ySm.i.toNat = 10 := rfl
  rw [e1]
  refine h.trans ?_
  rw [if_neg (by rw [show ((0 : Nat) : Int) + 1 = 1 from rfl]; exact fun h => h put_sm1)]
  rfl
theorem alloc_sm2 {x : DevS} {N : Nat} (hF : Fresh x 64 8 10 N) (ok : ySm.Ok) : (ySm.iput 1 (fileI 0 [])).2.ialloc x (fileI 5 [7]) = (2, 0, ((ySm.iput 1 (fileI 0 [])).2.iput 2 (fileI 5 [7])).2) := by
  have ht := (tab_put (x := x) ok (by decide) (tab_fresh rgSm hF) put_sm1).2
  have e1 : (ySm.iput 1 (fileI 0 [])).2.stateE = 0 := by decide +kernel
  have e2 : (ySm.iput 1 (fileI 0 [])).2.s = 64 ∧ (ySm.iput 1 (fileI 0 [])).2.j = 8 ∧ (ySm.iput 1 (fileI 0 [])).2.i = 10 := by decide +kernel
  unfold TxS.ialloc
  rw [if_neg (by rw [e1]; simp), if_neg (by rw [e2.1, e2.2.1, e2.2.2, chk_sm.2.2.2.2]; simp), if_neg (by decide), e2.2.2]
  have h := ialTo_first ht (fileI 5 [7]) 10 (by decide) 1 (by decide) (by decide) rfl (fun g _ h2 => by
    obtain rfl : g = 0 := by omega
    decide)
  refine h.trans ?_
  rw [if_neg (by rw [show ((1 : Nat) : Int) + 1 = 2 from rfl]; exact fun h => h put_sm2)]
  rfl
theorem get_sm2 {x : DevS} {N : Nat} (hF : Fresh x 64 8 10 N) (ok : ySm.Ok) (ok1 : (ySm.iput 1 (fileI 0 [])).2.Ok) : ((ySm.iput 1 (fileI 0 [])).2.iput 2 (fileI 5 [7])).2.iGet x 2 = (fileI 5 [7], 0) := by
  have ht := (tab_put (x := x) ok (by decide) (tab_fresh rgSm hF) put_sm1).2
  have ht2 := (tab_put ok1 (by decide +kernel) ht put_sm2).2
  have h := ht2.get 1 (by decide)
  have e2 : ((ySm.iput 1 (fileI 0 [])).2.iput 2 (fileI 5 [7])).2.i = 10 := by decide +kernel
  unfold TxS.iGet
  rw [if_neg (by rw [e2]; omega)]
  exact h
theorem get_sm {x : DevS} {N : Nat} (hF : Fresh x 64 8 10 N) : ySm.iGet x 1 = (ino0, 0) ∧ ySm.iGet x 0 = (ino0, 7) ∧ ySm.iGet x 11 = (ino0, 7) := by
  have ht := tab_fresh rgSm hF
  refine ⟨?_, rfl, rfl⟩
  unfold TxS.iGet
  rw [if_neg (by decide)]
  exact ht.get 0 (by decide)
end Go.Proofs.YtjocnooekgnedaaGreatDoor
/- Layer 11: the example, walked (the first part). -/
namespace Go.Proofs.YtjocnooekgnedaaGreatDoor
open Go.RowKit Go.Maps

attribute [local go_sem] Oper.semAt_some

set_option maxRecDepth 100000 in
theorem small11_any (w : World) : Calls Tryz.prog 23 #[] w fun e w' => e = .returned (.agg #[.int .i64 64, .int .i64 8, .int .i64 10]) ∧ Below w.heap.size w w' := by
  obtain ⟨wA, hA⟩ : ∃ wA, wA = w.alloc (.cells #[.int .i64 64, .int .i64 8, .int .i64 10] 23) := ⟨_, rfl⟩
  have bR : Blk wA w.heap.size 23 #[.int .i64 64, .int .i64 8, .int .i64 10] := by rw [hA]; exact (by (repeat' (first | (with_reducible assumption) | exact Blk.new' (by simp) | refine Blk.alloc ?_ _)))
  have BA : Below w.heap.size w wA := by rw [hA]; (repeat' (first | (with_reducible exact Below.refl _ _) | (with_reducible assumption) | (with_reducible refine Below.alloc ?_ ?_ _) | (with_reducible refine Below.drew ?_) | (with_reducible refine below_drewN' ?_ _) | (with_reducible refine Below.setCell ?_ ?_ _) | (with_reducible exact Nat.le_refl _) | omega | (simp; done) | (simp; omega)))
  go_enter Tryz.func23, Tryz.ntmps23
  go_wp2_with fail
  rw [← hA]
  clear hA
  have cF := bR.cells
  refine bodyPost_ret (v := .agg #[.int .i64 64, .int .i64 8, .int .i64 10]) (by simp [results, Tryz.results23, go_sem, cF]) rfl ?_
  exact ⟨rfl, BA⟩

/-- What lies in a slice that was just built. -/
theorem inoIn_new {w : World} {z : Int} {l : List Int} {g : Nat} {c : Nat} (h : Blk w g 3 (l.map (Value.int .i64)).toArray) (hl : l.length ≤ 1000) : InoIn w (fileI z l) (some ⟨g, 0, none⟩) c none 0 :=
  ⟨.inr ⟨g, 0, rfl, h.lt, fun j u hu => by
    rw [Nat.zero_add, h.cells]
    simpa [fileI] using hu⟩, .inl rfl, hl, by simp [fileI]⟩
theorem inoIn_nil (w : World) (z : Int) : InoIn w (fileI z []) none 0 none 0 := ⟨.inl rfl, .inl rfl, by simp [fileI], by simp [fileI]⟩
end Go.Proofs.YtjocnooekgnedaaGreatDoor
