/- Parts of the proof, put together by program: ZA, ZB, ZC. -/
import Derived.Test.YtljmdcegcckblaaGreatDoorQuart39
/- Layer 12: Read. -/
namespace Go.Proofs.YtljmdcegcckblaaGreatDoor
open Go.RowKit Go.Maps

def TxS.dread (y : TxS) (x : DevS) (kd : Int) (l : List Int) (size off n : Int) : ByteArray × Int :=
  if sizedE y l size (decide (off < 0) || decide (n < 0)) false ≠ 0 then (⟨#[]⟩, sizedE y l size (decide (off < 0) || decide (n < 0)) false)
  else if min off size = min off size + min n (size - min off size) then (⟨#[]⟩, 0)
  else y.text x kd l size (min off size) (min off size + min n (size - min off size))

theorem sizedE_zero {y : TxS} {l : List Int} {size : Int} {bad long : Bool} (h : sizedE y l size bad long = 0) : dopenE y l = 0 ∧ 0 ≤ size ∧ size ≤ 768 ∧ bad = false ∧ long = false ∧ (l.length : Int) = (size + 95) / 96 := by
  unfold sizedE at h
  by_cases h1 : dopenE y l = 0
  · rw [if_neg (by simpa using h1)] at h
    by_cases h2 : (size < 0 ∨ 768 < size) ∨ bad = true
    · rw [if_pos h2] at h; cases h
    · rw [if_neg h2] at h
      by_cases h3 : long = true
      · rw [if_pos h3] at h; cases h
      · rw [if_neg h3] at h
        by_cases h4 : (l.length : Int) ≠ (size + 95) / 96
        · rw [if_pos h4] at h; cases h
        · refine ⟨h1, by omega, by omega, ?_, ?_, by simpa using h4⟩
          · cases bad; rfl; exact absurd (.inr rfl) h2
          · cases long; rfl; exact absurd rfl h3
  · rw [if_pos (by simpa using h1)] at h; exact absurd h h1
theorem dopenE_state {y : TxS} {l : List Int} (h : dopenE y l = 0) : y.stateE = 0 := by
  unfold dopenE at h
  by_cases h1 : y.stateE = 0
  · exact h1
  · rw [if_pos (by simpa using h1)] at h; exact h

set_option maxRecDepth 100000 in
set_option maxHeartbeats 4000000 in
theorem dread_tx (T : Nat) (F : List Nat) (D : Nat) (y : TxS) (B : List Nat) (x : DevS) (kd : Int) (A : Option Addr) (c : Nat) (l : List Int) (hl : l.length ≤ 1000) (size off n : Int) (hsz : -9223372036854775808 ≤ size ∧ size ≤ 9223372036854775807) (w : World) (h : TxAt w T F D y) (hd : DevAt w D B x) (hA : SlI w A c l) :
    Calls Tryz.prog 14 #[.pointer (some ⟨T, 0, none⟩), .int .i64 kd, .slice A l.length c, .int .i64 size, .int .i64 off, .int .i64 n] w fun e w' => e = .returned (.tuple #[.string (y.dread x kd l size off n).1, .int .i64 (y.dread x kd l size off n).2]) ∧ Below w.heap.size w w' := by
  have HR : Hid (y.dread x kd l size off n = if sizedE y l size (decide (off < 0) || decide (n < 0)) false ≠ 0 then (⟨#[]⟩, sizedE y l size (decide (off < 0) || decide (n < 0)) false)
  else if min off size = min off size + min n (size - min off size) then (⟨#[]⟩, 0)
  else y.text x kd l size (min off size) (min off size + min n (size - min off size))) := Lib.hid rfl
  have hq : (decide (off < 0) = true ∧ (decide (off < 0) || decide (n < 0)) = true) ∨ (decide (off < 0) = false ∧ decide (n < 0) = true ∧ (decide (off < 0) || decide (n < 0)) = true) ∨ (decide (off < 0) = false ∧ decide (n < 0) = false ∧ (decide (off < 0) || decide (n < 0)) = false) := by
    cases h1 : decide (off < 0)
    · cases h2 : decide (n < 0)
      · exact .inr (.inr ⟨rfl, rfl, rfl⟩)
      · exact .inr (.inl ⟨rfl, rfl, rfl⟩)
    · exact .inl ⟨rfl, rfl⟩
  have HSD : Hid (Calls Tryz.prog 37 #[.pointer (some ⟨T, 0, none⟩), .int .i64 kd, .slice A l.length c, .int .i64 size, .bool (decide (off < 0) || decide (n < 0)), .bool false] w (SizedPost w T y kd l size (decide (off < 0) || decide (n < 0)) false)) := Lib.hid (sized_tx T F D y kd A c l hl size _ false hsz w h hA)
  obtain ⟨bad, hbad⟩ : ∃ bad, bad = (decide (off < 0) || decide (n < 0)) := ⟨_, rfl⟩
  rw [← hbad] at HR HSD hq
  have HB : Hid (bad = false → 0 ≤ off ∧ 0 ≤ n) := Lib.hid fun e => by
    rw [e] at hbad
    have := (Bool.or_eq_false_iff.1 hbad.symm)
    have h1 := of_decide_eq_false this.1
    have h2 := of_decide_eq_false this.2
    omega
  clear hbad hsz
  have HH := Lib.hid (And.intro h hd)
  clear h hd
  go_enter Tryz.func14, Tryz.ntmps14
  rcases hq with ⟨h1, rfl⟩ | ⟨h1, h2, rfl⟩ | ⟨h1, h2, rfl⟩
  all_goals
    go_wp2_with fail
    refine HSD.out.mono ?_
    rintro e w1 ⟨hb1, hpost⟩
    rcases hpost with ⟨hne, cs, hcs, rfl⟩ | ⟨hz, v, rfl, hov⟩
  rotate_left
  · exact absurd (sizedE_zero hz).2.2.2.1 (by decide)
  rotate_left
  · exact absurd (sizedE_zero hz).2.2.2.1 (by decide)
  rotate_left
  focus
    obtain ⟨a3, c3, rfl⟩ := own_slice hov
    obtain ⟨hz1, hz2, hz3, -, -, hz4⟩ := sizedE_zero hz
    obtain ⟨ho1, hn1⟩ := HB.out (by trivial)
    obtain ⟨w2, hw2⟩ : ∃ w2, w2 = w1.alloc (.cells (lsC T y.s y.j y.i kd (.slice a3 l.length c3)) 96) := ⟨_, rfl⟩
    have bL2 : Blk w2 w1.heap.size 96 (lsC T y.s y.j y.i kd (.slice a3 l.length c3)) := by rw [hw2]; exact Blk.new _ _ _
    have B2 : Below w.heap.size w w2 := by rw [hw2]; exact hb1.alloc hb1.size _
    have hR2 : Reads w2 a3 (l.map (.int .i64)) := by rw [hw2]; exact (Reads.of_own hov).alloc _
    have h2 := HH.out.1.below B2
    have hd2 := HH.out.2.below B2
    have HW2 := Lib.hid hw2
    rw [if_neg (by simpa using hz)] at HR
    have HZ := Lib.hid hz
    have hl8 : l.length ≤ 8 := by omega
    clear hz hw2 hov hb1
    obtain ⟨fr, hfr⟩ : ∃ fr, min off size = fr := ⟨_, rfl⟩
    rw [hfr] at HR
    obtain ⟨m, hm⟩ : ∃ m, min n (size - fr) = m := ⟨_, rfl⟩
    rw [hm] at HR
    have hfr2 : 0 ≤ fr ∧ fr ≤ size := by omega
    have hm2 : 0 ≤ m ∧ fr + m ≤ size := by omega
    by_cases hm0 : m = 0
    · subst hm0
      have HX : Hid (y.dread x kd l size off n = (⟨#[]⟩, 0)) := Lib.hid (by rw [HR.out, if_pos (by omega)])
      go_wp2_with fail
      go_ret2
      rw [HX.out]
      exact ⟨rfl, by rw [← HW2.out]; exact B2⟩
    · have HX : Hid (y.dread x kd l size off n = y.text x kd l size fr (fr + m)) := Lib.hid (by rw [HR.out, if_neg (by omega)])
      have hq : (fr == fr + m) = false := by simp; omega
      clear hm0
      go_wp2_with fail
      rw [← HW2.out]
      refine (text_ls w1.heap.size T F D y B x kd a3 c3 l hl8 size fr (fr + m) ⟨hz2, hz3⟩ ⟨hfr2.1, by omega, hm2.2⟩ w2 h2 hd2 bL2 hR2).mono ?_
      rintro e w3 ⟨rfl, hb3⟩
      go_wp2_with fail
      go_ret2
      rw [HX.out]
      exact ⟨rfl, B2.trans (hb3.mono B2.size)⟩
  all_goals
    generalize sizedE y l size _ false = E at *
    have HX : Hid (y.dread x kd l size off n = (⟨#[]⟩, E)) := Lib.hid (by rw [HR.out, if_pos hne])
    have hE' : (E != 0) = true := by simpa using hne
    clear hne HR
    rcases hcs with rfl | ⟨A', c', rfl⟩
    all_goals
      go_wp2_with fail
      go_ret2
      rw [HX.out]
      exact ⟨rfl, hb1.alloc hb1.size _⟩

end Go.Proofs.YtljmdcegcckblaaGreatDoor
/- Layer 12: what Write and Cut share. -/
namespace Go.Proofs.YtljmdcegcckblaaGreatDoor
open Go.RowKit Go.Maps

/-- The whole string has its size. -/
theorem textK_full {y : TxS} {x : DevS} {kd size : Int} {l : List Int} (hs : 0 ≤ size) : ∀ k : Nat, (96 * (k : Int) ≤ size + 95) → (textK y x kd size 0 size l k).2 = 0 → ((textK y x kd size 0 size l k).1.size : Int) = min (96 * (k : Int)) size := by
  intro k
  induction k with
  | zero => intro _ _; show ((0 : Nat) : Int) = _; omega
  | succ k ih =>
    intro hk h0
    unfold textK at h0 ⊢
    by_cases h1 : (textK y x kd size 0 size l k).2 ≠ 0
    · rw [if_pos h1] at h0; exact absurd h0 h1
    · have h1' : (textK y x kd size 0 size l k).2 = 0 := by simpa using h1
      have ih := ih (by omega) h1'
      rw [if_neg h1] at h0 ⊢
      by_cases h2 : min ((k : Int) * 96 + 96) size ≤ 0 ∨ size ≤ (k : Int) * 96
      · omega
      · rw [if_neg h2] at h0 ⊢
        by_cases h3 : (y.part x kd (l.getD k 0)).2 ≠ 0
        · rw [if_pos h3] at h0; exact absurd h0 h3
        · rw [if_neg h3] at h0 ⊢
          by_cases h4 : ((y.part x kd (l.getD k 0)).1.size : Int) ≠ min ((k : Int) * 96 + 96) size - k * 96
          · rw [if_pos h4] at h0; cases h0
          · rw [if_neg h4]
            simp only [ByteArray.size_append, ByteArray.size_extract]
            omega
theorem text_full {y : TxS} {x : DevS} {kd size : Int} {l : List Int} (hs : 0 ≤ size) (hl : (l.length : Int) = (size + 95) / 96) (h0 : (y.text x kd l size 0 size).2 = 0) : ((y.text x kd l size 0 size).1.size : Int) = size := by
  have := textK_full (l := l) hs l.length (by omega) h0
  unfold TxS.text
  omega

def DwDid (w : World) (T : Nat) (F : List Nat) (D : Nat) (B : List Nat) (x : DevS) (z : TxS) (L : List Int) (v : Value) (w' : World) : Prop :=
  w'.ownsRow w.heap.size 3 1 v L.length (L.map (.int .i64)) ∧ ∃ F', TD w' T F' D z B x ∧ Grow w F w' F' ∧ ∀ q, v.ownBlock = some q → q ∉ F'

theorem StoreAt.mk0 {w w2 w4 : World} {Lb T : Nat} {F : List Nat} {D : Nat} {y : TxS} {B : List Nat} {x : DevS} {kd : Int} {a3 : Option Addr} {c3 : Nat} {l : List Int} {P : Option Addr} {pc : Nat} {ps : List ByteArray} (h : TD w T F D y B x) (B2 : Below w.heap.size w w2)
    (bl : Blk w2 Lb 96 (lsC T y.s y.j y.i kd (.slice a3 l.length c3))) (hLb : w.heap.size ≤ Lb) (ho : w2.ownsRow w.heap.size 3 1 (.slice a3 l.length c3) l.length (l.map (.int .i64))) (hne : ∀ a, a3 = some a → a.block ≠ Lb)
    (hB : Below w2.heap.size w2 w4) (hp : w4.ownsRow w2.heap.size 9 1 (.slice P ps.length pc) ps.length (ps.map .string)) :
    StoreAt w.heap.size w4 Lb T F D B x y.s y.j y.i kd a3 c3 l P ps F y w4 ∧ (∀ a, P = some a → a.block < w4.heap.size) := by
  have B4 : Below w.heap.size w w4 := B2.trans (hB.mono B2.size)
  have hF : ∀ b ∈ F, b < w.heap.size := fun b hb => (h.tx.lt b hb).2
  have h2 := B2.size
  refine ⟨⟨h.below B4, GrowN.refl _ _ _, B4.size, ⟨rfl, rfl, rfl⟩, bl.belowAll hB, ⟨hLb, fun hm => by have := hF _ hm; omega⟩, own_below ho hB, fun a e => ⟨fun hm => ?_, hne a e⟩, Reads.of_own hp, fun a e => ?_⟩, fun a e => ?_⟩
  · subst e
    have := (own_lt ho a.block rfl).1
    have := hF _ hm; omega
  · subst e
    have h5 := (own_lt hp a.block rfl).1
    refine ⟨fun hm => by have := hF _ hm; omega, fun e2 => ?_, fun a' e' => ?_⟩
    · have := bl.lt; omega
    · subst e'
      have := (own_lt ho a'.block rfl).2; omega
  · subst e; exact (own_lt hp a.block rfl).2

theorem cutAt_size (s : ByteArray) (k : Nat) : (cutAt s k).size ≤ 96 := by unfold cutAt; rw [ByteArray.size_extract]; omega
theorem cutsL_size (s : ByteArray) : ∀ p ∈ cutsL s, p.size ≤ 96 := by
  intro p hp
  unfold cutsL at hp
  obtain ⟨k, -, rfl⟩ := List.mem_map.1 hp
  exact cutAt_size s k

/-- Behind the last call. -/
theorem StoreDid.done {w w4 w' : World} {T : Nat} {F : List Nat} {D : Nat} {B : List Nat} {x : DevS} {r : Int × TxS × List Int} {v : Value} (hb : Below w.heap.size w w4) (ho : w'.ownsRow w.heap.size 3 1 v r.2.2.length (r.2.2.map (.int .i64))) {F' : List Nat} (ht : TD w' T F' D r.2.1 B x) (g : GrowN w.heap.size w4 F w' F') (hq : ∀ q, v.ownBlock = some q → q ∉ F') : DwDid w T F D B x r.2.1 r.2.2 v w' :=
  ⟨ho, F', ht, ((GrowN.of_below hb (Nat.le_refl _) F).trans g).toGrow, hq⟩

end Go.Proofs.YtljmdcegcckblaaGreatDoor
/- Layer 12: Write. -/
namespace Go.Proofs.YtljmdcegcckblaaGreatDoor
open Go.RowKit Go.Maps

def dwLong (off : Int) (n : Nat) : Bool := decide (768 < wrap64 (off + n))
def dwBad (size off : Int) : Bool := decide (off < 0) || decide (size < off)
def dwText (o s : ByteArray) (off size : Int) : ByteArray := o.extract 0 off.toNat ++ s ++ o.extract (min (off + s.size) size).toNat o.size
def TxS.dwrite (y : TxS) (x : DevS) (kd : Int) (l : List Int) (size off : Int) (s : ByteArray) : Int × TxS × List Int × Int :=
  if sizedE y l size (dwBad size off) (dwLong off s.size) ≠ 0 then (sizedE y l size (dwBad size off) (dwLong off s.size), y, [], 0)
  else if (y.text x kd l size 0 size).2 ≠ 0 then ((y.text x kd l size 0 size).2, y, [], 0)
  else if (y.store x kd l (cutsL (dwText (y.text x kd l size 0 size).1 s off size))).1 ≠ 0 then ((y.store x kd l (cutsL (dwText (y.text x kd l size 0 size).1 s off size))).1, (y.store x kd l (cutsL (dwText (y.text x kd l size 0 size).1 s off size))).2.1, [], 0)
  else (0, (y.store x kd l (cutsL (dwText (y.text x kd l size 0 size).1 s off size))).2.1, (y.store x kd l (cutsL (dwText (y.text x kd l size 0 size).1 s off size))).2.2, (dwText (y.text x kd l size 0 size).1 s off size).size)

def DwPost (w : World) (T : Nat) (F : List Nat) (D : Nat) (B : List Nat) (x : DevS) (r : Int × TxS × List Int × Int) (e : Ending) (w' : World) : Prop :=
  ∃ v, e = .returned (.tuple #[v, .int .i64 r.2.2.2, .int .i64 r.1]) ∧ DwDid w T F D B x r.2.1 r.2.2.1 v w'

set_option maxRecDepth 100000 in
set_option maxHeartbeats 8000000 in
theorem dwrite_tx (T : Nat) (F : List Nat) (D : Nat) (y : TxS) (B : List Nat) (x : DevS) (kd : Int) (A : Option Addr) (c : Nat) (l : List Int) (hl : l.length ≤ 1000) (size off : Int) (s : ByteArray) (hsn : s.size ≤ 10000) (hsz : -9223372036854775808 ≤ size ∧ size ≤ 9223372036854775807) (hof : -9223372036854775808 ≤ off ∧ off ≤ 9223372036854775807) (w : World) (h : TD w T F D y B x) (hA : SlI w A c l) :
    Calls Tryz.prog 19 #[.pointer (some ⟨T, 0, none⟩), .int .i64 kd, .slice A l.length c, .int .i64 size, .int .i64 off, .string s] w (DwPost w T F D B x (y.dwrite x kd l size off s)) := by
  have hq : (decide (off < 0) = true ∧ dwBad size off = true) ∨ (decide (off < 0) = false ∧ decide (size < off) = true ∧ dwBad size off = true) ∨ (decide (off < 0) = false ∧ decide (size < off) = false ∧ dwBad size off = false) := by
    unfold dwBad
    cases h1 : decide (off < 0)
    · cases h2 : decide (size < off)
      · exact .inr (.inr ⟨rfl, rfl, rfl⟩)
      · exact .inr (.inl ⟨rfl, rfl, rfl⟩)
    · exact .inl ⟨rfl, rfl⟩
  have HR : Hid (y.dwrite x kd l size off s = (if sizedE y l size (dwBad size off) (dwLong off s.size) ≠ 0 then (sizedE y l size (dwBad size off) (dwLong off s.size), y, [], 0)
  else if (y.text x kd l size 0 size).2 ≠ 0 then ((y.text x kd l size 0 size).2, y, [], 0)
  else if (y.store x kd l (cutsL (dwText (y.text x kd l size 0 size).1 s off size))).1 ≠ 0 then ((y.store x kd l (cutsL (dwText (y.text x kd l size 0 size).1 s off size))).1, (y.store x kd l (cutsL (dwText (y.text x kd l size 0 size).1 s off size))).2.1, [], 0)
  else (0, (y.store x kd l (cutsL (dwText (y.text x kd l size 0 size).1 s off size))).2.1, (y.store x kd l (cutsL (dwText (y.text x kd l size 0 size).1 s off size))).2.2, (dwText (y.text x kd l size 0 size).1 s off size).size) : Int × TxS × List Int × Int)) := Lib.hid rfl
  have HSD := Lib.hid (sized_tx T F D y kd A c l hl size (dwBad size off) (dwLong off s.size) hsz w h.tx hA)
  have HB : Hid (dwBad size off = false → 0 ≤ off ∧ off ≤ size) := Lib.hid fun e => by
    have := (Bool.or_eq_false_iff.1 e)
    have h1 := of_decide_eq_false this.1
    have h2 := of_decide_eq_false this.2
    omega
  have hlg : decide (768 < wrap64 (off + s.size)) = dwLong off s.size := rfl
  have HLG := Lib.hid hlg
  generalize dwBad size off = bad at *
  generalize dwLong off s.size = lg at *
  have HH := Lib.hid h
  clear h
  go_enter Tryz.func19, Tryz.ntmps19
  rcases hq with ⟨h1, rfl⟩ | ⟨h1, h2, rfl⟩ | ⟨h1, h2, rfl⟩
  all_goals
    go_wp2_with fail
    refine HSD.out.mono ?_
    rintro e w1 ⟨hb1, hpost⟩
    rcases hpost with ⟨hne, cs, hcs, rfl⟩ | ⟨hz, v, rfl, hov⟩
  rotate_left
  · exact absurd (sizedE_zero hz).2.2.2.1 (by decide)
  rotate_left
  · exact absurd (sizedE_zero hz).2.2.2.1 (by decide)
  rotate_left
  focus
    obtain ⟨a3, c3, rfl⟩ := own_slice hov
    obtain ⟨hz1, hz2, hz3, -, hlgf, hz4⟩ := sizedE_zero hz
    obtain ⟨ho1, ho2⟩ := HB.out (by trivial)
    have hl8 : l.length ≤ 8 := by omega
    obtain ⟨w2, hw2⟩ : ∃ w2, w2 = w1.alloc (.cells (lsC T y.s y.j y.i kd (.slice a3 l.length c3)) 96) := ⟨_, rfl⟩
    have bL2 : Blk w2 w1.heap.size 96 (lsC T y.s y.j y.i kd (.slice a3 l.length c3)) := by rw [hw2]; exact Blk.new _ _ _
    have B2 : Below w.heap.size w w2 := by rw [hw2]; exact hb1.alloc hb1.size _
    have ho2' : w2.ownsRow w.heap.size 3 1 (.slice a3 l.length c3) l.length (l.map (.int .i64)) := by rw [hw2]; exact own_below (W := w1) hov ((Below.refl _ _).alloc (Nat.le_refl _) _)
    have hnL : ∀ a, a3 = some a → a.block ≠ w1.heap.size := fun a e => by subst e; have := (own_lt hov a.block rfl).2; omega
    have htd2 := HH.out.below B2
    have z1 : w.heap.size ≤ w1.heap.size := hb1.size
    have HW2 := Lib.hid hw2
    rw [if_neg (by simpa using hz)] at HR
    have HZ := Lib.hid hz
    have htx := text_ls w1.heap.size T F D y B x kd a3 c3 l hl8 size 0 size ⟨hz2, hz3⟩ ⟨by omega, by omega, by omega⟩ w2 htd2.tx htd2.dev bL2 (Reads.of_own ho2')
    clear hz hw2 hov hb1
    go_wp2_with fail
    rw [← HW2.out]
    refine htx.mono ?_
    rintro e w3 ⟨rfl, hb3⟩
    have B3 : Below w.heap.size w w3 := B2.trans (hb3.mono B2.size)
    have bL3 := bL2.belowAll hb3
    have ho3 := own_below ho2' hb3
    have HFL := Lib.hid (text_full (y := y) (x := x) (kd := kd) (l := l) hz2 hz4)
    clear htx bL2 ho2' htd2 hb3 B2
    generalize y.text x kd l size 0 size = R at *
    obtain ⟨o, E⟩ := R
    simp only at HR HFL ⊢
    by_cases hE : E = 0
    rotate_left
    · have HX : Hid (y.dwrite x kd l size off s = (E, y, [], 0)) := Lib.hid (by rw [HR.out, if_pos hE])
      have hE' : (E != 0) = true := by simpa using hE
      clear hE HR
      go_wp2_with fail
      refine bodyPost_ret (v := .tuple #[.slice none 0 0, .int .i64 0, .int .i64 E]) (by simp [results, Tryz.results19, go_sem]) rfl ?_
      exact ⟨_, by rw [HX.out], by rw [HX.out]; exact ⟨World.ownsRow_nil _ _ _ _, F, HH.out.below B3, Grow.of_below B3 F, fun q hq => by cases hq⟩⟩
    subst hE
    have hos : (o.size : Int) = size := HFL.out rfl
    obtain ⟨fo, hfo⟩ : ∃ fo : Nat, off = fo := ⟨off.toNat, by omega⟩
    subst hfo
    subst hos
    have h768 : fo + s.size ≤ 768 := by
      have h1 : ¬ 768 < wrap64 ((fo : Int) + s.size) := by rw [hlgf] at hlg; simpa using hlg
      have h2 : wrap64 ((fo : Int) + s.size) = fo + s.size := by unfold wrap64; omega
      omega
    obtain ⟨mi, hmi⟩ : ∃ mi : Nat, min ((fo : Int) + s.size) o.size = mi := ⟨_, (Int.toNat_of_nonneg (by omega)).symm⟩
    have hfo2 : fo ≤ o.size := by omega
    have hmi2 : mi ≤ o.size := by omega
    have HT : Hid (dwText o s fo o.size = o.extract 0 fo ++ s ++ o.extract mi o.size) := Lib.hid (by unfold dwText; rw [hmi]; rfl)
    have hw64 : IntKind.i64.wrap ((fo : Int) + s.size) = fo + s.size := by rw [IntKind.wrap_i64]; omega
    have hcat1 : ¬ 9223372036854775807 < min fo o.size + s.size := by omega
    have hcat2 : ¬ 9223372036854775807 < min fo o.size + s.size + (o.size - mi) := by omega
    have hcat3 : ¬ 9223372036854775807 < fo + s.size := by omega
    have hcat4 : ¬ 9223372036854775807 < fo + s.size + (o.size - mi) := by omega
    go_wp2_with fail
    refine wp_region_mix [.take 0, .take 1, .take 2, .take 3, .take 4, .take 5, .take 6, .take 7, .take 8, .take 9, .take 10, .take 11, .take 12, .take 13, .take 14] 15 (fun _ => True) (by kernel_rfl) (by kernel_rfl) (fun _ _ _ _ _ h => h) trivial ?_
    simp only [List.map_cons, List.map_nil, Ms.fill, List.getD_cons_zero, List.getD_cons_succ]
    iterate 15 (refine mixT_take (by rfl) ?_ (fun w' hw' => ?_) ?_; rotate_left; (focus (go_simp; (try with_reducible rfl))); (try simp only [Act.put, List.setIfInBounds_toArray, List.set_cons_zero, List.set_cons_succ]))
    refine mixT_nil ?_
    rw [← HT.out]
    have HDS : Hid ((dwText o s fo o.size).size ≤ 2000) := Lib.hid (by rw [HT.out]; simp only [ByteArray.size_append, ByteArray.size_extract]; omega)
    generalize dwText o s fo o.size = t at *
    clear hcat1 hcat2 hcat3 hcat4 hw64 hmi HT
    have bL4 := bL3.drew
    have B4 : Below w.heap.size w w3.drew := B3.drew
    have ho4 := own_below (W := w3) ho3 (Below.refl _ _).drew
    generalize w3.drew = w4 at *
    clear bL3 B3 ho3
    go_wp2_with fail
    refine (cuts_any t w4).mono ?_
    rintro e w5 ⟨rfl, hw5⟩
    have b5 : Blk w5 w4.heap.size 9 #[.string t] := by rw [hw5]; exact Blk.new _ _ _
    have B45 : Below w4.heap.size w4 w5 := by rw [hw5]; exact (Below.refl _ _).alloc (Nat.le_refl _) _
    clear hw5
    go_wp2_with fail
    refine (collect_cuts w4.heap.size t (by have := HDS.out; omega) w5 b5).mono ?_
    rintro e w6 ⟨v6, rfl, ho6, -, hk6⟩
    obtain ⟨P, pc, rfl⟩ := own_slice ho6
    have B46 : Below w4.heap.size w4 w6 := B45.trans (hk6.toBelow B45.size (by simp))
    obtain ⟨hS, hPl⟩ := StoreAt.mk0 (pc := pc) (ps := cutsL t) HH.out B4 bL4 z1 ho4 hnL B46 (own_base ho6 B45.size)
    have B6 : Below w.heap.size w w6 := B4.trans (B46.mono B4.size)
    have hw0 : 0 < w.heap.size := HH.out.dev.half.1
    have hst := store_ls w1.heap.size T w.heap.size F D y B x kd a3 c3 l P pc (cutsL t) hl (by rw [cutsL_length]; unfold nCuts; have := HDS.out; omega) (fun p hp => by have := cutsL_size t p hp; omega) hw0 (fun b hb => (HH.out.tx.lt b hb).2) (fun b hb => (HH.out.dev.lt b hb).2) w6 hS hPl
    clear hk6 ho6 b5 B45 B46 hS hPl ho4 bL4 B4
    go_wp2_with fail
    refine hst.mono ?_
    rintro e w7 ⟨v7, rfl, ho7, F7, ht7, g7, f7⟩
    have hfin := StoreDid.done B6 ho7 ht7 g7 f7
    clear hst ho7 ht7 g7 f7
    generalize y.store x kd l (cutsL t) = R at *
    obtain ⟨E, z, L⟩ := R
    simp only at HR hfin ⊢
    rw [if_neg (by simp)] at HR
    by_cases hE : E = 0
    · subst hE
      have HX : Hid (y.dwrite x kd l (o.size) (fo) s = (0, z, L, (t.size : Int))) := Lib.hid (by rw [HR.out, if_neg (by simp)])
      clear HR
      go_wp2_with fail
      refine bodyPost_ret (v := .tuple #[v7, .int .i64 t.size, .int .i64 0]) (by simp [results, Tryz.results19, go_sem]) rfl ?_
      exact ⟨_, by rw [HX.out], by rw [HX.out]; exact hfin⟩
    · have HX : Hid (y.dwrite x kd l (o.size) (fo) s = (E, z, [], (0 : Int))) := Lib.hid (by rw [HR.out, if_pos hE])
      have hE' : (E != 0) = true := by simpa using hE
      clear HR hE
      go_wp2_with fail
      refine bodyPost_ret (v := .tuple #[.slice none 0 0, .int .i64 0, .int .i64 E]) (by simp [results, Tryz.results19, go_sem]) rfl ?_
      exact ⟨_, by rw [HX.out], by rw [HX.out]; exact ⟨World.ownsRow_nil _ _ _ _, hfin.2.imp fun F9 h9 => ⟨h9.1, h9.2.1, fun q hq => by cases hq⟩⟩⟩
  all_goals
    have HW0 := HH.out
    generalize sizedE y l size _ lg = E at *
    have HX : Hid (y.dwrite x kd l size off s = (E, y, [], 0)) := Lib.hid (by rw [HR.out, if_pos hne])
    have hE' : (E != 0) = true := by simpa using hne
    clear hne HR
    rcases hcs with rfl | ⟨A', c', rfl⟩
    all_goals
      go_wp2_with fail
      refine bodyPost_ret (v := .tuple #[.slice none 0 0, .int .i64 0, .int .i64 E]) (by simp [results, Tryz.results19, go_sem]) rfl ?_
      have B3 := hb1.alloc hb1.size
      exact ⟨_, by rw [HX.out], by rw [HX.out]; exact ⟨World.ownsRow_nil _ _ _ _, F, HW0.below (B3 _), Grow.of_below (B3 _) F, fun q hq => by cases hq⟩⟩

end Go.Proofs.YtljmdcegcckblaaGreatDoor
