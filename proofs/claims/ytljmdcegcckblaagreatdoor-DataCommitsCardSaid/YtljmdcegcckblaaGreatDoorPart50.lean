/- Parts of the proof, put together by program: DC, DD, DE. -/
import Derived.Test.YtljmdcegcckblaaGreatDoorPart42
import Derived.Test.YtljmdcegcckblaaGreatDoorPart43
import Derived.Test.YtljmdcegcckblaaGreatDoorPart45
import Derived.Test.YtljmdcegcckblaaGreatDoorPart46
import Derived.Test.YtljmdcegcckblaaGreatDoorPart47
import Derived.Test.YtljmdcegcckblaaGreatDoorPart48
import Derived.Test.YtljmdcegcckblaaGreatDoorPart49
import Derived.BigQuiet
import Derived.Test.YtljmdcegcckblaaGreatDoorPart44
/- The laws of layer 12: acts that came in; what they ask, and what comes of it, in one form. -/
namespace Go.Proofs.YtljmdcegcckblaaGreatDoor
open Go.RowKit Go.Maps

theorem acts_at {w : World} {A : Option Addr} {xs : List ActV} (h : Reads w A (xs.flatMap actL)) {k : Nat} (hk : k < xs.length) :
    ∃ b off, A = some ⟨b, off, none⟩ ∧ b < w.heap.size ∧ w.cell? ⟨b, off + k * 8, none⟩ = some (.int .u8 xs[k].wh) ∧ w.cell? ⟨b, off + k * 8 + 1, none⟩ = some (.int .u8 xs[k].f) ∧ w.cell? ⟨b, off + k * 8 + 2, none⟩ = some (.int .i64 xs[k].kd) ∧
      w.cell? ⟨b, off + k * 8 + 3, none⟩ = some (.int .i64 xs[k].off) ∧ w.cell? ⟨b, off + k * 8 + 4, none⟩ = some (.int .i64 xs[k].n) ∧ w.cell? ⟨b, off + k * 8 + 5, none⟩ = some (.int .i64 xs[k].size) ∧ w.cell? ⟨b, off + k * 8 + 6, none⟩ = some (.slice xs[k].A xs[k].m xs[k].c) ∧ w.cell? ⟨b, off + k * 8 + 7, none⟩ = some (.string xs[k].s) := by
  have hg : ∀ j, j < 8 → (xs.flatMap actL)[k * 8 + j]? = (actL xs[k])[j]? := fun j hj => flat_get (f := actL) (m := 8) (fun _ _ => rfl) hj hk
  rcases h with h | ⟨b, off, hA, hlt, hc⟩
  · exfalso
    have := hg 0 (by omega)
    rw [h] at this
    simp [actL] at this
  · have g : ∀ j u, j < 8 → (actL xs[k])[j]? = some u → w.cell? ⟨b, off + k * 8 + j, none⟩ = some u := fun j u hj hu => by rw [Nat.add_assoc]; exact hc _ _ ((hg j hj).trans hu)
    exact ⟨b, off, hA, hlt, g 0 _ (by omega) rfl, g 1 _ (by omega) rfl, g 2 _ (by omega) rfl, g 3 _ (by omega) rfl, g 4 _ (by omega) rfl, g 5 _ (by omega) rfl, g 6 _ (by omega) rfl, g 7 _ (by omega) rfl⟩

/-- A value of an index turned. -/
def upd {α : Type} (g : Nat → α) (i : Nat) (v : α) (k : Nat) : α := if k = i then v else g k
theorem two (f2 : Nat) (h : f2 < 2) : f2 = 0 ∨ f2 = 1 := by omega

/-- What is asked: the lists, their slices and the sizes of the strings being given. -/
def OfSpec (w w' : World) (f2 : Nat) (sl : Nat → Value) (zs : Nat → Int) (cw ck cz co cn : Int) (cl : Value) (P : Option Addr) (pn : Nat) : Prop :=
  (cw = 0 ∧ ck = 8 ∧ cz = zs f2 ∧ 0 ≤ co ∧ co ≤ cz ∧ cn = 0 ∧ cl = sl f2) ∨
  (cw = 2 ∧ ck = 8 ∧ cz = zs f2 ∧ co = 0 ∧ 0 ≤ cn ∧ cn < 800 ∧ cl = sl f2) ∨
  (cw = 3 ∧ ck = 8 ∧ cz = zs f2 ∧ 0 ≤ co ∧ co ≤ cz ∧ 0 ≤ cn ∧ cn < 800 ∧ cl = sl f2) ∨
  ((cw = 5 ∨ cw = 6) ∧ ck = 7 ∧ cz = zs f2 ∧ co = 0 ∧ cn = 0 ∧ cl = sl 2 ∧ ∃ ps : List ByteArray, ps.length = pn ∧ pn ≤ 901 ∧ (∀ p ∈ ps, p.size ≤ 1000) ∧ Reads w' P (ps.map .string) ∧ ∀ a, P = some a → w.heap.size ≤ a.block ∧ a.block < w'.heap.size)
def OfPost (w : World) (f2 : Nat) (sl : Nat → Value) (zs : Nat → Int) (s : ByteArray) (e : Ending) (w' : World) : Prop :=
  Below w.heap.size w w' ∧ ∃ cw ck cz co cn cl P pn pc, e = .returned (.agg (callC cw ck cz co cn cl s (.slice P pn pc))) ∧ OfSpec w w' f2 sl zs cw ck cz co cn cl P pn

theorem of_parts {w : World} {f2 : Nat} {sl : Nat → Value} {zs : Nat → Int} {s : ByteArray} {C : Int} {q1 : Nat} {e : Ending} {w' : World} (hC : C = 5 ∨ C = 6) (hs : s.size ≤ 900) (hq : 1 ≤ q1) (h : OfParts w C (zs f2) (sl 2) s q1 e w') : OfPost w f2 sl zs s e w' := by
  obtain ⟨hb, kk, pv, rfl, h1, h2, -, ho⟩ := h
  obtain ⟨P, pc, rfl⟩ := own_slice ho
  have hkk : kk ≤ 900 := by
    have : 1 * kk ≤ q1 * kk := Nat.mul_le_mul_right _ hq
    omega
  refine ⟨hb, C, 7, zs f2, 0, 0, sl 2, P, kk + 1, pc, rfl, .inr (.inr (.inr ⟨hC, rfl, rfl, rfl, rfl, rfl, piecesL s q1 kk ++ [restN s q1 kk], by rw [List.length_append, piecesL_length]; rfl, by omega, fun p hp => ?_, Reads.of_own ho, fun a e => ?_⟩))⟩
  · rcases List.mem_append.1 hp with hp | hp
    · unfold piecesL at hp
      obtain ⟨i, -, rfl⟩ := List.mem_map.1 hp
      unfold pieceAt
      rw [ByteArray.size_extract]; omega
    · simp only [List.mem_singleton] at hp
      subst hp
      rw [restN_size]; omega
  · subst e
    exact own_lt ho a.block rfl

theorem of_act (a0 a1 a2 : Option Addr) (n0 k0 n1 k1 n2 k2 : Nat) (zs : Nat → Int) (wh f kd off n size : Int) (xl : Value) (s : ByteArray) (hs9 : s.size ≤ 900) (hz : ∀ k, k < 2 → 0 ≤ zs k ∧ zs k ≤ 10000) (hoff : -9223372036854775808 ≤ off ∧ off ≤ 9223372036854775807) (hn : -9223372036854775808 ≤ n ∧ n ≤ 9223372036854775807) (hsz : -9223372036854775808 ≤ size ∧ size ≤ 9223372036854775807)
    (hf : 0 ≤ f ∧ f ≤ 255) (hwh : 0 ≤ wh ∧ wh ≤ 255) (hw7 : wh % 8 ≠ 7) (f2 : Nat) (hf2 : f % 2 = f2) (sl : Nat → Value) (e0 : sl 0 = .slice a0 n0 k0) (e1 : sl 1 = .slice a1 n1 k1) (e2 : sl 2 = .slice a2 n2 k2) (w : World) :
    Calls Tryz.prog 11 #[.agg (actC wh f kd off n size xl s), .agg (bookC (.slice a0 n0 k0) (.slice a1 n1 k1) (.slice a2 n2 k2) (zs 0) (zs 1))] w (OfPost w f2 sl zs s) := by
  have hz0 := hz 0 (by omega)
  have hz1 := hz 1 (by omega)
  have hf3 : f2 = 0 ∨ f2 = 1 := by omega
  have hw8 : wh % 8 = 0 ∨ wh % 8 = 1 ∨ wh % 8 = 2 ∨ wh % 8 = 3 ∨ wh % 8 = 4 ∨ wh % 8 = 5 ∨ wh % 8 = 6 := by omega
  have m1 : ∀ z : Int, 0 ≤ z → 0 ≤ off % (z + 1) ∧ off % (z + 1) ≤ z := fun z h => ⟨Int.emod_nonneg _ (by omega), by have := Int.emod_lt_of_pos off (show 0 < z + 1 by omega); omega⟩
  have m2 : 0 ≤ n % 800 ∧ n % 800 < 800 := by omega
  rcases hf3 with rfl | rfl
  · have p1 := m1 _ hz0.1
    rcases hw8 with hw8 | hw8 | hw8 | hw8 | hw8 | hw8 | hw8
    · refine (of_w0_0 a0 a1 a2 n0 k0 n1 k1 n2 k2 (zs 0) (zs 1) wh f kd off n size xl s hz0 hoff hf hwh hw8 hf2 w).mono fun e w' ⟨he, hb⟩ => ?_
      exact ⟨hb, 0, 8, zs 0, _, 0, _, none, 0, 0, he, .inl ⟨rfl, rfl, rfl, p1.1, p1.2, rfl, e0.symm⟩⟩
    · refine (of_w1_0 a0 a1 a2 n0 k0 n1 k1 n2 k2 (zs 0) (zs 1) wh f kd off n size xl s hz0 hoff hf hwh hw8 hf2 w).mono fun e w' ⟨he, hb⟩ => ?_
      exact ⟨hb, 0, 8, zs 0, _, 0, _, none, 0, 0, he, .inl ⟨rfl, rfl, rfl, p1.1, p1.2, rfl, e0.symm⟩⟩
    · refine (of_c_0 a0 a1 a2 n0 k0 n1 k1 n2 k2 (zs 0) (zs 1) wh f kd off n size xl s hn hf hwh hw8 hf2 w).mono fun e w' ⟨he, hb⟩ => ?_
      exact ⟨hb, 2, 8, zs 0, 0, _, _, none, 0, 0, he, .inr (.inl ⟨rfl, rfl, rfl, rfl, m2.1, m2.2, e0.symm⟩)⟩
    · refine (of_r3_0 a0 a1 a2 n0 k0 n1 k1 n2 k2 (zs 0) (zs 1) wh f kd off n size xl s hz0 hoff hn hf hwh hw8 hf2 w).mono fun e w' ⟨he, hb⟩ => ?_
      exact ⟨hb, 3, 8, zs 0, _, _, _, none, 0, 0, he, .inr (.inr (.inl ⟨rfl, rfl, rfl, p1.1, p1.2, m2.1, m2.2, e0.symm⟩))⟩
    · refine (of_r4_0 a0 a1 a2 n0 k0 n1 k1 n2 k2 (zs 0) (zs 1) wh f kd off n size xl s hz0 hoff hn hf hwh hw8 hf2 w).mono fun e w' ⟨he, hb⟩ => ?_
      exact ⟨hb, 3, 8, zs 0, _, _, _, none, 0, 0, he, .inr (.inr (.inl ⟨rfl, rfl, rfl, p1.1, p1.2, m2.1, m2.2, e0.symm⟩))⟩
    · refine (of_p5_0 a0 a1 a2 n0 k0 n1 k1 n2 k2 (zs 0) (zs 1) wh f kd off n size xl s (by omega) hsz hf hwh hw8 hf2 w).mono fun e w' h => ?_
      rw [← e2] at h
      exact of_parts (.inl rfl) hs9 (by omega) h
    · refine (of_p6_0 a0 a1 a2 n0 k0 n1 k1 n2 k2 (zs 0) (zs 1) wh f kd off n size xl s (by omega) hsz hf hwh hw8 hf2 w).mono fun e w' h => ?_
      rw [← e2] at h
      exact of_parts (.inr rfl) hs9 (by omega) h
  · have p1 := m1 _ hz1.1
    rcases hw8 with hw8 | hw8 | hw8 | hw8 | hw8 | hw8 | hw8
    · refine (of_w0_1 a0 a1 a2 n0 k0 n1 k1 n2 k2 (zs 0) (zs 1) wh f kd off n size xl s hz1 hoff hf hwh hw8 hf2 w).mono fun e w' ⟨he, hb⟩ => ?_
      exact ⟨hb, 0, 8, zs 1, _, 0, _, none, 0, 0, he, .inl ⟨rfl, rfl, rfl, p1.1, p1.2, rfl, e1.symm⟩⟩
    · refine (of_w1_1 a0 a1 a2 n0 k0 n1 k1 n2 k2 (zs 0) (zs 1) wh f kd off n size xl s hz1 hoff hf hwh hw8 hf2 w).mono fun e w' ⟨he, hb⟩ => ?_
      exact ⟨hb, 0, 8, zs 1, _, 0, _, none, 0, 0, he, .inl ⟨rfl, rfl, rfl, p1.1, p1.2, rfl, e1.symm⟩⟩
    · refine (of_c_1 a0 a1 a2 n0 k0 n1 k1 n2 k2 (zs 0) (zs 1) wh f kd off n size xl s hn hf hwh hw8 hf2 w).mono fun e w' ⟨he, hb⟩ => ?_
      exact ⟨hb, 2, 8, zs 1, 0, _, _, none, 0, 0, he, .inr (.inl ⟨rfl, rfl, rfl, rfl, m2.1, m2.2, e1.symm⟩)⟩
    · refine (of_r3_1 a0 a1 a2 n0 k0 n1 k1 n2 k2 (zs 0) (zs 1) wh f kd off n size xl s hz1 hoff hn hf hwh hw8 hf2 w).mono fun e w' ⟨he, hb⟩ => ?_
      exact ⟨hb, 3, 8, zs 1, _, _, _, none, 0, 0, he, .inr (.inr (.inl ⟨rfl, rfl, rfl, p1.1, p1.2, m2.1, m2.2, e1.symm⟩))⟩
    · refine (of_r4_1 a0 a1 a2 n0 k0 n1 k1 n2 k2 (zs 0) (zs 1) wh f kd off n size xl s hz1 hoff hn hf hwh hw8 hf2 w).mono fun e w' ⟨he, hb⟩ => ?_
      exact ⟨hb, 3, 8, zs 1, _, _, _, none, 0, 0, he, .inr (.inr (.inl ⟨rfl, rfl, rfl, p1.1, p1.2, m2.1, m2.2, e1.symm⟩))⟩
    · refine (of_p5_1 a0 a1 a2 n0 k0 n1 k1 n2 k2 (zs 0) (zs 1) wh f kd off n size xl s (by omega) hsz hf hwh hw8 hf2 w).mono fun e w' h => ?_
      rw [← e2] at h
      exact of_parts (.inl rfl) hs9 (by omega) h
    · refine (of_p6_1 a0 a1 a2 n0 k0 n1 k1 n2 k2 (zs 0) (zs 1) wh f kd off n size xl s (by omega) hsz hf hwh hw8 hf2 w).mono fun e w' h => ?_
      rw [← e2] at h
      exact of_parts (.inr rfl) hs9 (by omega) h

/-- What comes of it, where no error is returned. -/
def DoneSpec (w w' : World) (F' : List Nat) (f2 : Nat) (y' : TxS) (x : DevS) (ls : Nat → List Int) (tx : Nat → ByteArray) (s : ByteArray) (cw co cn : Int) (LA : Option Addr) (ln lk : Nat) (t : ByteArray) (z : Int) (ls' : Nat → List Int) (tx' : Nat → ByteArray) : Prop :=
  BookOk y' x (ls' 0) (ls' 1) (ls' 2) (tx' 0) (tx' 1) ∧
  ((cw = 0 ∧ ∃ L, ln = L.length ∧ Keeps w' F' LA lk L ∧ (∀ a, LA = some a → w.heap.size ≤ a.block) ∧ ls' = upd ls f2 L ∧ tx' = upd tx f2 (dwText (tx f2) s co (tx f2).size) ∧ z = (dwText (tx f2) s co (tx f2).size).size) ∨
   (cw = 2 ∧ ∃ L, ln = L.length ∧ Keeps w' F' LA lk L ∧ (∀ a, LA = some a → w.heap.size ≤ a.block) ∧ ls' = upd ls f2 L ∧ tx' = upd tx f2 (dcText (tx f2) cn (tx f2).size) ∧ cn = (dcText (tx f2) cn (tx f2).size).size) ∨
   (cw = 3 ∧ ls' = ls ∧ tx' = tx ∧ t = (tx f2).extract (min co (tx f2).size).toNat (min co (tx f2).size + min cn ((tx f2).size - min co (tx f2).size)).toNat) ∨
   (cw = 5 ∧ ∃ L, ln = L.length ∧ Keeps w' F' LA lk L ∧ (∀ a, LA = some a → w.heap.size ≤ a.block) ∧ ls' = upd ls 2 L ∧ tx' = tx) ∨
   (cw = 6 ∧ ls' = ls ∧ tx' = tx))
def DonePost (w : World) (T : Nat) (F : List Nat) (D : Nat) (B : List Nat) (f2 : Nat) (x : DevS) (ls : Nat → List Int) (tx : Nat → ByteArray) (s : ByteArray) (cw co cn : Int) (e : Ending) (w' : World) : Prop :=
  ∃ LA ln lk pv t z E y' F', e = .returned (.agg (ansC (.slice LA ln lk) pv t z E)) ∧ (∃ PA pn pk, pv = .slice PA pn pk) ∧ TD w' T F' D y' B x ∧ Grow w F w' F' ∧ (E = 0 → ∃ ls' tx', DoneSpec w w' F' f2 y' x ls tx s cw co cn LA ln lk t z ls' tx')

theorem BookOk.putF {y y2 : TxS} {x : DevS} {ls : Nat → List Int} {tx : Nat → ByteArray} {f2 : Nat} {L : List Int} {t : ByteArray} (hf : f2 < 2) (h : BookOk y x (ls 0) (ls 1) (ls 2) (tx 0) (tx 1)) (hst : Stored y y2 x 8 (ls f2) L (cutsL t)) (hz : t.size ≤ 768) :
    BookOk y2 x (upd ls f2 L 0) (upd ls f2 L 1) (upd ls f2 L 2) (upd tx f2 t 0) (upd tx f2 t 1) := by
  rcases two f2 hf with rfl | rfl
  · exact h.put0 hst hz
  · exact h.put1 hst hz
theorem BookOk.lst {y : TxS} {x : DevS} {ls : Nat → List Int} {tx : Nat → ByteArray} (h : BookOk y x (ls 0) (ls 1) (ls 2) (tx 0) (tx 1)) {f2 : Nat} (hf : f2 < 2) : Lst y (ls f2) ∧ Holds y x 8 (ls f2) (tx f2) := by
  rcases two f2 hf with rfl | rfl
  · exact ⟨h.a0, h.h0⟩
  · exact ⟨h.a1, h.h1⟩

end Go.Proofs.YtljmdcegcckblaaGreatDoor
/- The laws of layer 12: kept and far, in one form. -/
namespace Go.Proofs.YtljmdcegcckblaaGreatDoor
open Go.RowKit Go.Maps

theorem kept_act (sl : Nat → Value) (zs : Nat → Int) (a0 a1 a2 la : Option Addr) (n0 k0 n1 k1 n2 k2 ln lk : Nat) (wh f kd off n size : Int) (xl : Value) (s : ByteArray) (cw ck cz co cn : Int) (cl : Value) (cp pv : Value) (t : ByteArray) (z : Int) (hf : 0 ≤ f ∧ f ≤ 255) (hwh : 0 ≤ wh ∧ wh ≤ 255) (hw7 : wh % 8 ≠ 7) (f2 : Nat) (hf2 : f % 2 = f2)
    (e0 : sl 0 = .slice a0 n0 k0) (e1 : sl 1 = .slice a1 n1 k1) (e2 : sl 2 = .slice a2 n2 k2) (hcw : cw = 0 ∨ cw = 2 ∨ cw = 3 ∨ cw = 5 ∨ cw = 6) (w : World) :
    Calls Tryz.prog 13 #[.agg (bookC (.slice a0 n0 k0) (.slice a1 n1 k1) (.slice a2 n2 k2) (zs 0) (zs 1)), .agg (actC wh f kd off n size xl s), .agg (callC cw ck cz co cn cl s cp), .agg (ansC (.slice la ln lk) pv t z 0)] w fun e w' =>
      ∃ sl' zs', e = .returned (.agg (bookC (sl' 0) (sl' 1) (sl' 2) (zs' 0) (zs' 1))) ∧ Below w.heap.size w w' ∧ ((cw = 0 ∧ sl' = upd sl f2 (.slice la ln lk) ∧ zs' = upd zs f2 z) ∨ (cw = 2 ∧ sl' = upd sl f2 (.slice la ln lk) ∧ zs' = upd zs f2 cn) ∨ (cw = 5 ∧ sl' = upd sl 2 (.slice la ln lk) ∧ zs' = zs) ∨ ((cw = 3 ∨ cw = 6) ∧ sl' = sl ∧ zs' = zs)) := by
  have hf3 : f2 = 0 ∨ f2 = 1 := by omega
  rcases hcw with rfl | rfl | rfl | rfl | rfl
  · refine (kept_write a0 a1 a2 la n0 k0 n1 k1 n2 k2 ln lk (zs 0) (zs 1) wh f kd off n size xl s ck cz co cn cl s cp pv t z hf hwh hw7 f2 hf2 w).mono fun e w' ⟨he, hb⟩ => ?_
    refine ⟨_, _, ?_, hb, .inl ⟨rfl, rfl, rfl⟩⟩
    rw [he]
    rcases hf3 with rfl | rfl
    · show Ending.returned (.agg (bookC (.slice la ln lk) (.slice a1 n1 k1) (.slice a2 n2 k2) z (zs 1))) = .returned (.agg (bookC (.slice la ln lk) (sl 1) (sl 2) z (zs 1)))
      rw [e1, e2]
    · show Ending.returned (.agg (bookC (.slice a0 n0 k0) (.slice la ln lk) (.slice a2 n2 k2) (zs 0) z)) = .returned (.agg (bookC (sl 0) (.slice la ln lk) (sl 2) (zs 0) z))
      rw [e0, e2]
  · refine (kept_cut a0 a1 a2 la n0 k0 n1 k1 n2 k2 ln lk (zs 0) (zs 1) wh f kd off n size xl s ck cz co cn cl s cp pv t z hf hwh hw7 f2 hf2 w).mono fun e w' ⟨he, hb⟩ => ?_
    refine ⟨_, _, ?_, hb, .inr (.inl ⟨rfl, rfl, rfl⟩)⟩
    rw [he]
    rcases hf3 with rfl | rfl
    · show Ending.returned (.agg (bookC (.slice la ln lk) (.slice a1 n1 k1) (.slice a2 n2 k2) cn (zs 1))) = .returned (.agg (bookC (.slice la ln lk) (sl 1) (sl 2) cn (zs 1)))
      rw [e1, e2]
    · show Ending.returned (.agg (bookC (.slice a0 n0 k0) (.slice la ln lk) (.slice a2 n2 k2) (zs 0) cn)) = .returned (.agg (bookC (sl 0) (.slice la ln lk) (sl 2) (zs 0) cn))
      rw [e0, e2]
  · refine (kept_none a0 a1 a2 la n0 k0 n1 k1 n2 k2 ln lk (zs 0) (zs 1) wh f kd off n size xl s 3 ck cz co cn cl s cp pv t z 0 hf hwh hw7 (.inl rfl) w).mono fun e w' ⟨he, hb⟩ => ?_
    exact ⟨sl, zs, by rw [he, e0, e1, e2], hb, .inr (.inr (.inr ⟨.inl rfl, rfl, rfl⟩))⟩
  · refine (kept_store a0 a1 a2 la n0 k0 n1 k1 n2 k2 ln lk (zs 0) (zs 1) wh f kd off n size xl s 5 ck cz co cn cl s cp pv t z 0 hf hwh hw7 w).mono fun e w' ⟨he, hb⟩ => ?_
    refine ⟨_, _, ?_, hb, .inr (.inr (.inl ⟨rfl, rfl, rfl⟩))⟩
    rw [he]
    show Ending.returned (.agg (bookC (.slice a0 n0 k0) (.slice a1 n1 k1) (.slice la ln lk) (zs 0) (zs 1))) = .returned (.agg (bookC (sl 0) (sl 1) (.slice la ln lk) (zs 0) (zs 1)))
    rw [e0, e1]
  · refine (kept_none a0 a1 a2 la n0 k0 n1 k1 n2 k2 ln lk (zs 0) (zs 1) wh f kd off n size xl s 6 ck cz co cn cl s cp pv t z 0 hf hwh hw7 (.inr rfl) w).mono fun e w' ⟨he, hb⟩ => ?_
    exact ⟨sl, zs, by rw [he, e0, e1, e2], hb, .inr (.inr (.inr ⟨.inr rfl, rfl, rfl⟩))⟩

def bigA (a : ActV) : Bool := decide (900 < a.s.size) || decide (20 < a.m)
def farB (xs : List ActV) : Bool := decide (20 < xs.length) || xs.any bigA

set_option maxRecDepth 100000 in
set_option maxHeartbeats 2000000 in
theorem far_any (A : Option Addr) (c : Nat) (xs : List ActV) (hl : xs.length ≤ maxLen) (w : World) (hR : Reads w A (xs.flatMap actL)) :
    Calls Tryz.prog 7 #[.slice A xs.length c, .int .i64 20] w fun e w' => e = .returned (.bool (farB xs)) ∧ Below w.heap.size w w' := by
  unfold maxLen at hl
  by_cases h20 : 20 < xs.length
  · have d0 : decide ((20 : Int) < (xs.length : Int)) = true := decide_eq_true (by omega)
    have HV : Hid (farB xs = true) := Lib.hid (by unfold farB; simp [h20])
    clear h20
    go_enter Tryz.func7, Tryz.ntmps7
    go_wp2_with fail
    go_ret
    exact ⟨by rw [HV.out]; rfl, Below.refl _ _⟩
  have d0 : decide ((20 : Int) < (xs.length : Int)) = false := decide_eq_false (by omega)
  have HFB : Hid (farB xs = xs.any bigA) := Lib.hid (by unfold farB; simp [h20])
  clear h20
  go_enter Tryz.func7, Tryz.ntmps7
  go_wp2_with fail
  go_loopw [5] (fun q wr => ∃ k : Nat, k ≤ xs.length ∧ q = .int .i64 k ∧ (∀ a ∈ xs.take k, bigA a = false) ∧ Below w.heap.size w wr) (fun q _ => xs.length - (RowKit.intOf q).toNat)
  case atStart => exact ⟨0, Nat.zero_le _, rfl, fun _ h => by simp at h, Below.refl _ _⟩
  case round =>
    obtain ⟨k, hk, rfl, hn, hb⟩ := hrel
    by_cases hlt : k < xs.length
    · obtain ⟨b, off, rfl, hbl, -, -, -, -, -, -, c6, c7⟩ := acts_at (hR.below hb) hlt
      have hm := List.getElem_mem hlt
      have HT : Hid (xs.take (k + 1) = xs.take k ++ [xs[k]]) := Lib.hid (List.take_succ_eq_append_getElem hlt)
      generalize xs[k] = a at *
      obtain ⟨wh, f, kd, of, n, size, A, m, ca, s⟩ := a
      simp only at c6 c7
      have HM := Lib.hid hm
      have HN := Lib.hid hn
      have HR := Lib.hid hR
      clear hm hn hR
      by_cases h1 : 900 < s.size
      · have d1 : decide ((900 : Int) < (s.size : Int)) = true := decide_eq_true (by omega)
        have HV : Hid (farB xs = true) := Lib.hid (by rw [HFB.out]; exact List.any_eq_true.2 ⟨_, HM.out, by unfold bigA; simp [h1]⟩)
        clear h1
        go_wp2_with fail
        go_ret
        exact ⟨by rw [HV.out]; rfl, hb⟩
      · have d1 : decide ((900 : Int) < (s.size : Int)) = false := decide_eq_false (by omega)
        by_cases h2 : 20 < m
        · have d2 : decide ((20 : Int) < (m : Int)) = true := decide_eq_true (by omega)
          have HV : Hid (farB xs = true) := Lib.hid (by rw [HFB.out]; exact List.any_eq_true.2 ⟨_, HM.out, by unfold bigA; simp [h2]⟩)
          clear h1 h2
          go_wp2_with fail
          go_ret
          exact ⟨by rw [HV.out]; rfl, hb⟩
        · have d2 : decide ((20 : Int) < (m : Int)) = false := decide_eq_false (by omega)
          have HB : Hid (bigA ⟨wh, f, kd, of, n, size, A, m, ca, s⟩ = false) := Lib.hid (by unfold bigA; simp [h1, h2])
          clear h1 h2
          go_wp2_with fail
          go_roundw
          case rel => exact ⟨k + 1, by omega, by go_num, fun a ha => by
            rw [HT.out] at ha
            rcases List.mem_append.1 ha with ha | ha
            · exact HN.out a ha
            · simp only [List.mem_singleton] at ha; rw [ha]; exact HB.out, hb⟩
          case measure => simp [RowKit.intOf]; omega
    · obtain rfl : k = xs.length := by omega
      have HV : Hid (farB xs = false) := Lib.hid (by
        rw [HFB.out, List.any_eq_false]
        rw [List.take_length] at hn
        intro a ha
        rw [hn a ha]; simp)
      clear hn
      go_wp2_with fail
      go_ret
      exact ⟨by rw [HV.out]; rfl, hb⟩
end Go.Proofs.YtljmdcegcckblaaGreatDoor
/- P12.6: DataArray: between two acts. -/
namespace Go.Proofs.YtljmdcegcckblaaGreatDoor
open Go.RowKit Go.Maps

/-- A transaction on its device; the transaction is younger than the world w0. -/
structure Run (w0 w : World) (T : Nat) (F : List Nat) (D : Nat) (y : TxS) (B : List Nat) (x : DevS) : Prop where
  td : TD w T F D y B x
  bl : Below w0.heap.size w0 w
  fl : ∀ b ∈ F, w0.heap.size ≤ b
section
variable {w0 w w' : World} {T : Nat} {F F' : List Nat} {D : Nat} {y y' : TxS} {B : List Nat} {x : DevS}
theorem Run.below (h : Run w0 w T F D y B x) (hb : Below w.heap.size w w') : Run w0 w' T F D y B x := ⟨h.td.below hb, h.bl.trans (hb.mono h.bl.size), h.fl⟩
theorem Run.did (h : Run w0 w T F D y B x) (ht : TD w' T F' D y' B x) (g : Grow w F w' F') : Run w0 w' T F' D y' B x := ⟨ht, h.bl.trans (g.below h.bl.size h.fl), g.lo h.bl.size h.fl⟩
theorem Run.set_ (h : Run w0 w T F D y B x) {p : Addr} (h1 : p.block ∉ F) (h2 : p.block ∉ B) (h00 : 0 < w0.heap.size) (h0 : w0.heap.size ≤ p.block) (u : Value) : Run w0 (w.setCell p u) T F D y B x :=
  ⟨h.td.set_ h1 h2 (by omega) u, h.bl.setCell h0 u, h.fl⟩
theorem Run.row (h : Run w0 w T F D y B x) {g : Nat} (h1 : g ∉ F) (h2 : g ∉ B) (h00 : 0 < w0.heap.size) (h0 : w0.heap.size ≤ g) (cs : Array Value) : Run w0 (w.setRow g cs) T F D y B x :=
  ⟨h.td.keep (fun b hb => setRow_other w g b cs (fun e => by
    subst e
    rcases hb with hb | hb | hb
    · exact h1 hb
    · exact h2 hb
    · omega)) (by simp), Below.setRow h.bl h0 _, h.fl⟩
end
theorem Keeps.set_ {w : World} {F : List Nat} {A : Option Addr} {c : Nat} {l : List Int} (h : Keeps w F A c l) {p : Addr} (hp : ∀ a, A = some a → a.block ≠ p.block) (u : Value) : Keeps (w.setCell p u) F A c l :=
  ⟨⟨by
    rcases h.sl.reads with h0 | ⟨b, off, e, hl, hc⟩
    · exact .inl h0
    · exact .inr ⟨b, off, e, by simpa using hl, fun j v hv => (World.cell?_of_block (w := w) (a := ⟨b, off + j, none⟩) (Below.heap_setCell w p u b (show b ≠ p.block from hp _ e))).trans (hc j v hv)⟩, h.sl.nil, h.sl.cap⟩,
   fun a e => ⟨(h.out a e).1, by simpa using (h.out a e).2⟩⟩
theorem Keeps.row {w : World} {F : List Nat} {A : Option Addr} {c : Nat} {l : List Int} (h : Keeps w F A c l) {g : Nat} (hp : ∀ a, A = some a → a.block ≠ g) (cs : Array Value) : Keeps (w.setRow g cs) F A c l :=
  ⟨⟨by
    rcases h.sl.reads with h0 | ⟨b, off, e, hl, hc⟩
    · exact .inl h0
    · exact .inr ⟨b, off, e, by simpa using hl, fun j v hv => (World.cell?_of_block (w := w) (a := ⟨b, off + j, none⟩) (setRow_other _ _ _ _ (show b ≠ g from hp _ e))).trans (hc j v hv)⟩, h.sl.nil, h.sl.cap⟩,
   fun a e => ⟨(h.out a e).1, by simpa using (h.out a e).2⟩⟩

def slOf (As : Nat → Option Addr) (cs : Nat → Nat) (ls : Nat → List Int) (k : Nat) : Value := .slice (As k) (ls k).length (cs k)
def zsOf (tx : Nat → ByteArray) (k : Nat) : Int := (tx k).size
/-- The law's own boxes: the book in block N7, the texts in block N8. -/
structure BoxAt (w : World) (F B : List Nat) (N7 N8 : Nat) (ls : Nat → List Int) (zs : Nat → Int) (tx : Nat → ByteArray) (As : Nat → Option Addr) (cs : Nat → Nat) : Prop where
  b7 : Blk w N7 38 (bookC (slOf As cs ls 0) (slOf As cs ls 1) (slOf As cs ls 2) (zs 0) (zs 1))
  b8 : Blk w N8 39 #[.string (tx 0), .string (tx 1)]
  f7 : N7 ∉ F
  f8 : N8 ∉ F
  d7 : N7 ∉ B
  d8 : N8 ∉ B
  ne : N7 ≠ N8
  kp : ∀ k, k < 3 → Keeps w F (As k) (cs k) (ls k)
  k7 : ∀ k a, k < 3 → As k = some a → a.block ≠ N7
  k8 : ∀ k a, k < 3 → As k = some a → a.block ≠ N8
section
variable {w w' : World} {F F' B : List Nat} {N7 N8 : Nat} {ls : Nat → List Int} {zs : Nat → Int} {tx : Nat → ByteArray} {As : Nat → Option Addr} {cs : Nat → Nat}
theorem BoxAt.grow (h : BoxAt w F B N7 N8 ls zs tx As cs) (g : Grow w F w' F') : BoxAt w' F' B N7 N8 ls zs tx As cs :=
  ⟨g.blk h.b7 h.f7, g.blk h.b8 h.f8, g.notin h.f7 h.b7.lt, g.notin h.f8 h.b8.lt, h.d7, h.d8, h.ne, fun k hk => (h.kp k hk).grow g, h.k7, h.k8⟩
theorem BoxAt.below (h : BoxAt w F B N7 N8 ls zs tx As cs) (hb : Below w.heap.size w w') : BoxAt w' F B N7 N8 ls zs tx As cs := h.grow (Grow.of_below hb F)
/-- One of the texts is written. -/
theorem BoxAt.text (h : BoxAt w F B N7 N8 ls zs tx As cs) (f2 : Nat) (hf : f2 < 2) (t : ByteArray) : BoxAt (w.setCell ⟨N8, f2, none⟩ (.string t)) F B N7 N8 ls zs (upd tx f2 t) As cs :=
  ⟨h.b7.far (p := ⟨N8, f2, none⟩) h.ne _, by
    have := h.b8.set_ f2 (.string t)
    rcases two f2 hf with rfl | rfl <;> exact this, h.f7, h.f8, h.d7, h.d8, h.ne, fun k hk => (h.kp k hk).set_ (p := ⟨N8, f2, none⟩) (fun a e => h.k8 k a hk e) _, h.k7, h.k8⟩
/-- The book is written. -/
theorem BoxAt.book (h : BoxAt w F B N7 N8 ls zs tx As cs) {ls' : Nat → List Int} {zs' : Nat → Int} {As' : Nat → Option Addr} {cs' : Nat → Nat} (kp : ∀ k, k < 3 → Keeps w F (As' k) (cs' k) (ls' k)) (k7 : ∀ k a, k < 3 → As' k = some a → a.block ≠ N7) (k8 : ∀ k a, k < 3 → As' k = some a → a.block ≠ N8) :
    BoxAt (w.setRow N7 (bookC (slOf As' cs' ls' 0) (slOf As' cs' ls' 1) (slOf As' cs' ls' 2) (zs' 0) (zs' 1))) F B N7 N8 ls' zs' tx As' cs' :=
  ⟨h.b7.setRow, (setRow_other _ _ _ _ (Ne.symm h.ne)).trans h.b8, h.f7, h.f8, h.d7, h.d8, h.ne, fun k hk => (kp k hk).row (fun a e => k7 k a hk e) _, k7, k8⟩
end
theorem OfSpec.below {w w1 w2 : World} {f2 : Nat} {sl : Nat → Value} {zs : Nat → Int} {cw ck cz co cn : Int} {cl : Value} {P : Option Addr} {pn : Nat} (h : OfSpec w w1 f2 sl zs cw ck cz co cn cl P pn) (hb : Below w1.heap.size w1 w2) : OfSpec w w2 f2 sl zs cw ck cz co cn cl P pn := by
  rcases h with h | h | h | ⟨h1, h2, h3, h4, h5, h6, ps, p1, p2, p3, p4, p5⟩
  · exact .inl h
  · exact .inr (.inl h)
  · exact .inr (.inr (.inl h))
  · exact .inr (.inr (.inr ⟨h1, h2, h3, h4, h5, h6, ps, p1, p2, p3, p4.below hb, fun a e => ⟨(p5 a e).1, Nat.lt_of_lt_of_le (p5 a e).2 hb.size⟩⟩))
theorem OfSpec.row {w w1 : World} {f2 : Nat} {sl : Nat → Value} {zs : Nat → Int} {cw ck cz co cn : Int} {cl : Value} {P : Option Addr} {pn : Nat} (h : OfSpec w w1 f2 sl zs cw ck cz co cn cl P pn) {g : Nat} (hg : ∀ b, w.heap.size ≤ b → b < w1.heap.size → b ≠ g) (cs : Array Value) : OfSpec w (w1.setRow g cs) f2 sl zs cw ck cz co cn cl P pn := by
  rcases h with h | h | h | ⟨h1, h2, h3, h4, h5, h6, ps, p1, p2, p3, p4, p5⟩
  · exact .inl h
  · exact .inr (.inl h)
  · exact .inr (.inr (.inl h))
  · refine .inr (.inr (.inr ⟨h1, h2, h3, h4, h5, h6, ps, p1, p2, p3, ?_, fun a e => ⟨(p5 a e).1, by simpa using (p5 a e).2⟩⟩))
    rcases p4 with h0 | ⟨b, off, e, hl, hc⟩
    · exact .inl h0
    · have hb := p5 _ e
      exact .inr ⟨b, off, e, by simpa using hl, fun j v hv => (World.cell?_of_block (w := w1) (a := ⟨b, off + j, none⟩) (setRow_other _ _ _ _ (hg b hb.1 hb.2))).trans (hc j v hv)⟩
/-- The call's box is made behind the call. -/
theorem OfSpec.made {w w1 w2 : World} {f2 : Nat} {sl : Nat → Value} {zs : Nat → Int} {cw ck cz co cn : Int} {cl : Value} {P : Option Addr} {pn : Nat} (h : OfSpec w w1 f2 sl zs cw ck cz co cn cl P pn) (hb : Below w1.heap.size w1 w2) (cs : Array Value) : OfSpec w (w2.setRow w1.heap.size cs) f2 sl zs cw ck cz co cn cl P pn := by
  rcases h with h | h | h | ⟨h1, h2, h3, h4, h5, h6, ps, p1, p2, p3, p4, p5⟩
  · exact .inl h
  · exact .inr (.inl h)
  · exact .inr (.inr (.inl h))
  · have hz := hb.size
    refine .inr (.inr (.inr ⟨h1, h2, h3, h4, h5, h6, ps, p1, p2, p3, ?_, fun a e => ⟨(p5 a e).1, by have := (p5 a e).2; simp; omega⟩⟩))
    rcases p4.below hb with h0 | ⟨b, off, e, hl, hc⟩
    · exact .inl h0
    · have hb2 : b < w1.heap.size := (p5 _ e).2
      exact .inr ⟨b, off, e, by simpa using hl, fun j v hv => (World.cell?_of_block (w := w2) (a := ⟨b, off + j, none⟩) (setRow_other _ _ _ _ (show b ≠ w1.heap.size by omega))).trans (hc j v hv)⟩
theorem OfSpec.cw {w w1 : World} {f2 : Nat} {sl : Nat → Value} {zs : Nat → Int} {cw ck cz co cn : Int} {cl : Value} {P : Option Addr} {pn : Nat} (h : OfSpec w w1 f2 sl zs cw ck cz co cn cl P pn) : cw = 0 ∨ cw = 2 ∨ cw = 3 ∨ cw = 5 ∨ cw = 6 := by
  rcases h with h | h | h | ⟨h, -⟩
  · exact .inl h.1
  · exact .inr (.inl h.1)
  · exact .inr (.inr (.inl h.1))
  · rcases h with h | h
    · exact .inr (.inr (.inr (.inl h)))
    · exact .inr (.inr (.inr (.inr h)))
theorem OfSpec.clv {w w1 : World} {f2 : Nat} {As : Nat → Option Addr} {cs : Nat → Nat} {ls : Nat → List Int} {zs : Nat → Int} {cw ck cz co cn : Int} {cl : Value} {P : Option Addr} {pn : Nat} (h : OfSpec w w1 f2 (slOf As cs ls) zs cw ck cz co cn cl P pn) : ∃ a n k, cl = .slice a n k := by
  rcases h with h | h | h | ⟨-, -, -, -, -, h, -⟩
  · exact ⟨_, _, _, h.2.2.2.2.2.2⟩
  · exact ⟨_, _, _, h.2.2.2.2.2.2⟩
  · exact ⟨_, _, _, h.2.2.2.2.2.2.2⟩
  · exact ⟨_, _, _, h⟩
/-- Cells of the acts that came in, in every later world. -/
theorem acts_cells {w : World} {b off : Nat} {xs : List ActV} (hR : Reads w (some ⟨b, off, none⟩) (xs.flatMap actL)) {k : Nat} (hk : k < xs.length) :
    ∀ W, Below w.heap.size w W → W.cell? ⟨b, off + k * 8, none⟩ = some (.int .u8 xs[k].wh) ∧ W.cell? ⟨b, off + k * 8 + 1, none⟩ = some (.int .u8 xs[k].f) ∧ W.cell? ⟨b, off + k * 8 + 2, none⟩ = some (.int .i64 xs[k].kd) ∧
      W.cell? ⟨b, off + k * 8 + 3, none⟩ = some (.int .i64 xs[k].off) ∧ W.cell? ⟨b, off + k * 8 + 4, none⟩ = some (.int .i64 xs[k].n) ∧ W.cell? ⟨b, off + k * 8 + 5, none⟩ = some (.int .i64 xs[k].size) ∧ W.cell? ⟨b, off + k * 8 + 6, none⟩ = some (.slice xs[k].A xs[k].m xs[k].c) ∧ W.cell? ⟨b, off + k * 8 + 7, none⟩ = some (.string xs[k].s) := by
  intro W hb
  obtain ⟨b', off', e, h1, h2⟩ := acts_at (hR.below hb) hk
  cases e
  exact h2
theorem slOf_upd (As : Nat → Option Addr) (cs : Nat → Nat) (ls : Nat → List Int) (f : Nat) (A : Option Addr) (c : Nat) (L : List Int) : upd (slOf As cs ls) f (.slice A L.length c) = slOf (upd As f A) (upd cs f c) (upd ls f L) := by
  funext k
  unfold slOf upd
  by_cases h : k = f <;> simp [h]
theorem zsOf_upd (tx : Nat → ByteArray) (f : Nat) (t : ByteArray) : upd (zsOf tx) f (t.size : Int) = zsOf (upd tx f t) := by
  funext k
  unfold zsOf upd
  by_cases h : k = f <;> simp [h]
/-- The lists, one of them new. -/
theorem keeps_upd {w : World} {F : List Nat} {As : Nat → Option Addr} {cs : Nat → Nat} {ls : Nat → List Int} {f : Nat} {A : Option Addr} {c : Nat} {L : List Int} (h : ∀ k, k < 3 → Keeps w F (As k) (cs k) (ls k)) (hn : Keeps w F A c L) : ∀ k, k < 3 → Keeps w F (upd As f A k) (upd cs f c k) (upd ls f L k) := fun k hk => by
  unfold upd
  by_cases e : k = f
  · rw [if_pos e, if_pos e, if_pos e]; exact hn
  · rw [if_neg e, if_neg e, if_neg e]; exact h k hk
theorem layout_rg (j i : Int) : rgE 64 (8 + j % 21) (1 + i % 26) = 0 := by
  have h1 : 0 ≤ j % 21 ∧ j % 21 ≤ 20 := by omega
  have h2 : 0 ≤ i % 26 ∧ i % 26 ≤ 25 := by omega
  exact rgE_0 (by omega) (by omega)
end Go.Proofs.YtljmdcegcckblaaGreatDoor
