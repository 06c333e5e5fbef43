/- Parts of the proof, put together by program: DC, DD, DE, DK, DF, DG. -/
import Derived.Test.YtljmdcegcckblaaGreatDoorPart42
import Derived.Test.YtljmdcegcckblaaGreatDoorPart43
import Derived.Test.YtljmdcegcckblaaGreatDoorPart44
import Derived.Test.YtljmdcegcckblaaGreatDoorPart47
import Derived.Test.YtljmdcegcckblaaGreatDoorPart48
import Derived.Test.YtljmdcegcckblaaGreatDoorPart49
import Derived.Test.YtljmdcegcckblaaGreatDoorPart50
import Derived.BigQuiet
import Derived.Test.YtljmdcegcckblaaGreatDoorPart06
import Derived.Deep.CutRange
import Derived.Deep.CutBlock
/- The laws of layer 12: acts that came in; what they ask, and what comes of it, in one form. -/
namespace Go.Proofs.YtljmdcegcckblaaGreatDoor
open Go.RowKit Go.Maps

theorem acts_at {w : World} {A : Option Addr} {xs : List ActV} (h : Reads w A (xs.flatMap actL)) {k : Nat} (hk : k < xs.length) :
    ∃ b off, A = some ⟨b, off, none⟩ ∧ b < w.heap.size ∧ w.cell? ⟨b, off + k * 8, none⟩ = some (.int .u8 xs[k].wh) ∧ w.cell? ⟨b, off + k * 8 + 1, none⟩ = some (.int .u8 xs[k].f) ∧ w.cell? ⟨b, off + k * 8 + 2, none⟩ = some (.int .i64 xs[k].kd) ∧
      w.cell? ⟨b, off + k * 8 + 3, none⟩ = some (.int .i64 xs[k].off) ∧ w.cell? ⟨b, off + k * 8 + 4, none⟩ = some (.int .i64 xs[k].n) ∧ w.cell? ⟨b, off + k * 8 + 5, none⟩ = some (.int .i64 xs[k].size) ∧ w.cell? ⟨b, off + k * 8 + 6, none⟩ = some (.slice xs[k].A xs[k].m xs[k].c) ∧ w.cell? ⟨b, off + k * 8 + 7, none⟩ = some (.string xs[k].s) := by
  have hg : ∀ j, j < 8 → (xs.flatMap actL)[k * 8 + j]? = (actL xs[k])[j]? := fun j hj => flat_get (f := actL) (m := 8) (fun _ _ => rfl) hj hk
  rcases h with h | ⟨b, off, hA, hlt, hc⟩
  · exfalso
    have := hg 0 (by omega)
    rw [h] at this
    simp [actL] at this
  · have g : ∀ j u, j < 8 → (actL xs[k])[j]? = some u → w.cell? ⟨b, off + k * 8 + j, none⟩ = some u := fun j u hj hu => by rw [Nat.add_assoc]; exact hc _ _ ((hg j hj).trans hu)
    exact ⟨b, off, hA, hlt, g 0 _ (by omega) rfl, g 1 _ (by omega) rfl, g 2 _ (by omega) rfl, g 3 _ (by omega) rfl, g 4 _ (by omega) rfl, g 5 _ (by omega) rfl, g 6 _ (by omega) rfl, g 7 _ (by omega) rfl⟩

/-- A value of an index turned. -/
def upd {α : Type} (g : Nat → α) (i : Nat) (v : α) (k : Nat) : α := if k = i then v else g k
theorem upd_same {α : Type} (g : Nat → α) (i : Nat) (v : α) : upd g i v i = v := if_pos rfl
theorem upd_other {α : Type} (g : Nat → α) {i k : Nat} (v : α) (h : k ≠ i) : upd g i v k = g k := if_neg h
theorem two (f2 : Nat) (h : f2 < 2) : f2 = 0 ∨ f2 = 1 := by omega

/-- What is asked: the lists, their slices and the sizes of the strings being given. -/
def OfSpec (w w' : World) (f2 : Nat) (sl : Nat → Value) (zs : Nat → Int) (cw ck cz co cn : Int) (cl : Value) (P : Option Addr) (pn : Nat) : Prop :=
  (cw = 0 ∧ ck = 8 ∧ cz = zs f2 ∧ 0 ≤ co ∧ co ≤ cz ∧ cn = 0 ∧ cl = sl f2) ∨
  (cw = 2 ∧ ck = 8 ∧ cz = zs f2 ∧ co = 0 ∧ 0 ≤ cn ∧ cn < 800 ∧ cl = sl f2) ∨
  (cw = 3 ∧ ck = 8 ∧ cz = zs f2 ∧ 0 ≤ co ∧ co ≤ cz ∧ 0 ≤ cn ∧ cn < 800 ∧ cl = sl f2) ∨
  ((cw = 5 ∨ cw = 6) ∧ ck = 7 ∧ cz = zs f2 ∧ co = 0 ∧ cn = 0 ∧ cl = sl 2 ∧ ∃ ps : List ByteArray, ps.length = pn ∧ pn ≤ 901 ∧ (∀ p ∈ ps, p.size ≤ 1000) ∧ Reads w' P (ps.map .string) ∧ ∀ a, P = some a → w.heap.size ≤ a.block ∧ a.block < w'.heap.size)
def OfPost (w : World) (f2 : Nat) (sl : Nat → Value) (zs : Nat → Int) (s : ByteArray) (e : Ending) (w' : World) : Prop :=
  Below w.heap.size w w' ∧ ∃ cw ck cz co cn cl P pn pc, e = .returned (.agg (callC cw ck cz co cn cl s (.slice P pn pc))) ∧ OfSpec w w' f2 sl zs cw ck cz co cn cl P pn

theorem of_parts {w : World} {f2 : Nat} {sl : Nat → Value} {zs : Nat → Int} {s : ByteArray} {C : Int} {q1 : Nat} {e : Ending} {w' : World} (hC : C = 5 ∨ C = 6) (hs : s.size ≤ 900) (hq : 1 ≤ q1) (h : OfParts w C (zs f2) (sl 2) s q1 e w') : OfPost w f2 sl zs s e w' := by
  obtain ⟨hb, kk, pv, rfl, h1, h2, -, ho⟩ := h
  obtain ⟨P, pc, rfl⟩ := own_slice ho
  have hkk : kk ≤ 900 := by
    have : 1 * kk ≤ q1 * kk := Nat.mul_le_mul_right _ hq
    omega
  refine ⟨hb, C, 7, zs f2, 0, 0, sl 2, P, kk + 1, pc, rfl, .inr (.inr (.inr ⟨hC, rfl, rfl, rfl, rfl, rfl, piecesL s q1 kk ++ [restN s q1 kk], by rw [List.length_append, piecesL_length]; rfl, by omega, fun p hp => ?_, Reads.of_own ho, fun a e => ?_⟩))⟩
  · rcases List.mem_append.1 hp with hp | hp
    · unfold piecesL at hp
      obtain ⟨i, -, rfl⟩ := List.mem_map.1 hp
      unfold pieceAt
      rw [ByteArray.size_extract]; omega
    · simp only [List.mem_singleton] at hp
      subst hp
      rw [restN_size]; omega
  · subst e
    exact own_lt ho a.block rfl

theorem of_act (a0 a1 a2 : Option Addr) (n0 k0 n1 k1 n2 k2 : Nat) (zs : Nat → Int) (wh f kd off n size : Int) (xl : Value) (s : ByteArray) (hs9 : s.size ≤ 900) (hz : ∀ k, k < 2 → 0 ≤ zs k ∧ zs k ≤ 10000) (hoff : -9223372036854775808 ≤ off ∧ off ≤ 9223372036854775807) (hn : -9223372036854775808 ≤ n ∧ n ≤ 9223372036854775807) (hsz : -9223372036854775808 ≤ size ∧ size ≤ 9223372036854775807)
    (hf : 0 ≤ f ∧ f ≤ 255) (hwh : 0 ≤ wh ∧ wh ≤ 255) (hw7 : wh % 8 ≠ 7) (f2 : Nat) (hf2 : f % 2 = f2) (sl : Nat → Value) (e0 : sl 0 = .slice a0 n0 k0) (e1 : sl 1 = .slice a1 n1 k1) (e2 : sl 2 = .slice a2 n2 k2) (w : World) :
    Calls Tryz.prog 11 #[.agg (actC wh f kd off n size xl s), .agg (bookC (.slice a0 n0 k0) (.slice a1 n1 k1) (.slice a2 n2 k2) (zs 0) (zs 1))] w (OfPost w f2 sl zs s) := by
  have hz0 := hz 0 (by omega)
  have hz1 := hz 1 (by omega)
  have hf3 : f2 = 0 ∨ f2 = 1 := by omega
  have hw8 : wh % 8 = 0 ∨ wh % 8 = 1 ∨ wh % 8 = 2 ∨ wh % 8 = 3 ∨ wh % 8 = 4 ∨ wh % 8 = 5 ∨ wh % 8 = 6 := by omega
  have m1 : ∀ z : Int, 0 ≤ z → 0 ≤ off % (z + 1) ∧ off % (z + 1) ≤ z := fun z h => ⟨Int.emod_nonneg _ (by omega), by have := Int.emod_lt_of_pos off (show 0 < z + 1 by omega); omega⟩
  have m2 : 0 ≤ n % 800 ∧ n % 800 < 800 := by omega
  rcases hf3 with rfl | rfl
  · have p1 := m1 _ hz0.1
    rcases hw8 with hw8 | hw8 | hw8 | hw8 | hw8 | hw8 | hw8
    · refine (of_w0_0 a0 a1 a2 n0 k0 n1 k1 n2 k2 (zs 0) (zs 1) wh f kd off n size xl s hz0 hoff hf hwh hw8 hf2 w).mono fun e w' ⟨he, hb⟩ => ?_
      exact ⟨hb, 0, 8, zs 0, _, 0, _, none, 0, 0, he, .inl ⟨rfl, rfl, rfl, p1.1, p1.2, rfl, e0.symm⟩⟩
    · refine (of_w1_0 a0 a1 a2 n0 k0 n1 k1 n2 k2 (zs 0) (zs 1) wh f kd off n size xl s hz0 hoff hf hwh hw8 hf2 w).mono fun e w' ⟨he, hb⟩ => ?_
      exact ⟨hb, 0, 8, zs 0, _, 0, _, none, 0, 0, he, .inl ⟨rfl, rfl, rfl, p1.1, p1.2, rfl, e0.symm⟩⟩
    · refine (of_c_0 a0 a1 a2 n0 k0 n1 k1 n2 k2 (zs 0) (zs 1) wh f kd off n size xl s hn hf hwh hw8 hf2 w).mono fun e w' ⟨he, hb⟩ => ?_
      exact ⟨hb, 2, 8, zs 0, 0, _, _, none, 0, 0, he, .inr (.inl ⟨rfl, rfl, rfl, rfl, m2.1, m2.2, e0.symm⟩)⟩
    · refine (of_r3_0 a0 a1 a2 n0 k0 n1 k1 n2 k2 (zs 0) (zs 1) wh f kd off n size xl s hz0 hoff hn hf hwh hw8 hf2 w).mono fun e w' ⟨he, hb⟩ => ?_
      exact ⟨hb, 3, 8, zs 0, _, _, _, none, 0, 0, he, .inr (.inr (.inl ⟨rfl, rfl, rfl, p1.1, p1.2, m2.1, m2.2, e0.symm⟩))⟩
    · refine (of_r4_0 a0 a1 a2 n0 k0 n1 k1 n2 k2 (zs 0) (zs 1) wh f kd off n size xl s hz0 hoff hn hf hwh hw8 hf2 w).mono fun e w' ⟨he, hb⟩ => ?_
      exact ⟨hb, 3, 8, zs 0, _, _, _, none, 0, 0, he, .inr (.inr (.inl ⟨rfl, rfl, rfl, p1.1, p1.2, m2.1, m2.2, e0.symm⟩))⟩
    · refine (of_p5_0 a0 a1 a2 n0 k0 n1 k1 n2 k2 (zs 0) (zs 1) wh f kd off n size xl s (by omega) hsz hf hwh hw8 hf2 w).mono fun e w' h => ?_
      rw [← e2] at h
      exact of_parts (.inl rfl) hs9 (by omega) h
    · refine (of_p6_0 a0 a1 a2 n0 k0 n1 k1 n2 k2 (zs 0) (zs 1) wh f kd off n size xl s (by omega) hsz hf hwh hw8 hf2 w).mono fun e w' h => ?_
      rw [← e2] at h
      exact of_parts (.inr rfl) hs9 (by omega) h
  · have p1 := m1 _ hz1.1
    rcases hw8 with hw8 | hw8 | hw8 | hw8 | hw8 | hw8 | hw8
    · refine (of_w0_1 a0 a1 a2 n0 k0 n1 k1 n2 k2 (zs 0) (zs 1) wh f kd off n size xl s hz1 hoff hf hwh hw8 hf2 w).mono fun e w' ⟨he, hb⟩ => ?_
      exact ⟨hb, 0, 8, zs 1, _, 0, _, none, 0, 0, he, .inl ⟨rfl, rfl, rfl, p1.1, p1.2, rfl, e1.symm⟩⟩
    · refine (of_w1_1 a0 a1 a2 n0 k0 n1 k1 n2 k2 (zs 0) (zs 1) wh f kd off n size xl s hz1 hoff hf hwh hw8 hf2 w).mono fun e w' ⟨he, hb⟩ => ?_
      exact ⟨hb, 0, 8, zs 1, _, 0, _, none, 0, 0, he, .inl ⟨rfl, rfl, rfl, p1.1, p1.2, rfl, e1.symm⟩⟩
    · refine (of_c_1 a0 a1 a2 n0 k0 n1 k1 n2 k2 (zs 0) (zs 1) wh f kd off n size xl s hn hf hwh hw8 hf2 w).mono fun e w' ⟨he, hb⟩ => ?_
      exact ⟨hb, 2, 8, zs 1, 0, _, _, none, 0, 0, he, .inr (.inl ⟨rfl, rfl, rfl, rfl, m2.1, m2.2, e1.symm⟩)⟩
    · refine (of_r3_1 a0 a1 a2 n0 k0 n1 k1 n2 k2 (zs 0) (zs 1) wh f kd off n size xl s hz1 hoff hn hf hwh hw8 hf2 w).mono fun e w' ⟨he, hb⟩ => ?_
      exact ⟨hb, 3, 8, zs 1, _, _, _, none, 0, 0, he, .inr (.inr (.inl ⟨rfl, rfl, rfl, p1.1, p1.2, m2.1, m2.2, e1.symm⟩))⟩
    · refine (of_r4_1 a0 a1 a2 n0 k0 n1 k1 n2 k2 (zs 0) (zs 1) wh f kd off n size xl s hz1 hoff hn hf hwh hw8 hf2 w).mono fun e w' ⟨he, hb⟩ => ?_
      exact ⟨hb, 3, 8, zs 1, _, _, _, none, 0, 0, he, .inr (.inr (.inl ⟨rfl, rfl, rfl, p1.1, p1.2, m2.1, m2.2, e1.symm⟩))⟩
    · refine (of_p5_1 a0 a1 a2 n0 k0 n1 k1 n2 k2 (zs 0) (zs 1) wh f kd off n size xl s (by omega) hsz hf hwh hw8 hf2 w).mono fun e w' h => ?_
      rw [← e2] at h
      exact of_parts (.inl rfl) hs9 (by omega) h
    · refine (of_p6_1 a0 a1 a2 n0 k0 n1 k1 n2 k2 (zs 0) (zs 1) wh f kd off n size xl s (by omega) hsz hf hwh hw8 hf2 w).mono fun e w' h => ?_
      rw [← e2] at h
      exact of_parts (.inr rfl) hs9 (by omega) h

/-- What comes of it, where no error is returned. -/
def DoneSpec (w w' : World) (F' : List Nat) (f2 : Nat) (y' : TxS) (x : DevS) (ls : Nat → List Int) (tx : Nat → ByteArray) (s : ByteArray) (cw co cn : Int) (LA : Option Addr) (ln lk : Nat) (t : ByteArray) (z : Int) (ls' : Nat → List Int) (tx' : Nat → ByteArray) : Prop :=
  BookOk y' x (ls' 0) (ls' 1) (ls' 2) (tx' 0) (tx' 1) ∧
  ((cw = 0 ∧ ∃ L, ln = L.length ∧ Keeps w' F' LA lk L ∧ (∀ a, LA = some a → w.heap.size ≤ a.block) ∧ ls' = upd ls f2 L ∧ tx' = upd tx f2 (dwText (tx f2) s co (tx f2).size) ∧ z = (dwText (tx f2) s co (tx f2).size).size) ∨
   (cw = 2 ∧ ∃ L, ln = L.length ∧ Keeps w' F' LA lk L ∧ (∀ a, LA = some a → w.heap.size ≤ a.block) ∧ ls' = upd ls f2 L ∧ tx' = upd tx f2 (dcText (tx f2) cn (tx f2).size) ∧ cn = (dcText (tx f2) cn (tx f2).size).size) ∨
   (cw = 3 ∧ ls' = ls ∧ tx' = tx ∧ t = (tx f2).extract (min co (tx f2).size).toNat (min co (tx f2).size + min cn ((tx f2).size - min co (tx f2).size)).toNat) ∨
   (cw = 5 ∧ ∃ L, ln = L.length ∧ Keeps w' F' LA lk L ∧ (∀ a, LA = some a → w.heap.size ≤ a.block) ∧ ls' = upd ls 2 L ∧ tx' = tx) ∨
   (cw = 6 ∧ ls' = ls ∧ tx' = tx))
def DonePost (w : World) (T : Nat) (F : List Nat) (D : Nat) (B : List Nat) (f2 : Nat) (x : DevS) (ls : Nat → List Int) (tx : Nat → ByteArray) (s : ByteArray) (cw co cn : Int) (e : Ending) (w' : World) : Prop :=
  ∃ LA ln lk pv t z E y' F', e = .returned (.agg (ansC (.slice LA ln lk) pv t z E)) ∧ (∃ PA pn pk, pv = .slice PA pn pk) ∧ TD w' T F' D y' B x ∧ Grow w F w' F' ∧ (E = 0 → ∃ ls' tx', DoneSpec w w' F' f2 y' x ls tx s cw co cn LA ln lk t z ls' tx')

theorem BookOk.putF {y y2 : TxS} {x : DevS} {ls : Nat → List Int} {tx : Nat → ByteArray} {f2 : Nat} {L : List Int} {t : ByteArray} (hf : f2 < 2) (h : BookOk y x (ls 0) (ls 1) (ls 2) (tx 0) (tx 1)) (hst : Stored y y2 x 8 (ls f2) L (cutsL t)) (hz : t.size ≤ 768) :
    BookOk y2 x (upd ls f2 L 0) (upd ls f2 L 1) (upd ls f2 L 2) (upd tx f2 t 0) (upd tx f2 t 1) := by
  rcases two f2 hf with rfl | rfl
  · exact h.put0 hst hz
  · exact h.put1 hst hz
theorem BookOk.lst {y : TxS} {x : DevS} {ls : Nat → List Int} {tx : Nat → ByteArray} (h : BookOk y x (ls 0) (ls 1) (ls 2) (tx 0) (tx 1)) {f2 : Nat} (hf : f2 < 2) : Lst y (ls f2) ∧ Holds y x 8 (ls f2) (tx f2) := by
  rcases two f2 hf with rfl | rfl
  · exact ⟨h.a0, h.h0⟩
  · exact ⟨h.a1, h.h1⟩

set_option maxHeartbeats 1000000 in
theorem done_act (T : Nat) (F : List Nat) (D : Nat) (y : TxS) (B : List Nat) (x : DevS) (f2 : Nat) (hf : f2 < 2) (ls : Nat → List Int) (tx : Nat → ByteArray) (As : Nat → Option Addr) (cs : Nat → Nat) (s : ByteArray) (hs : s.size ≤ 1000) (cw ck cz co cn : Int) (cl : Value) (P : Option Addr) (pn pc : Nat) (w0 w1 w : World)
    (h : TD w T F D y B x) (hbk : BookOk y x (ls 0) (ls 1) (ls 2) (tx 0) (tx 1)) (hk : ∀ k, k < 3 → Keeps w F (As k) (cs k) (ls k)) (hF : ∀ b ∈ F, b < w0.heap.size) (h1 : Below w1.heap.size w1 w)
    (hq : OfSpec w0 w1 f2 (fun k => .slice (As k) (ls k).length (cs k)) (fun k => ((tx k).size : Int)) cw ck cz co cn cl P pn) :
    Calls Tryz.prog 12 #[.pointer (some ⟨T, 0, none⟩), .agg (callC cw ck cz co cn cl s (.slice P pn pc))] w (DonePost w T F D B f2 x ls tx s cw co cn) := by
  have ok := h.tx.ok
  have hst := hbk.st
  obtain ⟨hl, hh⟩ := hbk.lst hf
  have hz768 := hh.sz
  have hll : (ls f2).length ≤ 1000 := by rw [hh.len]; have := nCuts_le hh.sz; omega
  have h2l : (ls 2).length ≤ 1000 := by have := hbk.len2; omega
  rcases hq with ⟨rfl, rfl, rfl, q1, q2, rfl, rfl⟩ | ⟨rfl, rfl, rfl, rfl, q1, q2, rfl⟩ | ⟨rfl, rfl, rfl, q1, q2, q3, q4, rfl⟩ | ⟨q, rfl, rfl, rfl, rfl, rfl, ps, rfl, q1, q2, q3, q4⟩
  · have q2' : co ≤ (tx f2).size := q2
    refine (done_write T F D y B x 8 (tx f2).size co 0 (As f2) (cs f2) (ls f2) hll s _ (by omega) (by omega) (by omega) w h (hk f2 (by omega)).sl).mono fun e w' ⟨v, he, ho, F', ht, g, hv⟩ => ?_
    obtain ⟨A, c, rfl, hkp⟩ := Keeps.of_did ho hv
    have hge : ∀ a, A = some a → w.heap.size ≤ a.block := fun a e => by subst e; exact (own_lt ho a.block rfl).1
    refine ⟨A, _, c, _, _, _, _, _, F', he, ⟨_, _, _, rfl⟩, ht, g, fun hE => ?_⟩
    obtain ⟨w1, w2, w3⟩ := write_holds ok hst hl hh (by omega) ⟨q1, q2⟩ hE
    exact ⟨_, _, hbk.putF hf w1 w2, .inl ⟨rfl, _, rfl, hkp, hge, rfl, rfl, w3⟩⟩
  · refine (done_cut T F D y B x 8 (tx f2).size 0 cn (As f2) (cs f2) (ls f2) hll s _ (by omega) (by omega) w h (hk f2 (by omega)).sl).mono fun e w' ⟨v, he, ho, F', ht, g, hv⟩ => ?_
    obtain ⟨A, c, rfl, hkp⟩ := Keeps.of_did ho hv
    have hge : ∀ a, A = some a → w.heap.size ≤ a.block := fun a e => by subst e; exact (own_lt ho a.block rfl).1
    refine ⟨A, _, c, _, _, _, _, _, F', he, ⟨_, _, _, rfl⟩, ht, g, fun hE => ?_⟩
    obtain ⟨w1, w2, w3, w4⟩ := cut_holds ok hst hl hh hE
    exact ⟨_, _, hbk.putF hf w1 (by omega), .inr (.inl ⟨rfl, _, rfl, hkp, hge, rfl, rfl, by omega⟩)⟩
  · have q2' : co ≤ (tx f2).size := q2
    refine (done_read T F D y B x 8 (tx f2).size co cn (As f2) (cs f2) (ls f2) hll s _ (by omega) w h (hk f2 (by omega)).sl).mono fun e w' ⟨he, hb⟩ => ?_
    rw [read_holds hst hl hh q1 q3] at he
    exact ⟨none, 0, 0, _, _, _, _, y, F, he, ⟨_, _, _, rfl⟩, h.below hb, Grow.of_below hb F, fun _ => ⟨ls, tx, hbk, .inr (.inr (.inl ⟨rfl, rfl, rfl, rfl⟩))⟩⟩
  · rcases q with rfl | rfl
    · refine (done_store T F D y B x 7 (tx f2).size 0 0 (As 2) (cs 2) (ls 2) h2l s w h (hk 2 (by omega)).sl P pc ps (by omega) (fun p hp => by have := q2 p hp; omega) (q3.below h1) (fun a e => ⟨fun hm => by have := hF _ hm; have := (q4 a e).1; omega, Nat.lt_of_lt_of_le (q4 a e).2 h1.size⟩)).mono fun e w' ⟨v, he, ho, F', ht, g, hv⟩ => ?_
      obtain ⟨A, c, rfl, hkp⟩ := Keeps.of_did ho hv
      have hge : ∀ a, A = some a → w.heap.size ≤ a.block := fun a e => by subst e; exact (own_lt ho a.block rfl).1
      refine ⟨A, _, c, _, _, _, _, _, F', he, ⟨_, _, _, rfl⟩, ht, g, fun hE => ?_⟩
      obtain ⟨w1, w2⟩ := dstore_good ok hst hbk.a2 hE
      exact ⟨upd ls 2 _, tx, hbk.put2 w1 w2, .inr (.inr (.inr (.inl ⟨rfl, _, rfl, hkp, hge, rfl, rfl⟩)))⟩
    · refine (done_load T F D y B x 7 (tx f2).size 0 0 (As 2) (cs 2) (ls 2) h2l s _ w h (hk 2 (by omega)).sl).mono fun e w' ⟨v, he, ho, hb⟩ => ?_
      obtain ⟨A, c, rfl⟩ := own_slice ho
      exact ⟨none, 0, 0, _, _, _, _, y, F, he, ⟨_, _, _, rfl⟩, h.below hb, Grow.of_below hb F, fun _ => ⟨ls, tx, hbk, .inr (.inr (.inr (.inr ⟨rfl, rfl, rfl⟩)))⟩⟩
end Go.Proofs.YtljmdcegcckblaaGreatDoor
/- The laws of layer 12: kept and far, in one form. -/
namespace Go.Proofs.YtljmdcegcckblaaGreatDoor
open Go.RowKit Go.Maps

theorem kept_act (sl : Nat → Value) (zs : Nat → Int) (a0 a1 a2 la : Option Addr) (n0 k0 n1 k1 n2 k2 ln lk : Nat) (wh f kd off n size : Int) (xl : Value) (s : ByteArray) (cw ck cz co cn : Int) (cl : Value) (cp pv : Value) (t : ByteArray) (z : Int) (hf : 0 ≤ f ∧ f ≤ 255) (hwh : 0 ≤ wh ∧ wh ≤ 255) (hw7 : wh % 8 ≠ 7) (f2 : Nat) (hf2 : f % 2 = f2)
    (e0 : sl 0 = .slice a0 n0 k0) (e1 : sl 1 = .slice a1 n1 k1) (e2 : sl 2 = .slice a2 n2 k2) (hcw : cw = 0 ∨ cw = 2 ∨ cw = 3 ∨ cw = 5 ∨ cw = 6) (w : World) :
    Calls Tryz.prog 13 #[.agg (bookC (.slice a0 n0 k0) (.slice a1 n1 k1) (.slice a2 n2 k2) (zs 0) (zs 1)), .agg (actC wh f kd off n size xl s), .agg (callC cw ck cz co cn cl s cp), .agg (ansC (.slice la ln lk) pv t z 0)] w fun e w' =>
      ∃ sl' zs', e = .returned (.agg (bookC (sl' 0) (sl' 1) (sl' 2) (zs' 0) (zs' 1))) ∧ Below w.heap.size w w' ∧ ((cw = 0 ∧ sl' = upd sl f2 (.slice la ln lk) ∧ zs' = upd zs f2 z) ∨ (cw = 2 ∧ sl' = upd sl f2 (.slice la ln lk) ∧ zs' = upd zs f2 cn) ∨ (cw = 5 ∧ sl' = upd sl 2 (.slice la ln lk) ∧ zs' = zs) ∨ ((cw = 3 ∨ cw = 6) ∧ sl' = sl ∧ zs' = zs)) := by
  have hf3 : f2 = 0 ∨ f2 = 1 := by omega
  rcases hcw with rfl | rfl | rfl | rfl | rfl
  · refine (kept_write a0 a1 a2 la n0 k0 n1 k1 n2 k2 ln lk (zs 0) (zs 1) wh f kd off n size xl s ck cz co cn cl s cp pv t z hf hwh hw7 f2 hf2 w).mono fun e w' ⟨he, hb⟩ => ?_
    refine ⟨_, _, ?_, hb, .inl ⟨rfl, rfl, rfl⟩⟩
    rw [he]
    rcases hf3 with rfl | rfl
    · show Ending.returned (.agg (bookC (.slice la ln lk) (.slice a1 n1 k1) (.slice a2 n2 k2) z (zs 1))) = .returned (.agg (bookC (.slice la ln lk) (sl 1) (sl 2) z (zs 1)))
      rw [e1, e2]
    · show Ending.returned (.agg (bookC (.slice a0 n0 k0) (.slice la ln lk) (.slice a2 n2 k2) (zs 0) z)) = .returned (.agg (bookC (sl 0) (.slice la ln lk) (sl 2) (zs 0) z))
      rw [e0, e2]
  · refine (kept_cut a0 a1 a2 la n0 k0 n1 k1 n2 k2 ln lk (zs 0) (zs 1) wh f kd off n size xl s ck cz co cn cl s cp pv t z hf hwh hw7 f2 hf2 w).mono fun e w' ⟨he, hb⟩ => ?_
    refine ⟨_, _, ?_, hb, .inr (.inl ⟨rfl, rfl, rfl⟩)⟩
    rw [he]
    rcases hf3 with rfl | rfl
    · show Ending.returned (.agg (bookC (.slice la ln lk) (.slice a1 n1 k1) (.slice a2 n2 k2) cn (zs 1))) = .returned (.agg (bookC (.slice la ln lk) (sl 1) (sl 2) cn (zs 1)))
      rw [e1, e2]
    · show Ending.returned (.agg (bookC (.slice a0 n0 k0) (.slice la ln lk) (.slice a2 n2 k2) (zs 0) cn)) = .returned (.agg (bookC (sl 0) (.slice la ln lk) (sl 2) (zs 0) cn))
      rw [e0, e2]
  · refine (kept_none a0 a1 a2 la n0 k0 n1 k1 n2 k2 ln lk (zs 0) (zs 1) wh f kd off n size xl s 3 ck cz co cn cl s cp pv t z 0 hf hwh hw7 (.inl rfl) w).mono fun e w' ⟨he, hb⟩ => ?_
    exact ⟨sl, zs, by rw [he, e0, e1, e2], hb, .inr (.inr (.inr ⟨.inl rfl, rfl, rfl⟩))⟩
  · refine (kept_store a0 a1 a2 la n0 k0 n1 k1 n2 k2 ln lk (zs 0) (zs 1) wh f kd off n size xl s 5 ck cz co cn cl s cp pv t z 0 hf hwh hw7 w).mono fun e w' ⟨he, hb⟩ => ?_
    refine ⟨_, _, ?_, hb, .inr (.inr (.inl ⟨rfl, rfl, rfl⟩))⟩
    rw [he]
    show Ending.returned (.agg (bookC (.slice a0 n0 k0) (.slice a1 n1 k1) (.slice la ln lk) (zs 0) (zs 1))) = .returned (.agg (bookC (sl 0) (sl 1) (.slice la ln lk) (zs 0) (zs 1)))
    rw [e0, e1]
  · refine (kept_none a0 a1 a2 la n0 k0 n1 k1 n2 k2 ln lk (zs 0) (zs 1) wh f kd off n size xl s 6 ck cz co cn cl s cp pv t z 0 hf hwh hw7 (.inr rfl) w).mono fun e w' ⟨he, hb⟩ => ?_
    exact ⟨sl, zs, by rw [he, e0, e1, e2], hb, .inr (.inr (.inr ⟨.inr rfl, rfl, rfl⟩))⟩

def bigA (a : ActV) : Bool := decide (900 < a.s.size) || decide (20 < a.m)
def farB (xs : List ActV) : Bool := decide (20 < xs.length) || xs.any bigA

set_option maxRecDepth 100000 in
set_option maxHeartbeats 2000000 in
theorem far_any (A : Option Addr) (c : Nat) (xs : List ActV) (hl : xs.length ≤ maxLen) (w : World) (hR : Reads w A (xs.flatMap actL)) :
    Calls Tryz.prog 7 #[.slice A xs.length c, .int .i64 20] w fun e w' => e = .returned (.bool (farB xs)) ∧ Below w.heap.size w w' := by
  unfold maxLen at hl
  by_cases h20 : 20 < xs.length
  · have d0 : decide ((20 : Int) < (xs.length : Int)) = true := decide_eq_true (by omega)
    have HV : Hid (farB xs = true) := Lib.hid (by unfold farB; simp [h20])
    clear h20
    go_enter Tryz.func7, Tryz.ntmps7
    go_wp2_with fail
    go_ret
    exact ⟨by rw [HV.out]; rfl, Below.refl _ _⟩
  have d0 : decide ((20 : Int) < (xs.length : Int)) = false := decide_eq_false (by omega)
  have HFB : Hid (farB xs = xs.any bigA) := Lib.hid (by unfold farB; simp [h20])
  clear h20
  go_enter Tryz.func7, Tryz.ntmps7
  go_wp2_with fail
  go_loopw [5] (fun q wr => ∃ k : Nat, k ≤ xs.length ∧ q = .int .i64 k ∧ (∀ a ∈ xs.take k, bigA a = false) ∧ Below w.heap.size w wr) (fun q _ => xs.length - (RowKit.intOf q).toNat)
  case atStart => exact ⟨0, Nat.zero_le _, rfl, fun _ h => by simp at h, Below.refl _ _⟩
  case round =>
    obtain ⟨k, hk, rfl, hn, hb⟩ := hrel
    by_cases hlt : k < xs.length
    · obtain ⟨b, off, rfl, hbl, -, -, -, -, -, -, c6, c7⟩ := acts_at (hR.below hb) hlt
      have hm := List.getElem_mem hlt
      have HT : Hid (xs.take (k + 1) = xs.take k ++ [xs[k]]) := Lib.hid (List.take_succ_eq_append_getElem hlt)
      generalize xs[k] = a at *
      obtain ⟨wh, f, kd, of, n, size, A, m, ca, s⟩ := a
      simp only at c6 c7
      have HM := Lib.hid hm
      have HN := Lib.hid hn
      have HR := Lib.hid hR
      clear hm hn hR
      by_cases h1 : 900 < s.size
      · have d1 : decide ((900 : Int) < (s.size : Int)) = true := decide_eq_true (by omega)
        have HV : Hid (farB xs = true) := Lib.hid (by rw [HFB.out]; exact List.any_eq_true.2 ⟨_, HM.out, by unfold bigA; simp [h1]⟩)
        clear h1
        go_wp2_with fail
        go_ret
        exact ⟨by rw [HV.out]; rfl, hb⟩
      · have d1 : decide ((900 : Int) < (s.size : Int)) = false := decide_eq_false (by omega)
        by_cases h2 : 20 < m
        · have d2 : decide ((20 : Int) < (m : Int)) = true := decide_eq_true (by omega)
          have HV : Hid (farB xs = true) := Lib.hid (by rw [HFB.out]; exact List.any_eq_true.2 ⟨_, HM.out, by unfold bigA; simp [h2]⟩)
          clear h1 h2
          go_wp2_with fail
          go_ret
          exact ⟨by rw [HV.out]; rfl, hb⟩
        · have d2 : decide ((20 : Int) < (m : Int)) = false := decide_eq_false (by omega)
          have HB : Hid (bigA ⟨wh, f, kd, of, n, size, A, m, ca, s⟩ = false) := Lib.hid (by unfold bigA; simp [h1, h2])
          clear h1 h2
          go_wp2_with fail
          go_roundw
          case rel => exact ⟨k + 1, by omega, by go_num, fun a ha => by
            rw [HT.out] at ha
            rcases List.mem_append.1 ha with ha | ha
            · exact HN.out a ha
            · simp only [List.mem_singleton] at ha; rw [ha]; exact HB.out, hb⟩
          case measure => simp [RowKit.intOf]; omega
    · obtain rfl : k = xs.length := by omega
      have HV : Hid (farB xs = false) := Lib.hid (by
        rw [HFB.out, List.any_eq_false]
        rw [List.take_length] at hn
        intro a ha
        rw [hn a ha]; simp)
      clear hn
      go_wp2_with fail
      go_ret
      exact ⟨by rw [HV.out]; rfl, hb⟩
end Go.Proofs.YtljmdcegcckblaaGreatDoor
/- P12.6: DataArray: between two acts. -/
namespace Go.Proofs.YtljmdcegcckblaaGreatDoor
open Go.RowKit Go.Maps

/-- A transaction on its device; the transaction is younger than the world w0. -/
structure Run (w0 w : World) (T : Nat) (F : List Nat) (D : Nat) (y : TxS) (B : List Nat) (x : DevS) : Prop where
  td : TD w T F D y B x
  bl : Below w0.heap.size w0 w
  fl : ∀ b ∈ F, w0.heap.size ≤ b
section
variable {w0 w w' : World} {T : Nat} {F F' : List Nat} {D : Nat} {y y' : TxS} {B : List Nat} {x : DevS}
theorem Run.below (h : Run w0 w T F D y B x) (hb : Below w.heap.size w w') : Run w0 w' T F D y B x := ⟨h.td.below hb, h.bl.trans (hb.mono h.bl.size), h.fl⟩
theorem Run.did (h : Run w0 w T F D y B x) (ht : TD w' T F' D y' B x) (g : Grow w F w' F') : Run w0 w' T F' D y' B x := ⟨ht, h.bl.trans (g.below h.bl.size h.fl), g.lo h.bl.size h.fl⟩
theorem Run.set_ (h : Run w0 w T F D y B x) {p : Addr} (h1 : p.block ∉ F) (h2 : p.block ∉ B) (h00 : 0 < w0.heap.size) (h0 : w0.heap.size ≤ p.block) (u : Value) : Run w0 (w.setCell p u) T F D y B x :=
  ⟨h.td.set_ h1 h2 (by omega) u, h.bl.setCell h0 u, h.fl⟩
theorem Run.row (h : Run w0 w T F D y B x) {g : Nat} (h1 : g ∉ F) (h2 : g ∉ B) (h00 : 0 < w0.heap.size) (h0 : w0.heap.size ≤ g) (cs : Array Value) : Run w0 (w.setRow g cs) T F D y B x :=
  ⟨h.td.keep (fun b hb => setRow_other w g b cs (fun e => by
    subst e
    rcases hb with hb | hb | hb
    · exact h1 hb
    · exact h2 hb
    · omega)) (by simp), Below.setRow h.bl h0 _, h.fl⟩
theorem Run.flt (h : Run w0 w T F D y B x) : ∀ b ∈ F, b < w.heap.size := fun b hb => (h.td.tx.lt b hb).2
theorem Run.blt (h : Run w0 w T F D y B x) : ∀ b ∈ B, b < w.heap.size := fun b hb => (h.td.dev.lt b hb).2
end
theorem Keeps.set_ {w : World} {F : List Nat} {A : Option Addr} {c : Nat} {l : List Int} (h : Keeps w F A c l) {p : Addr} (hp : ∀ a, A = some a → a.block ≠ p.block) (u : Value) : Keeps (w.setCell p u) F A c l :=
  ⟨⟨by
    rcases h.sl.reads with h0 | ⟨b, off, e, hl, hc⟩
    · exact .inl h0
    · exact .inr ⟨b, off, e, by simpa using hl, fun j v hv => (World.cell?_of_block (w := w) (a := ⟨b, off + j, none⟩) (Below.heap_setCell w p u b (show b ≠ p.block from hp _ e))).trans (hc j v hv)⟩, h.sl.nil, h.sl.cap⟩,
   fun a e => ⟨(h.out a e).1, by simpa using (h.out a e).2⟩⟩
theorem Keeps.row {w : World} {F : List Nat} {A : Option Addr} {c : Nat} {l : List Int} (h : Keeps w F A c l) {g : Nat} (hp : ∀ a, A = some a → a.block ≠ g) (cs : Array Value) : Keeps (w.setRow g cs) F A c l :=
  ⟨⟨by
    rcases h.sl.reads with h0 | ⟨b, off, e, hl, hc⟩
    · exact .inl h0
    · exact .inr ⟨b, off, e, by simpa using hl, fun j v hv => (World.cell?_of_block (w := w) (a := ⟨b, off + j, none⟩) (setRow_other _ _ _ _ (show b ≠ g from hp _ e))).trans (hc j v hv)⟩, h.sl.nil, h.sl.cap⟩,
   fun a e => ⟨(h.out a e).1, by simpa using (h.out a e).2⟩⟩

def slOf (As : Nat → Option Addr) (cs : Nat → Nat) (ls : Nat → List Int) (k : Nat) : Value := .slice (As k) (ls k).length (cs k)
def zsOf (tx : Nat → ByteArray) (k : Nat) : Int := (tx k).size
/-- The law's own boxes: the book in block N7, the texts in block N8. -/
structure BoxAt (w : World) (F B : List Nat) (N7 N8 : Nat) (ls : Nat → List Int) (zs : Nat → Int) (tx : Nat → ByteArray) (As : Nat → Option Addr) (cs : Nat → Nat) : Prop where
  b7 : Blk w N7 38 (bookC (slOf As cs ls 0) (slOf As cs ls 1) (slOf As cs ls 2) (zs 0) (zs 1))
  b8 : Blk w N8 39 #[.string (tx 0), .string (tx 1)]
  f7 : N7 ∉ F
  f8 : N8 ∉ F
  d7 : N7 ∉ B
  d8 : N8 ∉ B
  ne : N7 ≠ N8
  kp : ∀ k, k < 3 → Keeps w F (As k) (cs k) (ls k)
  k7 : ∀ k a, k < 3 → As k = some a → a.block ≠ N7
  k8 : ∀ k a, k < 3 → As k = some a → a.block ≠ N8
section
variable {w w' : World} {F F' B : List Nat} {N7 N8 : Nat} {ls : Nat → List Int} {zs : Nat → Int} {tx : Nat → ByteArray} {As : Nat → Option Addr} {cs : Nat → Nat}
theorem BoxAt.grow (h : BoxAt w F B N7 N8 ls zs tx As cs) (g : Grow w F w' F') : BoxAt w' F' B N7 N8 ls zs tx As cs :=
  ⟨g.blk h.b7 h.f7, g.blk h.b8 h.f8, g.notin h.f7 h.b7.lt, g.notin h.f8 h.b8.lt, h.d7, h.d8, h.ne, fun k hk => (h.kp k hk).grow g, h.k7, h.k8⟩
theorem BoxAt.below (h : BoxAt w F B N7 N8 ls zs tx As cs) (hb : Below w.heap.size w w') : BoxAt w' F B N7 N8 ls zs tx As cs := h.grow (Grow.of_below hb F)
theorem BoxAt.cell8 (h : BoxAt w F B N7 N8 ls zs tx As cs) {f2 : Nat} (hf : f2 < 2) : w.cell? ⟨N8, f2, none⟩ = some (.string (tx f2)) := by
  rcases two f2 hf with rfl | rfl
  · exact (h.b8.cells 0).trans rfl
  · exact (h.b8.cells 1).trans rfl
theorem BoxAt.cell7 (h : BoxAt w F B N7 N8 ls zs tx As cs) {m : Nat} (hm : m < 2) : w.cell? ⟨N7, m, none⟩ = some (.slice (As m) (ls m).length (cs m)) ∧ w.cell? ⟨N7, 3 + m, none⟩ = some (.int .i64 (zs m)) := by
  rcases two m hm with rfl | rfl
  · exact ⟨(h.b7.cells 0).trans rfl, (h.b7.cells 3).trans rfl⟩
  · exact ⟨(h.b7.cells 1).trans rfl, (h.b7.cells 4).trans rfl⟩
/-- One of the texts is written. -/
theorem BoxAt.text (h : BoxAt w F B N7 N8 ls zs tx As cs) (f2 : Nat) (hf : f2 < 2) (t : ByteArray) : BoxAt (w.setCell ⟨N8, f2, none⟩ (.string t)) F B N7 N8 ls zs (upd tx f2 t) As cs :=
  ⟨h.b7.far (p := ⟨N8, f2, none⟩) h.ne _, by
    have := h.b8.set_ f2 (.string t)
    rcases two f2 hf with rfl | rfl <;> exact this, h.f7, h.f8, h.d7, h.d8, h.ne, fun k hk => (h.kp k hk).set_ (p := ⟨N8, f2, none⟩) (fun a e => h.k8 k a hk e) _, h.k7, h.k8⟩
/-- The book is written. -/
theorem BoxAt.book (h : BoxAt w F B N7 N8 ls zs tx As cs) {ls' : Nat → List Int} {zs' : Nat → Int} {As' : Nat → Option Addr} {cs' : Nat → Nat} (kp : ∀ k, k < 3 → Keeps w F (As' k) (cs' k) (ls' k)) (k7 : ∀ k a, k < 3 → As' k = some a → a.block ≠ N7) (k8 : ∀ k a, k < 3 → As' k = some a → a.block ≠ N8) :
    BoxAt (w.setRow N7 (bookC (slOf As' cs' ls' 0) (slOf As' cs' ls' 1) (slOf As' cs' ls' 2) (zs' 0) (zs' 1))) F B N7 N8 ls' zs' tx As' cs' :=
  ⟨h.b7.setRow, (setRow_other _ _ _ _ (Ne.symm h.ne)).trans h.b8, h.f7, h.f8, h.d7, h.d8, h.ne, fun k hk => (kp k hk).row (fun a e => k7 k a hk e) _, k7, k8⟩
end
theorem OfSpec.below {w w1 w2 : World} {f2 : Nat} {sl : Nat → Value} {zs : Nat → Int} {cw ck cz co cn : Int} {cl : Value} {P : Option Addr} {pn : Nat} (h : OfSpec w w1 f2 sl zs cw ck cz co cn cl P pn) (hb : Below w1.heap.size w1 w2) : OfSpec w w2 f2 sl zs cw ck cz co cn cl P pn := by
  rcases h with h | h | h | ⟨h1, h2, h3, h4, h5, h6, ps, p1, p2, p3, p4, p5⟩
  · exact .inl h
  · exact .inr (.inl h)
  · exact .inr (.inr (.inl h))
  · exact .inr (.inr (.inr ⟨h1, h2, h3, h4, h5, h6, ps, p1, p2, p3, p4.below hb, fun a e => ⟨(p5 a e).1, Nat.lt_of_lt_of_le (p5 a e).2 hb.size⟩⟩))
theorem OfSpec.row {w w1 : World} {f2 : Nat} {sl : Nat → Value} {zs : Nat → Int} {cw ck cz co cn : Int} {cl : Value} {P : Option Addr} {pn : Nat} (h : OfSpec w w1 f2 sl zs cw ck cz co cn cl P pn) {g : Nat} (hg : ∀ b, w.heap.size ≤ b → b < w1.heap.size → b ≠ g) (cs : Array Value) : OfSpec w (w1.setRow g cs) f2 sl zs cw ck cz co cn cl P pn := by
  rcases h with h | h | h | ⟨h1, h2, h3, h4, h5, h6, ps, p1, p2, p3, p4, p5⟩
  · exact .inl h
  · exact .inr (.inl h)
  · exact .inr (.inr (.inl h))
  · refine .inr (.inr (.inr ⟨h1, h2, h3, h4, h5, h6, ps, p1, p2, p3, ?_, fun a e => ⟨(p5 a e).1, by simpa using (p5 a e).2⟩⟩))
    rcases p4 with h0 | ⟨b, off, e, hl, hc⟩
    · exact .inl h0
    · have hb := p5 _ e
      exact .inr ⟨b, off, e, by simpa using hl, fun j v hv => (World.cell?_of_block (w := w1) (a := ⟨b, off + j, none⟩) (setRow_other _ _ _ _ (hg b hb.1 hb.2))).trans (hc j v hv)⟩
/-- The call's box is made behind the call. -/
theorem OfSpec.made {w w1 w2 : World} {f2 : Nat} {sl : Nat → Value} {zs : Nat → Int} {cw ck cz co cn : Int} {cl : Value} {P : Option Addr} {pn : Nat} (h : OfSpec w w1 f2 sl zs cw ck cz co cn cl P pn) (hb : Below w1.heap.size w1 w2) (cs : Array Value) : OfSpec w (w2.setRow w1.heap.size cs) f2 sl zs cw ck cz co cn cl P pn := by
  rcases h with h | h | h | ⟨h1, h2, h3, h4, h5, h6, ps, p1, p2, p3, p4, p5⟩
  · exact .inl h
  · exact .inr (.inl h)
  · exact .inr (.inr (.inl h))
  · have hz := hb.size
    refine .inr (.inr (.inr ⟨h1, h2, h3, h4, h5, h6, ps, p1, p2, p3, ?_, fun a e => ⟨(p5 a e).1, by have := (p5 a e).2; simp; omega⟩⟩))
    rcases p4.below hb with h0 | ⟨b, off, e, hl, hc⟩
    · exact .inl h0
    · have hb2 : b < w1.heap.size := (p5 _ e).2
      exact .inr ⟨b, off, e, by simpa using hl, fun j v hv => (World.cell?_of_block (w := w2) (a := ⟨b, off + j, none⟩) (setRow_other _ _ _ _ (show b ≠ w1.heap.size by omega))).trans (hc j v hv)⟩
theorem OfSpec.cw {w w1 : World} {f2 : Nat} {sl : Nat → Value} {zs : Nat → Int} {cw ck cz co cn : Int} {cl : Value} {P : Option Addr} {pn : Nat} (h : OfSpec w w1 f2 sl zs cw ck cz co cn cl P pn) : cw = 0 ∨ cw = 2 ∨ cw = 3 ∨ cw = 5 ∨ cw = 6 := by
  rcases h with h | h | h | ⟨h, -⟩
  · exact .inl h.1
  · exact .inr (.inl h.1)
  · exact .inr (.inr (.inl h.1))
  · rcases h with h | h
    · exact .inr (.inr (.inr (.inl h)))
    · exact .inr (.inr (.inr (.inr h)))
theorem OfSpec.clv {w w1 : World} {f2 : Nat} {As : Nat → Option Addr} {cs : Nat → Nat} {ls : Nat → List Int} {zs : Nat → Int} {cw ck cz co cn : Int} {cl : Value} {P : Option Addr} {pn : Nat} (h : OfSpec w w1 f2 (slOf As cs ls) zs cw ck cz co cn cl P pn) : ∃ a n k, cl = .slice a n k := by
  rcases h with h | h | h | ⟨-, -, -, -, -, h, -⟩
  · exact ⟨_, _, _, h.2.2.2.2.2.2⟩
  · exact ⟨_, _, _, h.2.2.2.2.2.2⟩
  · exact ⟨_, _, _, h.2.2.2.2.2.2.2⟩
  · exact ⟨_, _, _, h⟩
/-- Cells of the acts that came in, in every later world. -/
theorem acts_cells {w : World} {b off : Nat} {xs : List ActV} (hR : Reads w (some ⟨b, off, none⟩) (xs.flatMap actL)) {k : Nat} (hk : k < xs.length) :
    ∀ W, Below w.heap.size w W → W.cell? ⟨b, off + k * 8, none⟩ = some (.int .u8 xs[k].wh) ∧ W.cell? ⟨b, off + k * 8 + 1, none⟩ = some (.int .u8 xs[k].f) ∧ W.cell? ⟨b, off + k * 8 + 2, none⟩ = some (.int .i64 xs[k].kd) ∧
      W.cell? ⟨b, off + k * 8 + 3, none⟩ = some (.int .i64 xs[k].off) ∧ W.cell? ⟨b, off + k * 8 + 4, none⟩ = some (.int .i64 xs[k].n) ∧ W.cell? ⟨b, off + k * 8 + 5, none⟩ = some (.int .i64 xs[k].size) ∧ W.cell? ⟨b, off + k * 8 + 6, none⟩ = some (.slice xs[k].A xs[k].m xs[k].c) ∧ W.cell? ⟨b, off + k * 8 + 7, none⟩ = some (.string xs[k].s) := by
  intro W hb
  obtain ⟨b', off', e, h1, h2⟩ := acts_at (hR.below hb) hk
  cases e
  exact h2
theorem slOf_upd (As : Nat → Option Addr) (cs : Nat → Nat) (ls : Nat → List Int) (f : Nat) (A : Option Addr) (c : Nat) (L : List Int) : upd (slOf As cs ls) f (.slice A L.length c) = slOf (upd As f A) (upd cs f c) (upd ls f L) := by
  funext k
  unfold slOf upd
  by_cases h : k = f <;> simp [h]
theorem zsOf_upd (tx : Nat → ByteArray) (f : Nat) (t : ByteArray) : upd (zsOf tx) f (t.size : Int) = zsOf (upd tx f t) := by
  funext k
  unfold zsOf upd
  by_cases h : k = f <;> simp [h]
/-- The lists, one of them new. -/
theorem keeps_upd {w : World} {F : List Nat} {As : Nat → Option Addr} {cs : Nat → Nat} {ls : Nat → List Int} {f : Nat} {A : Option Addr} {c : Nat} {L : List Int} (h : ∀ k, k < 3 → Keeps w F (As k) (cs k) (ls k)) (hn : Keeps w F A c L) : ∀ k, k < 3 → Keeps w F (upd As f A k) (upd cs f c k) (upd ls f L k) := fun k hk => by
  unfold upd
  by_cases e : k = f
  · rw [if_pos e, if_pos e, if_pos e]; exact hn
  · rw [if_neg e, if_neg e, if_neg e]; exact h k hk
theorem far_upd {As : Nat → Option Addr} {f N : Nat} {A : Option Addr} (h : ∀ k a, k < 3 → As k = some a → a.block ≠ N) (hn : ∀ a, A = some a → a.block ≠ N) : ∀ k a, k < 3 → upd As f A k = some a → a.block ≠ N := fun k a hk e => by
  unfold upd at e
  by_cases e2 : k = f
  · rw [if_pos e2] at e; exact hn a e
  · rw [if_neg e2] at e; exact h k a hk e
theorem layout_rg (j i : Int) : rgE 64 (8 + j % 21) (1 + i % 26) = 0 := by
  have h1 : 0 ≤ j % 21 ∧ j % 21 ≤ 20 := by omega
  have h2 : 0 ≤ i % 26 ∧ i % 26 ≤ 25 := by omega
  exact rgE_0 (by omega) (by omega)
end Go.Proofs.YtljmdcegcckblaaGreatDoor
/- P12.6: plain words on strings: what the law's own texts become. -/
namespace Go.Proofs.YtljmdcegcckblaaGreatDoor
open Go.RowKit Go.Maps

theorem dw_same (o s : ByteArray) (n mi : Nat) (h : min ((n : Int) + s.size) o.size = mi) : o.extract 0 n ++ s ++ o.extract mi o.size = dwText o s n o.size := by unfold dwText; rw [h]; rfl
theorem zerosB_data (n : Nat) : (zerosB n).data = Array.replicate n 0 := by
  unfold zerosB strOfNums
  simp
theorem dc_same (o : ByteArray) (n : Nat) : (o ++ zerosB n).extract 0 n = dcText o n o.size := by
  unfold dcText
  apply ba_ext
  apply Array.ext_getElem?
  intro i
  simp only [ByteArray.data_append, ByteArray.data_extract, Array.getElem?_append, Array.getElem?_extract, Array.size_append, zerosB_data, Array.size_replicate, Int.toNat_natCast, Array.getElem?_replicate]
  have e : o.data.size = o.size := rfl
  simp only [e]
  repeat' split
  all_goals first | rfl | (exfalso; omega)
theorem rd_same (o : ByteArray) (a b lo hi : Nat) (ha : a ≤ o.size) (h1 : min (a : Int) o.size = lo) (h2 : min ((a : Int) + b) o.size = hi) : o.extract (min (a : Int) o.size).toNat (min (a : Int) o.size + min (b : Int) (o.size - min (a : Int) o.size)).toNat = o.extract lo hi := by
  congr 1 <;> omega
theorem OfSpec.rg {w w1 : World} {f2 : Nat} {sl : Nat → Value} {zs : Nat → Int} {cw ck cz co cn : Int} {cl : Value} {P : Option Addr} {pn : Nat} (h : OfSpec w w1 f2 sl zs cw ck cz co cn cl P pn) (hz : 0 ≤ zs f2) : 0 ≤ co ∧ co ≤ zs f2 ∧ 0 ≤ cn ∧ cn < 800 := by
  rcases h with h | h | h | ⟨h1, h2, h3, h4, h5, h6⟩
  · omega
  · omega
  · omega
  · omega
end Go.Proofs.YtljmdcegcckblaaGreatDoor
/- P12.6: DataArray, walked. -/
namespace Go.Proofs.YtljmdcegcckblaaGreatDoor
open Go.RowKit Go.Maps

set_option maxRecDepth 100000 in
set_option maxHeartbeats 16000000 in
theorem dataArray_any (jn ino : Int) (hjn : 0 ≤ jn ∧ jn ≤ 255) (hin : 0 ≤ ino ∧ ino ≤ 255) (A : Option Addr) (c : Nat) (xs : List ActV) (hl : xs.length ≤ maxLen) (w : World) (hok : ∀ a ∈ xs, ActOk w a) (hH : HalfAt w) (hR : Reads w A (xs.flatMap actL)) :
    Calls Tryz.prog 3 #[.agg #[.int .u8 jn, .int .u8 ino], .slice A xs.length c] w fun e w' => e = .returned (.bool true) ∧ Below w.heap.size w w' := by
  have hp0 := hH.1
  have HH := Lib.hid hH
  have HOK := Lib.hid hok
  have HR := Lib.hid hR
  obtain ⟨wA, hA⟩ : ∃ wA, wA = w.alloc (.cells #[.int .u8 jn, .int .u8 ino] 23) := ⟨_, rfl⟩
  have bA : Blk wA w.heap.size 23 #[.int .u8 jn, .int .u8 ino] := by rw [hA]; exact Blk.new _ _ _
  have BA : Below w.heap.size w wA := by rw [hA]; exact (Below.refl _ _).alloc (Nat.le_refl _) _
  have f1 := far_any A c xs hl wA (hR.below BA)
  unfold maxLen at hl
  clear hH hok hR
  go_enter Tryz.func3, Tryz.ntmps3
  go_wp2_with fail
  rw [← hA]
  clear hA
  refine f1.mono ?_
  rintro e w1 ⟨rfl, hb1⟩
  have B1 := BA.trans (hb1.mono BA.size)
  have b1 := bA.belowAll hb1
  clear f1 bA BA hb1
  by_cases hfar : farB xs = true
  · rw [hfar]
    have haw : Calls Tryz.prog 8 #[] w1 (fun e w' => e = .returned (.bool true) ∧ Below w1.heap.size w1 w') := awake_any w1 (HH.out.below B1 hp0)
    go_wp2_with fail
    refine haw.mono ?_
    rintro e w2 ⟨rfl, hb2⟩
    go_wp2_with fail
    go_ret
    exact ⟨rfl, B1.trans (hb2.mono B1.size)⟩
  have hfar' : farB xs = false := by simpa using hfar
  rw [hfar']
  have hbb : (∀ a ∈ xs, a.s.size ≤ 900) ∧ xs.length ≤ 20 := by
    unfold farB at hfar'
    simp only [Bool.or_eq_false_iff, decide_eq_false_iff_not] at hfar'
    refine ⟨fun a ha => ?_, by omega⟩
    have := List.any_eq_false.1 hfar'.2 a ha
    unfold bigA at this
    simp at this
    omega
  have HB := Lib.hid hbb
  clear hfar hfar' hbb
  have c1 := b1.cells
  have l1 := b1.lt
  go_wp2_with fail
  refine (layout_any jn ino hjn hin w1).mono ?_
  rintro e w2 ⟨rfl, hb2⟩
  have B2 := B1.trans (hb2.mono B1.size)
  have hbg : Calls Tryz.prog 9 #[.agg #[.int .i64 64, .int .i64 (8 + jn % 21), .int .i64 (1 + ino % 26)]] w2 (BegunPost w2 64 (8 + jn % 21) (1 + ino % 26)) := begun_fresh 64 (8 + jn % 21) (1 + ino % 26) (layout_rg jn ino) w2 (HH.out.below B2 hp0)
  clear c1 l1 b1 B1 hb2
  go_wp2_with fail
  refine hbg.mono ?_
  rintro e w3 ⟨D, T, F0, B, x, rfl, -, ht, hb3, hF, hB⟩
  have B3 := B2.trans (hb3.mono B2.size)
  have r3 : Run w w3 T F0 D (freeTx 64 (8 + jn % 21) (1 + ino % 26)) B x := ⟨ht, B3, fun b hb => Nat.le_trans B2.size (hF b hb)⟩
  have hbk : BookOk (freeTx 64 (8 + jn % 21) (1 + ino % 26)) x [] [] [] ⟨#[]⟩ ⟨#[]⟩ := BookOk.nil _ _ rfl
  generalize freeTx 64 (8 + jn % 21) (1 + ino % 26) = y0 at *
  clear hbg ht hb3 hF hB B2 B3 hjn hin
  obtain ⟨w4, hw4⟩ : ∃ w4, w4 = (w3.alloc (.cells (bookC (.slice none 0 0) (.slice none 0 0) (.slice none 0 0) 0 0) 38)).alloc (.cells #[.string ⟨#[]⟩, .string ⟨#[]⟩] 39) := ⟨_, rfl⟩
  have b34 : Below w3.heap.size w3 w4 := by rw [hw4]; exact ((Below.refl _ _).alloc (Nat.le_refl _) _).alloc (by simp) _
  have r4 := r3.below b34
  have hflt := r3.flt
  have hblt := r3.blt
  have hge := r3.bl.size
  obtain ⟨N7, hN7⟩ : ∃ N7, N7 = w3.heap.size := ⟨_, rfl⟩
  obtain ⟨N8, hN8⟩ : ∃ N8, N8 = N7 + 1 := ⟨_, rfl⟩
  have x4 : BoxAt w4 F0 B N7 N8 (fun _ => []) (zsOf fun _ => ⟨#[]⟩) (fun _ => ⟨#[]⟩) (fun _ => none) (fun _ => 0) :=
    ⟨by rw [hw4, hN7]; exact (Blk.new _ _ _).alloc _, by rw [hw4]; exact Blk.new' (by rw [hN8, hN7]; simp), fun hm => by have := hflt _ hm; omega, fun hm => by have := hflt _ hm; omega, fun hm => by have := hblt _ hm; omega, fun hm => by have := hblt _ hm; omega, by omega, fun k _ => ⟨slI_nil _, fun a h => by cases h⟩, fun k a _ h => (by cases h), fun k a _ h => (by cases h)⟩
  have hN7g : w.heap.size ≤ N7 := by omega
  have hN8g : w.heap.size ≤ N8 := by omega
  have HW := Lib.hid hw4
  have H7 := Lib.hid hN7
  have H8 := Lib.hid hN8
  clear hw4 b34 r3 hflt hblt hge hN7 hN8
  go_wp2_with fail
  rw [← HW.out, ← H7.out, ← H8.out]
  clear HW H7 H8
  go_loopw [9] (fun q wr => ∃ (k : Nat) (F : List Nat) (y : TxS) (ls : Nat → List Int) (tx : Nat → ByteArray) (As : Nat → Option Addr) (cs : Nat → Nat), k ≤ xs.length ∧ q = .int .i64 k ∧ Run w wr T F D y B x ∧ BookOk y x (ls 0) (ls 1) (ls 2) (tx 0) (tx 1) ∧ BoxAt wr F B N7 N8 ls (zsOf tx) tx As cs) (fun q _ => xs.length - (RowKit.intOf q).toNat)
  case atStart => exact ⟨0, F0, y0, fun _ => [], fun _ => ⟨#[]⟩, fun _ => none, fun _ => 0, Nat.zero_le _, rfl, r4, hbk, x4⟩
  case round =>
    obtain ⟨k, F, y, ls, tx, As, cs, hk, rfl, hr, hbk, hx⟩ := hrel
    clear r4 x4
    by_cases hlt : k < xs.length
    · obtain ⟨ab, ao, rfl, -⟩ := acts_at (HR.out.below hr.bl) hlt
      have hce := acts_cells HR.out hlt
      have hm := List.getElem_mem hlt
      have hoka := HOK.out _ hm
      have hs9 := HB.out.1 _ hm
      generalize xs[k] = act at *
      obtain ⟨wh, f, kd, off, n, size, LA, lm, lc, s⟩ := act
      simp only at hce hs9
      have hwh : 0 ≤ wh ∧ wh ≤ 255 := hoka.wh
      have hf : 0 ≤ f ∧ f ≤ 255 := hoka.f
      have HKA := Lib.hid hoka
      have HCE := Lib.hid hce
      clear hce hm hoka
      by_cases h7 : wh % 8 = 7
      · have g1 : wh.tmod 8 = 7 := by rw [← h7]; exact Int.tmod_eq_emod_of_nonneg hwh.1
        have e0 := (HCE.out _ hr.bl).1
        go_wp2_with fail
        go_roundw
        case rel => exact ⟨k + 1, F, y, ls, tx, As, cs, by omega, by go_num, hr, hbk, hx⟩
        case measure => simp [RowKit.intOf]; omega
      · have g1 : wh.tmod 8 = wh % 8 := Int.tmod_eq_emod_of_nonneg hwh.1
        have g2 : IntKind.u8.wrap (wh % 8) = wh % 8 := by rw [IntKind.wrap_u8]; omega
        have g3 : (wh % 8 == 7) = false := by simpa using h7
        have e0 := (HCE.out _ hr.bl).1
        obtain ⟨f2, hf2⟩ : ∃ f2 : Nat, f % 2 = f2 := ⟨(f % 2).toNat, by omega⟩
        have hf3 : f2 < 2 := by omega
        have hsz2 : ∀ j, j < 2 → 0 ≤ zsOf tx j ∧ zsOf tx j ≤ 10000 := fun j hj => by
          have := (hbk.lst hj).2.sz
          unfold zsOf; omega
        have hof : ∀ V, Calls Tryz.prog 11 #[.agg #[.int .u8 wh, .int .u8 f, .int .i64 kd, .int .i64 off, .int .i64 n, .int .i64 size, .slice LA lm lc, .string s], .agg #[slOf As cs ls 0, slOf As cs ls 1, slOf As cs ls 2, .int .i64 (zsOf tx 0), .int .i64 (zsOf tx 1)]] V (OfPost V f2 (slOf As cs ls) (zsOf tx) s) := fun V =>
          of_act (As 0) (As 1) (As 2) (ls 0).length (cs 0) (ls 1).length (cs 1) (ls 2).length (cs 2) (zsOf tx) wh f kd off n size (.slice LA lm lc) s (by omega) hsz2 HKA.out.off HKA.out.n HKA.out.size hf hwh h7 f2 hf2 (slOf As cs ls) rfl rfl rfl V
        have HOF := Lib.hid hof
        have HSZ := Lib.hid hsz2
        have hsc : ∀ V, Below w.heap.size w V → Blk V N7 38 (bookC (slOf As cs ls 0) (slOf As cs ls 1) (slOf As cs ls 2) (zsOf tx 0) (zsOf tx 1)) → (fun W => W.cell? ⟨ab, ao + k * 8, none⟩ = some (.int .u8 wh) ∧ W.cell? ⟨ab, ao + k * 8 + 1, none⟩ = some (.int .u8 f) ∧ W.cell? ⟨ab, ao + k * 8 + 2, none⟩ = some (.int .i64 kd) ∧ W.cell? ⟨ab, ao + k * 8 + 3, none⟩ = some (.int .i64 off) ∧ W.cell? ⟨ab, ao + k * 8 + 4, none⟩ = some (.int .i64 n) ∧ W.cell? ⟨ab, ao + k * 8 + 5, none⟩ = some (.int .i64 size) ∧ W.cell? ⟨ab, ao + k * 8 + 6, none⟩ = some (.slice LA lm lc) ∧ W.cell? ⟨ab, ao + k * 8 + 7, none⟩ = some (.string s) ∧ W.cell? ⟨N7, 0, none⟩ = some (slOf As cs ls 0) ∧ W.cell? ⟨N7, 1, none⟩ = some (slOf As cs ls 1) ∧ W.cell? ⟨N7, 2, none⟩ = some (slOf As cs ls 2) ∧ W.cell? ⟨N7, 3, none⟩ = some (.int .i64 (zsOf tx 0)) ∧ W.cell? ⟨N7, 4, none⟩ = some (.int .i64 (zsOf tx 1))) V := fun V hb b => by
          obtain ⟨q0, q1, q2, q3, q4, q5, q6, q7⟩ := HCE.out V hb
          exact ⟨q0, q1, q2, q3, q4, q5, q6, q7, (b.cells 0).trans rfl, (b.cells 1).trans rfl, (b.cells 2).trans rfl, (b.cells 3).trans rfl, (b.cells 4).trans rfl⟩
        have HSC := Lib.hid hsc
        have hbge : w.heap.size ≤ wr.heap.size := hr.bl.size
        have hrbl := Lib.hid hr.bl
        have hb7 := Lib.hid hx.b7
        clear hof hsz2 hsc
        go_upto_region 12 with fail
        go_cut [10] from 32 to 186 (fun s10 wx => ∃ (C : Nat) (cw ck cz co cn : Int) (cl : Value) (P : Option Addr) (pn pc : Nat) (v0 : World), s10 = .pointer (some ⟨C, 0, none⟩) ∧ Below wr.heap.size wr wx ∧ wr.heap.size ≤ C ∧ Blk wx C 44 (callC cw ck cz co cn cl s (.slice P pn pc)) ∧ wr.heap.size ≤ v0.heap.size ∧ OfSpec v0 wx f2 (slOf As cs ls) (zsOf tx) cw ck cz co cn cl P pn)
        case first =>
          as_aux_lemma =>
            clear hr hbk hx e0 g1 g2 g3
            refine wp_region_mix [.take 0, .take 1, .take 2, .take 3, .take 4, .par 6 [5], .one 7] 7 (fun W => W.cell? ⟨ab, ao + k * 8, none⟩ = some (.int .u8 wh) ∧ W.cell? ⟨ab, ao + k * 8 + 1, none⟩ = some (.int .u8 f) ∧ W.cell? ⟨ab, ao + k * 8 + 2, none⟩ = some (.int .i64 kd) ∧ W.cell? ⟨ab, ao + k * 8 + 3, none⟩ = some (.int .i64 off) ∧ W.cell? ⟨ab, ao + k * 8 + 4, none⟩ = some (.int .i64 n) ∧ W.cell? ⟨ab, ao + k * 8 + 5, none⟩ = some (.int .i64 size) ∧ W.cell? ⟨ab, ao + k * 8 + 6, none⟩ = some (.slice LA lm lc) ∧ W.cell? ⟨ab, ao + k * 8 + 7, none⟩ = some (.string s) ∧ W.cell? ⟨N7, 0, none⟩ = some (slOf As cs ls 0) ∧ W.cell? ⟨N7, 1, none⟩ = some (slOf As cs ls 1) ∧ W.cell? ⟨N7, 2, none⟩ = some (slOf As cs ls 2) ∧ W.cell? ⟨N7, 3, none⟩ = some (.int .i64 (zsOf tx 0)) ∧ W.cell? ⟨N7, 4, none⟩ = some (.int .i64 (zsOf tx 1))) (by kernel_rfl) (by kernel_rfl) (fun _ _ _ _ _ h => h) (HSC.out _ hrbl.out.drew (hb7.out.drew)) ?_
            simp only [List.map_cons, List.map_nil, Ms.fill, List.getD_cons_zero, List.getD_cons_succ]
            iterate 5 (refine mixT_take (by rfl) ?_ (fun w' hw' => ?_) ?_; rotate_left; (focus (go_simp; (try with_reducible rfl))); (try simp only [Act.put, List.setIfInBounds_toArray, List.set_cons_zero, List.set_cons_succ]))
            refine mixT_par fun K0 hK0 => ?_
            refine parT_cons (fun K hK => ?_) (fun K hK => ?_)
            · obtain ⟨X, hX⟩ : ∃ X, X = (wr.alloc (.cells #[.int .i64 0, .int .i64 0, .int .i64 0, .int .i64 0, .int .i64 0, .slice none 0 0, .string ⟨#[]⟩, .slice none 0 0] 44)).drew := ⟨_, rfl⟩
              have bX : Blk X wr.heap.size 44 #[.int .i64 0, .int .i64 0, .int .i64 0, .int .i64 0, .int .i64 0, .slice none 0 0, .string ⟨#[]⟩, .slice none 0 0] := by rw [hX]; exact (Blk.new _ _ _).drew
              have BX : Below wr.heap.size wr X := by rw [hX]; exact ((Below.refl _ _).alloc (Nat.le_refl _) _).drew
              go_simp
              rw [← hX]
              refine hK _ _ (HSC.out _ (hrbl.out.trans (BX.mono hbge)) (hb7.out.belowAll BX)) ?_
              clear hK K hX
              refine chainT_cons (fun K hK => ?_)
              go_simp
              refine (HOF.out X).mono ?_
              rintro e w5 ⟨hb5, cw, ck, cz, co, cn, cl, P, pn, pc, rfl, hsp⟩
              obtain ⟨ca, cln, clk, rfl⟩ := hsp.clv
              have B5 := BX.trans (hb5.mono BX.size)
              have bX5 := bX.belowAll hb5
              refine hK _ _ (HSC.out _ (hrbl.out.trans (B5.mono hbge)) (hb7.out.belowAll B5)) ?_
              clear hK K
              refine chainT_nil ?_
              refine hK0 _ _ ?_
              clear hK0 K0
              refine mixT_step (by rfl) fun K hK => ?_
              have hst := storeRow (ty := 44) (vs := callC cw ck cz co cn (.slice ca cln clk) s (.slice P pn pc)) bX5 rfl (by simp [Value.oneCell']) (by kernel_rfl)
              refine op_storeBy _ _ _ rfl _ _ rfl rfl hst ?_
              refine hK _ _ (fun h => absurd h (by decide)) ?_
              clear hK K
              refine mixT_nil ?_
              go_wp2_with fail
              go_meet
              case rel => exact ⟨wr.heap.size, cw, ck, cz, co, cn, .slice ca cln clk, P, pn, pc, X, rfl, Below.setRow B5 (Nat.le_refl _) _, Nat.le_refl _, bX5.setRow, BX.size, hsp.row (fun b h1 h2 e => by have := bX.lt; omega) _⟩
            · go_simp
              refine (HOF.out wr.drew).mono ?_
              rintro e w5 ⟨hb5, cw, ck, cz, co, cn, cl, P, pn, pc, rfl, hsp⟩
              obtain ⟨ca, cln, clk, rfl⟩ := hsp.clv
              have B5 : Below wr.heap.size wr w5 := (Below.refl _ _).drew.trans hb5
              refine hK _ _ (HSC.out _ (hrbl.out.trans (B5.mono hbge)) (hb7.out.belowAll B5)) ?_
              clear hK K
              refine parT_nil (fun K hK => ?_)
              obtain ⟨X, hX⟩ : ∃ X, X = w5.alloc (.cells #[.int .i64 0, .int .i64 0, .int .i64 0, .int .i64 0, .int .i64 0, .slice none 0 0, .string ⟨#[]⟩, .slice none 0 0] 44) := ⟨_, rfl⟩
              have bX : Blk X w5.heap.size 44 #[.int .i64 0, .int .i64 0, .int .i64 0, .int .i64 0, .int .i64 0, .slice none 0 0, .string ⟨#[]⟩, .slice none 0 0] := by rw [hX]; exact Blk.new _ _ _
              have BX : Below wr.heap.size wr X := by rw [hX]; exact B5.alloc B5.size _
              have h5X : Below w5.heap.size w5 X := by rw [hX]; exact (Below.refl _ _).alloc (Nat.le_refl _) _
              go_simp
              rw [← hX]
              refine hK _ _ (HSC.out _ (hrbl.out.trans (BX.mono hbge)) (hb7.out.belowAll BX)) ?_
              clear hK K hX
              refine hK0 _ _ ?_
              clear hK0 K0
              refine mixT_step (by rfl) fun K hK => ?_
              have hst := storeRow (ty := 44) (vs := callC cw ck cz co cn (.slice ca cln clk) s (.slice P pn pc)) bX rfl (by simp [Value.oneCell']) (by kernel_rfl)
              refine op_storeBy _ _ _ rfl _ _ rfl rfl hst ?_
              refine hK _ _ (fun h => absurd h (by decide)) ?_
              clear hK K
              refine mixT_nil ?_
              go_wp2_with fail
              go_meet
              case rel => exact ⟨w5.heap.size, cw, ck, cz, co, cn, .slice ca cln clk, P, pn, pc, wr.drew, rfl, Below.setRow BX B5.size _, B5.size, bX.setRow, by simp, hsp.made h5X _⟩
        case rest =>
          as_aux_lemma =>
            obtain ⟨C, cw, ck, cz, co, cn, cl, P, pn, pc, v0, rfl, hbc, hCg, bC, hv0, hsp⟩ := hcut
            obtain ⟨ca, cln, clk, rfl⟩ := hsp.clv
            have hcw := hsp.cw
            have hr1 := hr.below hbc
            have hx1 := hx.below hbc
            have m1 : f.tmod 2 = f2 := by rw [← hf2]; exact Int.tmod_eq_emod_of_nonneg hf.1
            have hCF : C ∉ F := fun hm => by have := hr.flt _ hm; omega
            have hCB : C ∉ B := fun hm => by have := hr.blt _ hm; omega
            have hC7 : C ≠ N7 := by have := hx.b7.lt; omega
            have hC8 : C ≠ N8 := by have := hx.b8.lt; omega
            have hCk : ∀ j a, j < 3 → As j = some a → a.block ≠ C := fun j a hj e => by have := ((hx.kp j hj).out a e).2; omega
            have hdone := done_act T F D y B x f2 hf3 ls tx As cs s (by omega) cw ck cz co cn _ P pn pc v0 wc wc hr1.td hbk hx1.kp (fun b hb => by have := hr.flt _ hb; omega) (Below.refl _ _) hsp
            have HSP := Lib.hid hsp
            have hN7c : N7 < wc.heap.size := hx1.b7.lt
            have hN8c : N8 < wc.heap.size := hx1.b8.lt
            have e1 := (HCE.out _ hr1.bl).2.1
            have cC := bC.cells
            have lC := bC.lt
            clear hr hx hsp e0 g1 g2 g3
            go_wp2_with fail
            refine hdone.mono ?_
            rintro e w6 ⟨RA, ln, lk, pv, t, z, E, y', F', rfl, ⟨PA, pm, pk, rfl⟩, ht, g, hsp2⟩
            have hr2 := hr1.did ht g
            have hx2 := hx1.grow g
            have bC2 := g.blk bC hCF
            have hCF2 := g.notin hCF bC.lt
            obtain ⟨w7, hw7⟩ : ∃ w7, w7 = w6.alloc (.cells (ansC (.slice RA ln lk) (.slice PA pm pk) t z E) 48) := ⟨_, rfl⟩
            have b67 : Below w6.heap.size w6 w7 := by rw [hw7]; exact (Below.refl _ _).alloc (Nat.le_refl _) _
            have bA7 : Blk w7 w6.heap.size 48 (ansC (.slice RA ln lk) (.slice PA pm pk) t z E) := by rw [hw7]; exact Blk.new _ _ _
            obtain ⟨AB, hAB⟩ : ∃ AB, AB = w6.heap.size := ⟨_, rfl⟩
            have hr7 := hr2.below b67
            have hx7 := hx2.below b67
            have bC7 := bC2.belowAll b67
            have hAF : AB ∉ F' := fun hm => by have := hr2.flt _ hm; omega
            have hA7 : AB ≠ N7 := by have := hx2.b7.lt; omega
            have hA8 : AB ≠ N8 := by have := hx2.b8.lt; omega
            have hAC : AB ≠ C := by have := bC2.lt; omega
            have hWr := hw7.symm
            have HAB := Lib.hid hAB
            have cA := bA7.cells
            have lA := bA7.lt
            have hkeep : ∀ L, Keeps w6 F' RA lk L → Keeps w7 F' RA lk L := fun L h => h.below b67
            clear hdone hr1 hx1 bC ht g hr2 hx2 bC2 hw7 hAB b67 cC lC e1
            by_cases hE : E = 0
            rotate_left
            · have hq : (E != 0) = true := by simpa using hE
              have B7 := hr7.bl
              have haw : Calls Tryz.prog 8 #[] w7 (fun e w' => e = .returned (.bool true) ∧ Below w7.heap.size w7 w') := awake_any w7 (HH.out.below B7 hp0)
              clear hsp2 hE
              go_wp2_with fail
              refine haw.mono ?_
              rintro e w8 ⟨rfl, hb8⟩
              go_wp2_with fail
              go_ret
              exact ⟨rfl, B7.trans (hb8.mono B7.size)⟩
            · subst hE
              obtain ⟨ls', tx', hbk', hds⟩ := hsp2 rfl
              clear hsp2
              rw [← HAB.out] at bA7
              clear cA lA
              have HWR := Lib.hid hWr
              clear hWr
              go_upto_region 15 with fail
              rw [HWR.out, ← HAB.out]
              have cA := bA7.cells
              have lA := bA7.lt
              have cC := bC7.cells
              have lC := bC7.lt
              go_upto_block 2 with fail
              have hcell8 := hx7.cell8 hf3
              have l8 := hx7.b8.lt
              have f8 := hx7.b8.free
              go_cut [] from 32 to 186 (fun wx => Run w wx T F' D y' B x ∧ BoxAt wx F' B N7 N8 ls (zsOf tx) tx' As cs ∧ Blk wx C 44 (callC cw ck cz co cn (.slice ca cln clk) s (.slice P pn pc)) ∧ Blk wx AB 48 (ansC (.slice RA ln lk) (.slice PA pm pk) t z 0) ∧ ∀ L, (∀ a, RA = some a → a.block ≠ N8) → Keeps w6 F' RA lk L → Keeps wx F' RA lk L)
              case first =>
                rcases hds with ⟨rfl, L, rfl, hkp, hge, rfl, rfl, hz⟩ | ⟨rfl, L, rfl, hkp, hge, rfl, rfl, hz⟩ | ⟨rfl, rfl, rfl, ht⟩ | ⟨rfl, L, rfl, hkp, hge, rfl, rfl⟩ | ⟨rfl, rfl, rfl⟩
                · have hfi : (f2 : Int) < 2 := by omega
                  as_aux_lemma =>
                    have hrg := (HSP.out.rg (HSZ.out f2 hf3).1)
                    have hbz := (hbk.lst hf3).2.sz
                    obtain ⟨n0, rfl⟩ : ∃ n0 : Nat, co = n0 := ⟨co.toNat, by omega⟩
                    have hn0 : n0 ≤ (tx f2).size := by unfold zsOf at hrg; omega
                    obtain ⟨mi, hmi⟩ : ∃ mi : Nat, min ((n0 : Int) + s.size) (tx f2).size = mi := ⟨_, (Int.toNat_of_nonneg (by omega)).symm⟩
                    have hmi' : min ((tx f2).size : Int) ((n0 : Int) + s.size) = mi := by omega
                    have hmi2 : mi ≤ (tx f2).size := by omega
                    have HT : Hid (dwText (tx f2) s n0 (tx f2).size = (tx f2).extract 0 n0 ++ s ++ (tx f2).extract mi (tx f2).size) := Lib.hid (dw_same _ _ _ _ hmi).symm
                    have HMI := Lib.hid hmi'
                    have rD := hr7.below (below_drewN' (Below.refl _ _) 1)
                    have xD := hx7.below (below_drewN' (Below.refl _ _) 1)
                    have cD := bC7.drewN 1
                    have aD := bA7.drewN 1
                    have kD : ∀ L, Keeps w6 F' RA lk L → Keeps (w7.drewN 1) F' RA lk L := fun L h => (hkeep L h).below (below_drewN' (Below.refl _ _) 1)
                    clear hmi hmi' hrg hz hkp hge hr7 hx7 bC7 bA7 hkeep
                    go_upto_region 19 with fail
                    have hw64 : IntKind.i64.wrap ((n0 : Int) + s.size) = n0 + s.size := by rw [IntKind.wrap_i64]; omega
                    have hcat1 : ¬ 9223372036854775807 < min n0 (tx f2).size + s.size := by omega
                    have hcat2 : ¬ 9223372036854775807 < min n0 (tx f2).size + s.size + ((tx f2).size - mi) := by omega
                    have hcat3 : ¬ 9223372036854775807 < n0 + s.size := by omega
                    have hcat4 : ¬ 9223372036854775807 < n0 + s.size + ((tx f2).size - mi) := by omega
                    have hmi' := HMI.out
                    refine wp_region_mix [.take 0, .take 1, .take 2, .take 3, .take 4, .take 5, .take 6, .take 7, .take 8, .take 9, .take 10, .take 11, .take 12, .take 13, .take 14, .take 15, .take 16, .take 17, .take 18, .take 19, .take 20, .take 21, .take 22, .take 23, .take 24, .take 25, .take 26, .one 27] 27 (fun W => W.cell? ⟨N8, f2, none⟩ = some (.string (tx f2)) ∧ W.cell? ⟨C, 3, none⟩ = some (.int .i64 n0) ∧ W.cell? ⟨C, 6, none⟩ = some (.string s)) (by kernel_rfl) (by kernel_rfl) (fun _ _ _ _ _ h => h) ⟨xD.cell8 hf3, (cD.cells 3).trans rfl, (cD.cells 6).trans rfl⟩ ?_
                    simp only [List.map_cons, List.map_nil, Ms.fill, List.getD_cons_zero, List.getD_cons_succ]
                    iterate 27 (refine mixT_take (by rfl) ?_ (fun w' hw' => ?_) ?_; rotate_left; (focus (go_simp; (try with_reducible rfl))); (try simp only [Act.put, List.setIfInBounds_toArray, List.set_cons_zero, List.set_cons_succ]))
                    refine mixT_step (by rfl) fun K hK => ?_
                    rw [← HT.out]
                    clear hw64 hcat1 hcat2 hcat3 hcat4 hmi'
                    generalize dwText (tx f2) s n0 (tx f2).size = tn at *
                    go_simp
                    refine hK _ _ (fun h => absurd h (by decide)) ?_
                    clear hK K
                    refine mixT_nil ?_
                    go_wp2_with fail
                    go_meet
                    case rel => exact ⟨rD.set_ (p := ⟨N8, f2, none⟩) xD.f8 xD.d8 hp0 hN8g _, xD.text f2 hf3 _, cD.far (p := ⟨N8, f2, none⟩) hC8 _, aD.far (p := ⟨N8, f2, none⟩) hA8 _, fun L h1 h2 => (kD L h2).set_ (p := ⟨N8, f2, none⟩) h1 _⟩
                · have hfi : (f2 : Int) < 2 := by omega
                  as_aux_lemma =>
                    have hrg := (HSP.out.rg (HSZ.out f2 hf3).1)
                    have hbz := (hbk.lst hf3).2.sz
                    obtain ⟨n0, rfl⟩ : ∃ n0 : Nat, cn = n0 := ⟨cn.toNat, by omega⟩
                    have hn0 : n0 ≤ 800 := by omega
                    have HT : Hid (dcText (tx f2) n0 (tx f2).size = ((tx f2) ++ zerosB n0).extract 0 n0) := Lib.hid (dc_same _ _).symm
                    have rD := hr7.below (Below.refl _ _).drew
                    have xD := hx7.below (Below.refl _ _).drew
                    have cD := bC7.drew
                    have aD := bA7.drew
                    have kD : ∀ L, Keeps w6 F' RA lk L → Keeps (w7.drew) F' RA lk L := fun L h => (hkeep L h).below (Below.refl _ _).drew
                    clear hrg hz hkp hge hr7 hx7 bC7 bA7 hkeep
                    go_upto_region 21 with fail
                    refine wp_region_mix [.take 0, .take 1, .take 2, .take 3, .take 4, .take 5, .take 9, .take 10, .one 6, .one 7, .take 8, .take 11, .take 12, .one 13] 13 (fun W => W.cell? ⟨N8, f2, none⟩ = some (.string (tx f2)) ∧ W.cell? ⟨C, 4, none⟩ = some (.int .i64 n0)) (by kernel_rfl) (by kernel_rfl) (fun _ _ _ _ _ h => h) ⟨xD.cell8 hf3, (cD.cells 4).trans rfl⟩ ?_
                    simp only [List.map_cons, List.map_nil, Ms.fill, List.getD_cons_zero, List.getD_cons_succ]
                    iterate 8 (refine mixT_take (by rfl) ?_ (fun w' hw' => ?_) ?_; rotate_left; (focus (go_simp; (try with_reducible rfl))); (try simp only [Act.put, List.setIfInBounds_toArray, List.set_cons_zero, List.set_cons_succ]))
                    obtain ⟨wd, hwd⟩ : ∃ wd, wd = w7.drew := ⟨_, rfl⟩
                    refine mixT_step (by rfl) fun K hK => ?_
                    have hmk := make_bytes n0 (by omega) (w7.drew)
                    rw [← hwd] at hmk rD xD cD aD kD ⊢
                    obtain ⟨we, hwe⟩ : ∃ we, we = wd.alloc (.cells (fill (.int .u8 0) n0) 5) := ⟨_, rfl⟩
                    have hBe : Below wd.heap.size wd we := by rw [hwe]; exact (Below.refl _ _).alloc (Nat.le_refl _) _
                    have hcv := conv_zeros n0 we (by rw [hwe]; exact reads_fill wd n0) n0
                    rw [← hwe] at hmk
                    clear hwd hwe
                    go_simp
                    refine hK _ _ (fun _ => ⟨(xD.below hBe).cell8 hf3, ((cD.belowAll hBe).cells 4).trans rfl⟩) ?_
                    clear hK K hmk
                    refine mixT_step (by rfl) fun K hK => ?_
                    go_simp
                    refine hK _ _ (fun _ => ⟨(xD.below hBe).cell8 hf3, ((cD.belowAll hBe).cells 4).trans rfl⟩) ?_
                    clear hK K hcv
                    have hzs := zerosB_size n0
                    have hcat : ¬ 9223372036854775807 < (tx f2).size + n0 := by omega
                    have hsl : (n0 : Int) ≤ (tx f2).size + n0 := by omega
                    iterate 3 (refine mixT_take (by rfl) ?_ (fun w' hw' => ?_) ?_; rotate_left; (focus (go_simp; (try with_reducible rfl))); (try simp only [Act.put, List.setIfInBounds_toArray, List.set_cons_zero, List.set_cons_succ]))
                    refine mixT_step (by rfl) fun K hK => ?_
                    rw [← HT.out]
                    clear hzs hcat hsl
                    generalize dcText (tx f2) n0 (tx f2).size = tn at *
                    have rE := rD.below hBe
                    have xE := xD.below hBe
                    have cE := cD.belowAll hBe
                    have aE := aD.belowAll hBe
                    have hcell8 := xE.cell8 hf3
                    have l8 := xE.b8.lt
                    have f8 := xE.b8.free
                    go_simp
                    refine hK _ _ (fun h => absurd h (by decide)) ?_
                    clear hK K
                    refine mixT_nil ?_
                    go_wp2_with fail
                    go_meet
                    case rel => exact ⟨rE.set_ (p := ⟨N8, f2, none⟩) xE.f8 xE.d8 hp0 hN8g _, xE.text f2 hf3 _, cE.far (p := ⟨N8, f2, none⟩) hC8 _, aE.far (p := ⟨N8, f2, none⟩) hA8 _, fun L h1 h2 => ((kD L h2).below hBe).set_ (p := ⟨N8, f2, none⟩) h1 _⟩
                · clear ht
                  go_wp2_with fail
                  go_meet
                  case rel => exact ⟨hr7, hx7, bC7, bA7, fun L _ h => hkeep L h⟩
                · go_wp2_with fail
                  go_meet
                  case rel => exact ⟨hr7, hx7, bC7, bA7, fun L _ h => hkeep L h⟩
                · go_wp2_with fail
                  go_meet
                  case rel => exact ⟨hr7, hx7, bC7, bA7, fun L _ h => hkeep L h⟩
              case rest =>
                as_aux_lemma =>
                  obtain ⟨hr8, hx8, bC8, bA8, hkeep8⟩ := hcut
                  have hkc : ∀ V, Calls Tryz.prog 13 #[.agg #[slOf As cs ls 0, slOf As cs ls 1, slOf As cs ls 2, .int .i64 (zsOf tx 0), .int .i64 (zsOf tx 1)], .agg #[.int .u8 wh, .int .u8 f, .int .i64 kd, .int .i64 off, .int .i64 n, .int .i64 size, .slice LA lm lc, .string s], .agg #[.int .i64 cw, .int .i64 ck, .int .i64 cz, .int .i64 co, .int .i64 cn, .slice ca cln clk, .string s, .slice P pn pc], .agg #[.slice RA ln lk, .slice PA pm pk, .string t, .int .i64 z, .int .i64 0]] V fun e w' =>
                      ∃ sl' zs', e = .returned (.agg (bookC (sl' 0) (sl' 1) (sl' 2) (zs' 0) (zs' 1))) ∧ Below V.heap.size V w' ∧ ((cw = 0 ∧ sl' = upd (slOf As cs ls) f2 (.slice RA ln lk) ∧ zs' = upd (zsOf tx) f2 z) ∨ (cw = 2 ∧ sl' = upd (slOf As cs ls) f2 (.slice RA ln lk) ∧ zs' = upd (zsOf tx) f2 cn) ∨ (cw = 5 ∧ sl' = upd (slOf As cs ls) 2 (.slice RA ln lk) ∧ zs' = zsOf tx) ∨ ((cw = 3 ∨ cw = 6) ∧ sl' = slOf As cs ls ∧ zs' = zsOf tx)) := fun V =>
                    kept_act (slOf As cs ls) (zsOf tx) (As 0) (As 1) (As 2) RA (ls 0).length (cs 0) (ls 1).length (cs 1) (ls 2).length (cs 2) ln lk wh f kd off n size (.slice LA lm lc) s cw ck cz co cn (.slice ca cln clk) (.slice P pn pc) (.slice PA pm pk) t z hf hwh h7 f2 hf2 rfl rfl rfl hcw V
                  have HKC := Lib.hid hkc
                  have hsc2 : ∀ V, Below w.heap.size w V → Blk V N7 38 (bookC (slOf As cs ls 0) (slOf As cs ls 1) (slOf As cs ls 2) (zsOf tx 0) (zsOf tx 1)) → Blk V C 44 (callC cw ck cz co cn (.slice ca cln clk) s (.slice P pn pc)) → Blk V AB 48 (ansC (.slice RA ln lk) (.slice PA pm pk) t z 0) → (fun W => W.cell? ⟨N7, 0, none⟩ = some (slOf As cs ls 0) ∧ W.cell? ⟨N7, 1, none⟩ = some (slOf As cs ls 1) ∧ W.cell? ⟨N7, 2, none⟩ = some (slOf As cs ls 2) ∧ W.cell? ⟨N7, 3, none⟩ = some (.int .i64 (zsOf tx 0)) ∧ W.cell? ⟨N7, 4, none⟩ = some (.int .i64 (zsOf tx 1)) ∧ W.cell? ⟨ab, ao + k * 8, none⟩ = some (.int .u8 wh) ∧ W.cell? ⟨ab, ao + k * 8 + 1, none⟩ = some (.int .u8 f) ∧ W.cell? ⟨ab, ao + k * 8 + 2, none⟩ = some (.int .i64 kd) ∧ W.cell? ⟨ab, ao + k * 8 + 3, none⟩ = some (.int .i64 off) ∧ W.cell? ⟨ab, ao + k * 8 + 4, none⟩ = some (.int .i64 n) ∧ W.cell? ⟨ab, ao + k * 8 + 5, none⟩ = some (.int .i64 size) ∧ W.cell? ⟨ab, ao + k * 8 + 6, none⟩ = some (.slice LA lm lc) ∧ W.cell? ⟨ab, ao + k * 8 + 7, none⟩ = some (.string s) ∧ W.cell? ⟨C, 0, none⟩ = some (.int .i64 cw) ∧ W.cell? ⟨C, 1, none⟩ = some (.int .i64 ck) ∧ W.cell? ⟨C, 2, none⟩ = some (.int .i64 cz) ∧ W.cell? ⟨C, 3, none⟩ = some (.int .i64 co) ∧ W.cell? ⟨C, 4, none⟩ = some (.int .i64 cn) ∧ W.cell? ⟨C, 5, none⟩ = some (.slice ca cln clk) ∧ W.cell? ⟨C, 6, none⟩ = some (.string s) ∧ W.cell? ⟨C, 7, none⟩ = some (.slice P pn pc) ∧ W.cell? ⟨AB, 0, none⟩ = some (.slice RA ln lk) ∧ W.cell? ⟨AB, 1, none⟩ = some (.slice PA pm pk) ∧ W.cell? ⟨AB, 2, none⟩ = some (.string t) ∧ W.cell? ⟨AB, 3, none⟩ = some (.int .i64 z) ∧ W.cell? ⟨AB, 4, none⟩ = some (.int .i64 0)) V := fun V hb b bc ba => by
                    obtain ⟨q0, q1, q2, q3, q4, q5, q6, q7⟩ := HCE.out V hb
                    exact ⟨(b.cells 0).trans rfl, (b.cells 1).trans rfl, (b.cells 2).trans rfl, (b.cells 3).trans rfl, (b.cells 4).trans rfl, q0, q1, q2, q3, q4, q5, q6, q7, (bc.cells 0).trans rfl, (bc.cells 1).trans rfl, (bc.cells 2).trans rfl, (bc.cells 3).trans rfl, (bc.cells 4).trans rfl, (bc.cells 5).trans rfl, (bc.cells 6).trans rfl, (bc.cells 7).trans rfl, (ba.cells 0).trans rfl, (ba.cells 1).trans rfl, (ba.cells 2).trans rfl, (ba.cells 3).trans rfl, (ba.cells 4).trans rfl⟩
                  have HSC2 := Lib.hid hsc2
                  have r9 := hr8.below (below_drewN' (Below.refl _ _) 1)
                  have x9 := hx8.below (below_drewN' (Below.refl _ _) 1)
                  have c9 := bC8.drewN 1
                  have a9 := bA8.drewN 1
                  have hkeep9 : ∀ L, (∀ a, RA = some a → a.block ≠ N8) → Keeps w6 F' RA lk L → Keeps (wc.drewN 1) F' RA lk L := fun L h1 h2 => (hkeep8 L h1 h2).below (below_drewN' (Below.refl _ _) 1)
                  clear hkc hsc2 hr8 hx8 bC8 bA8 hkeep8 hr7 hx7 bC7 bA7 hkeep cA lA cC lC hcell8 l8 f8
                  go_upto_region 22 with fail
                  refine wp_region_mix [.take 0, .take 1, .take 2, .take 3, .take 4, .take 5, .take 6, .one 7, .one 8] 8 (fun W => W.cell? ⟨N7, 0, none⟩ = some (slOf As cs ls 0) ∧ W.cell? ⟨N7, 1, none⟩ = some (slOf As cs ls 1) ∧ W.cell? ⟨N7, 2, none⟩ = some (slOf As cs ls 2) ∧ W.cell? ⟨N7, 3, none⟩ = some (.int .i64 (zsOf tx 0)) ∧ W.cell? ⟨N7, 4, none⟩ = some (.int .i64 (zsOf tx 1)) ∧ W.cell? ⟨ab, ao + k * 8, none⟩ = some (.int .u8 wh) ∧ W.cell? ⟨ab, ao + k * 8 + 1, none⟩ = some (.int .u8 f) ∧ W.cell? ⟨ab, ao + k * 8 + 2, none⟩ = some (.int .i64 kd) ∧ W.cell? ⟨ab, ao + k * 8 + 3, none⟩ = some (.int .i64 off) ∧ W.cell? ⟨ab, ao + k * 8 + 4, none⟩ = some (.int .i64 n) ∧ W.cell? ⟨ab, ao + k * 8 + 5, none⟩ = some (.int .i64 size) ∧ W.cell? ⟨ab, ao + k * 8 + 6, none⟩ = some (.slice LA lm lc) ∧ W.cell? ⟨ab, ao + k * 8 + 7, none⟩ = some (.string s) ∧ W.cell? ⟨C, 0, none⟩ = some (.int .i64 cw) ∧ W.cell? ⟨C, 1, none⟩ = some (.int .i64 ck) ∧ W.cell? ⟨C, 2, none⟩ = some (.int .i64 cz) ∧ W.cell? ⟨C, 3, none⟩ = some (.int .i64 co) ∧ W.cell? ⟨C, 4, none⟩ = some (.int .i64 cn) ∧ W.cell? ⟨C, 5, none⟩ = some (.slice ca cln clk) ∧ W.cell? ⟨C, 6, none⟩ = some (.string s) ∧ W.cell? ⟨C, 7, none⟩ = some (.slice P pn pc) ∧ W.cell? ⟨AB, 0, none⟩ = some (.slice RA ln lk) ∧ W.cell? ⟨AB, 1, none⟩ = some (.slice PA pm pk) ∧ W.cell? ⟨AB, 2, none⟩ = some (.string t) ∧ W.cell? ⟨AB, 3, none⟩ = some (.int .i64 z) ∧ W.cell? ⟨AB, 4, none⟩ = some (.int .i64 0)) (by kernel_rfl) (by kernel_rfl) (fun _ _ _ _ _ h => h) (HSC2.out _ r9.bl x9.b7 c9 a9) ?_
                  simp only [List.map_cons, List.map_nil, Ms.fill, List.getD_cons_zero, List.getD_cons_succ]
                  iterate 7 (refine mixT_take (by rfl) ?_ (fun w' hw' => ?_) ?_; rotate_left; (focus (go_simp; (try with_reducible rfl))); (try simp only [Act.put, List.setIfInBounds_toArray, List.set_cons_zero, List.set_cons_succ]))
                  refine mixT_step (by rfl) fun K hK => ?_
                  go_simp
                  refine (HKC.out (wc.drewN 1)).mono ?_
                  rintro e wk ⟨sl', zs', rfl, hbk2, hspk⟩
                  have rk := r9.below hbk2
                  have xk := x9.below hbk2
                  have ck' := c9.belowAll hbk2
                  have ak := a9.belowAll hbk2
                  refine hK _ _ (fun _ => HSC2.out _ rk.bl xk.b7 ck' ak) ?_
                  clear hK K
                  have hkey : ∃ (As' : Nat → Option Addr) (cs' : Nat → Nat), sl' = slOf As' cs' ls' ∧ zs' = zsOf tx' ∧ (∀ j, j < 3 → Keeps wk F' (As' j) (cs' j) (ls' j)) ∧ (∀ j a, j < 3 → As' j = some a → a.block ≠ N7) ∧ (∀ j a, j < 3 → As' j = some a → a.block ≠ N8) := by
                    have hkk : ∀ L, (∀ a, RA = some a → a.block ≠ N8) → Keeps w6 F' RA lk L → Keeps wk F' RA lk L := fun L h1 h2 => (hkeep9 L h1 h2).below hbk2
                    rcases hds with ⟨d0, L, rfl, hkp, hge, rfl, rfl, hz⟩ | ⟨d0, L, rfl, hkp, hge, rfl, rfl, hz⟩ | ⟨d0, rfl, rfl, ht⟩ | ⟨d0, L, rfl, hkp, hge, rfl, rfl⟩ | ⟨d0, rfl, rfl⟩
                    · have n7 : ∀ a, RA = some a → a.block ≠ N7 := fun a e => by have := hge a e; omega
                      have n8 : ∀ a, RA = some a → a.block ≠ N8 := fun a e => by have := hge a e; omega
                      rcases hspk with ⟨-, q1, q2⟩ | ⟨q0, -⟩ | ⟨q0, -⟩ | ⟨q0, -⟩
                      · exact ⟨upd As f2 RA, upd cs f2 lk, q1.trans (slOf_upd _ _ _ _ _ _ _), q2.trans ((congrArg (upd (zsOf tx) f2) hz).trans (zsOf_upd _ _ _)), keeps_upd xk.kp (hkk L n8 hkp), far_upd xk.k7 n7, far_upd xk.k8 n8⟩
                      · omega
                      · omega
                      · omega
                    · have n7 : ∀ a, RA = some a → a.block ≠ N7 := fun a e => by have := hge a e; omega
                      have n8 : ∀ a, RA = some a → a.block ≠ N8 := fun a e => by have := hge a e; omega
                      rcases hspk with ⟨q0, -⟩ | ⟨-, q1, q2⟩ | ⟨q0, -⟩ | ⟨q0, -⟩
                      · omega
                      · exact ⟨upd As f2 RA, upd cs f2 lk, q1.trans (slOf_upd _ _ _ _ _ _ _), q2.trans ((congrArg (upd (zsOf tx) f2) hz).trans (zsOf_upd _ _ _)), keeps_upd xk.kp (hkk L n8 hkp), far_upd xk.k7 n7, far_upd xk.k8 n8⟩
                      · omega
                      · omega
                    · rcases hspk with ⟨q0, -⟩ | ⟨q0, -⟩ | ⟨q0, -⟩ | ⟨-, q1, q2⟩
                      · omega
                      · omega
                      · omega
                      · exact ⟨As, cs, q1, q2, xk.kp, xk.k7, xk.k8⟩
                    · have n7 : ∀ a, RA = some a → a.block ≠ N7 := fun a e => by have := hge a e; omega
                      have n8 : ∀ a, RA = some a → a.block ≠ N8 := fun a e => by have := hge a e; omega
                      rcases hspk with ⟨q0, -⟩ | ⟨q0, -⟩ | ⟨-, q1, q2⟩ | ⟨q0, -⟩
                      · omega
                      · omega
                      · exact ⟨upd As 2 RA, upd cs 2 lk, q1.trans (slOf_upd _ _ _ _ _ _ _), q2, keeps_upd xk.kp (hkk L n8 hkp), far_upd xk.k7 n7, far_upd xk.k8 n8⟩
                      · omega
                    · rcases hspk with ⟨q0, -⟩ | ⟨q0, -⟩ | ⟨q0, -⟩ | ⟨-, q1, q2⟩
                      · omega
                      · omega
                      · omega
                      · exact ⟨As, cs, q1, q2, xk.kp, xk.k7, xk.k8⟩
                  obtain ⟨As', cs', rfl, rfl, kp', k7', k8'⟩ := hkey
                  refine mixT_step (by rfl) fun K hK => ?_
                  have hst := storeRow (ty := 38) (vs := bookC (slOf As' cs' ls' 0) (slOf As' cs' ls' 1) (slOf As' cs' ls' 2) (zsOf tx' 0) (zsOf tx' 1)) xk.b7 rfl (by simp [slOf, Value.oneCell']) (by kernel_rfl)
                  refine op_storeBy _ _ _ rfl _ _ rfl rfl hst ?_
                  refine hK _ _ (fun h => absurd h (by decide)) ?_
                  clear hK K
                  refine mixT_nil ?_
                  obtain ⟨wB, hwB⟩ : ∃ wB, wB = wk.setRow N7 (bookC (slOf As' cs' ls' 0) (slOf As' cs' ls' 1) (slOf As' cs' ls' 2) (zsOf tx' 0) (zsOf tx' 1)) := ⟨_, rfl⟩
                  have rB := rk.row (g := N7) xk.f7 xk.d7 hp0 hN7g (bookC (slOf As' cs' ls' 0) (slOf As' cs' ls' 1) (slOf As' cs' ls' 2) (zsOf tx' 0) (zsOf tx' 1))
                  have xB := xk.book (zs' := zsOf tx') kp' k7' k8'
                  have cB := (setRow_other wk N7 C (bookC (slOf As' cs' ls' 0) (slOf As' cs' ls' 1) (slOf As' cs' ls' 2) (zsOf tx' 0) (zsOf tx' 1)) hC7).trans ck'
                  have aB := (setRow_other wk N7 AB (bookC (slOf As' cs' ls' 0) (slOf As' cs' ls' 1) (slOf As' cs' ls' 2) (zsOf tx' 0) (zsOf tx' 1)) hA7).trans ak
                  rw [← hwB] at rB xB cB aB ⊢
                  clear hst hwB rk xk ck' ak kp' k7' k8' r9 x9 c9 a9 hkeep9 hspk hbk2
                  as_aux_lemma =>
                    have hrg := HSP.out.rg (HSZ.out f2 hf3).1
                    have hbz : ∀ j, j < 2 → (tx' j).size ≤ 768 := fun j hj => (hbk'.lst hj).2.sz
                    have hln : ∀ j, j < 2 → (ls' j).length ≤ 1000 := fun j hj => by
                      have := (hbk'.lst hj).2.len
                      have := hbz j hj
                      unfold nCuts at *; omega
                    have hrd : ∀ m V, m < 2 → Below wB.heap.size wB V → Calls Tryz.prog 14 #[.pointer (some ⟨T, 0, none⟩), .int .i64 8, .slice (As' m) (ls' m).length (cs' m), .int .i64 (tx' m).size, .int .i64 0, .int .i64 768] V fun e w' => e = .returned (.tuple #[.string (tx' m), .int .i64 0]) ∧ Below V.heap.size V w' := fun m V hm hb => by
                      have := dread_tx T F' D y' B x 8 (As' m) (cs' m) (ls' m) (hln m hm) ((tx' m).size) 0 768 (by have := hbz m hm; omega) V (rB.below hb).td.tx (rB.below hb).td.dev ((xB.below hb).kp m (by omega)).sl
                      rw [read_whole hbk'.st (hbk'.lst hm).1 (hbk'.lst hm).2] at this
                      exact this
                    have hc7 : ∀ m V, m < 2 → Below wB.heap.size wB V → V.cell? ⟨N7, m, none⟩ = some (.slice (As' m) (ls' m).length (cs' m)) ∧ V.cell? ⟨N7, 3 + m, none⟩ = some (.int .i64 (tx' m).size) ∧ V.cell? ⟨N8, m, none⟩ = some (.string (tx' m)) := fun m V hm hb => by
                      have x := xB.below hb
                      exact ⟨(x.cell7 hm).1, (x.cell7 hm).2, x.cell8 hm⟩
                    have HRD := Lib.hid hrd
                    have HC7 := Lib.hid hc7
                    have HRG := Lib.hid hrg
                    have HBZ := Lib.hid hbz
                    have HDS := Lib.hid hds
                    have HBK := Lib.hid hbk'
                    have HRB := Lib.hid rB
                    have HXB := Lib.hid xB
                    have HCB : Hid (Blk wB C 44 (callC cw ck cz co cn (.slice ca cln clk) s (.slice P pn pc))) := Lib.hid cB
                    have HAB2 : Hid (Blk wB AB 48 (ansC (.slice RA ln lk) (.slice PA pm pk) t z 0)) := Lib.hid aB
                    clear hrd hc7 hrg hbz hln hds hbk' rB xB cB aB
                    go_wp2_with fail
                    go_loopw [13] (fun q wr2 => ∃ m : Nat, m ≤ 2 ∧ q = .int .i64 m ∧ Below wB.heap.size wB wr2) (fun q _ => 2 - (RowKit.intOf q).toNat)
                    case atStart => exact ⟨0, by omega, rfl, Below.refl _ _⟩
                    case round =>
                      obtain ⟨m, hm, rfl, hbm⟩ := hrel
                      by_cases hm2 : m < 2
                      · have hmi : (m : Int) < 2 := by omega
                        as_aux_lemma =>
                          have hmi3 : (m : Int) < 3 := by omega
                          have HBM := Lib.hid hbm
                          clear hbm
                          go_upto_region 26 with fail
                          refine wp_region_mix [.take 0, .take 1, .take 2, .take 3, .take 4, .take 5, .take 6, .take 7, .take 8, .one 9, .take 10, .take 11, .take 12, .take 13, .take 14] 15 (fun W => W.cell? ⟨N7, m, none⟩ = some (.slice (As' m) (ls' m).length (cs' m)) ∧ W.cell? ⟨N7, 3 + m, none⟩ = some (.int .i64 (tx' m).size) ∧ W.cell? ⟨N8, m, none⟩ = some (.string (tx' m))) (by kernel_rfl) (by kernel_rfl) (fun _ _ _ _ _ h => h) (HC7.out m _ hm2 (HBM.out.trans (below_drewN' (Below.refl _ _) 1))) ?_
                          simp only [List.map_cons, List.map_nil, Ms.fill, List.getD_cons_zero, List.getD_cons_succ]
                          iterate 9 (refine mixT_take (by rfl) ?_ (fun w' hw' => ?_) ?_; rotate_left; (focus (go_simp; (try with_reducible rfl))); (try simp only [Act.put, List.setIfInBounds_toArray, List.set_cons_zero, List.set_cons_succ]))
                          refine mixT_step (by rfl) fun K hK => ?_
                          go_simp
                          refine (HRD.out m (wr.drewN 1) hm2 (HBM.out.trans (below_drewN' (Below.refl _ _) 1))).mono ?_
                          rintro e w9 ⟨rfl, hb9⟩
                          have B9 : Below wB.heap.size wB w9 := (HBM.out.trans (below_drewN' (Below.refl _ _) 1)).trans (hb9.mono (by have := HBM.out.size; simpa using this))
                          refine hK _ _ (fun _ => HC7.out m _ hm2 B9) ?_
                          clear hK K hb9
                          iterate 5 (refine mixT_take (by rfl) ?_ (fun w' hw' => ?_) ?_; rotate_left; (focus (go_simp; (try with_reducible rfl))); (try simp only [Act.put, List.setIfInBounds_toArray, List.set_cons_zero, List.set_cons_succ]))
                          refine mixT_nil ?_
                          go_wp2_with fail
                          obtain ⟨q1, q2, q3⟩ := HC7.out m w9 hm2 B9
                          go_quiet (fail)
                          clear q1 q2 q3
                          go_wp2_with fail
                          go_roundw
                          case rel => exact ⟨m + 1, by omega, by go_num, B9.trans (below_drewN' (Below.refl _ _) _)⟩
                          case measure => simp [RowKit.intOf]; omega
                      · obtain rfl : m = 2 := by omega
                        as_aux_lemma =>
                          have hfi : (f2 : Int) < 2 := by omega
                          have hrg := HRG.out
                          have hb8 := HBZ.out f2 hf3
                          have hbz := (hbk.lst hf3).2.sz
                          have hco1 : co ≤ (tx f2).size := hrg.2.1
                          obtain ⟨a0, rfl⟩ : ∃ a0 : Nat, co = a0 := ⟨co.toNat, by omega⟩
                          obtain ⟨b0, rfl⟩ : ∃ b0 : Nat, cn = b0 := ⟨cn.toNat, by omega⟩
                          obtain ⟨lo, hlo⟩ : ∃ lo : Nat, min (a0 : Int) (tx' f2).size = lo := ⟨_, (Int.toNat_of_nonneg (by omega)).symm⟩
                          obtain ⟨hi, hhi⟩ : ∃ hi : Nat, min ((a0 : Int) + b0) (tx' f2).size = hi := ⟨_, (Int.toNat_of_nonneg (by omega)).symm⟩
                          have hlh : lo ≤ hi := by omega
                          have hhs : hi ≤ (tx' f2).size := by omega
                          have hw64 : IntKind.i64.wrap ((a0 : Int) + b0) = a0 + b0 := by rw [IntKind.wrap_i64]; omega
                          have ht2 : cw = 3 → t = (tx' f2).extract lo hi := fun h3 => by
                            rcases HDS.out with ⟨q, -⟩ | ⟨q, -⟩ | ⟨-, -, q, ht⟩ | ⟨q, -⟩ | ⟨q, -⟩
                            · omega
                            · omega
                            · rw [ht, rd_same (tx f2) a0 b0 lo hi (by omega) (by rw [← q]; exact hlo) (by rw [← q]; exact hhi), q]
                            · omega
                            · omega
                          have HT2 := Lib.hid ht2
                          have BZ : Below wB.heap.size wB wr.drew := hbm.drew
                          have HBZ1 := Lib.hid BZ
                          have HLH := Lib.hid hlh
                          have HHS := Lib.hid hhs
                          clear ht2 hrg hb8 hbz hco1 hbm BZ hlh hhs
                          go_upto_region 29 with fail
                          refine wp_region_mix [.take 0, .take 1, .take 2, .take 3, .take 4, .take 5, .take 6, .take 7, .take 8, .take 9, .take 10, .take 11, .take 12, .take 13, .take 14, .take 15, .take 16, .take 17, .take 18] 19 (fun W => W.cell? ⟨N8, f2, none⟩ = some (.string (tx' f2)) ∧ W.cell? ⟨C, 3, none⟩ = some (.int .i64 a0) ∧ W.cell? ⟨C, 4, none⟩ = some (.int .i64 b0)) (by kernel_rfl) (by kernel_rfl) (fun _ _ _ _ _ h => h) ⟨(HC7.out f2 _ hf3 HBZ1.out).2.2, ((HCB.out.belowAll HBZ1.out).cells 3).trans rfl, ((HCB.out.belowAll HBZ1.out).cells 4).trans rfl⟩ ?_
                          simp only [List.map_cons, List.map_nil, Ms.fill, List.getD_cons_zero, List.getD_cons_succ]
                          iterate 19 (refine mixT_take (by rfl) ?_ (fun w' hw' => ?_) ?_; rotate_left; (focus (go_simp; (try with_reducible rfl))); (try simp only [Act.put, List.setIfInBounds_toArray, List.set_cons_zero, List.set_cons_succ]))
                          refine mixT_nil ?_
                          clear hlo hhi hw64
                          obtain ⟨wz, hwz⟩ : ∃ wz, wz = wr.drew := ⟨_, rfl⟩
                          rw [← hwz] at HBZ1 ⊢
                          clear hwz
                          have BZ := HBZ1.out
                          have q8 := (HC7.out f2 wz hf3 BZ).2.2
                          have qc := ((HCB.out.belowAll BZ).cells 0)
                          have qa := ((HAB2.out.belowAll BZ).cells 2)
                          have hlh := HLH.out
                          have hhs := HHS.out
                          have hrZ := HRB.out.below BZ
                          have hxZ := HXB.out.below BZ
                          have HRZ := Lib.hid (fun n => hrZ.below (below_drewN' (Below.refl _ _) n))
                          have HXZ : Hid (∀ n, BoxAt (wz.drewN n) F' B N7 N8 ls' (zsOf tx') tx' As' cs') := Lib.hid (fun n => hxZ.below (below_drewN' (Below.refl _ _) n))
                          clear BZ hrZ hxZ
                          by_cases h3 : cw = 3
                          · obtain rfl := HT2.out h3
                            subst h3
                            go_upto_region 30 with fail
                            go_quiet (fail)
                            clear q8 qc qa
                            go_wp2_with fail
                            go_roundw
                            case rel => exact ⟨k + 1, F', y', ls', tx', As', cs', by omega, by go_num, HRZ.out _, HBK.out, HXZ.out _⟩
                            case measure => simp [RowKit.intOf]; omega
                          · have hq3 : (cw == 3) = false := by simpa using h3
                            go_upto_region 30 with fail
                            go_quiet (fail)
                            clear q8 qc qa
                            go_wp2_with fail
                            go_roundw
                            case rel => exact ⟨k + 1, F', y', ls', tx', As', cs', by omega, by go_num, HRZ.out _, HBK.out, HXZ.out _⟩
                            case measure => simp [RowKit.intOf]; omega
    · obtain rfl : k = xs.length := by omega
      have BW := hr.bl
      have haw : Calls Tryz.prog 8 #[] wr (fun e w' => e = .returned (.bool true) ∧ Below wr.heap.size wr w') := awake_any wr (HH.out.below BW hp0)
      clear hr hx
      go_wp2_with fail
      refine haw.mono ?_
      rintro e w5 ⟨rfl, hb5⟩
      go_wp2_with fail
      go_ret
      exact ⟨rfl, BW.trans (hb5.mono BW.size)⟩
end Go.Proofs.YtljmdcegcckblaaGreatDoor
/- P12.6: DataArray: the row proved, and its tied card. -/
namespace Go.Proofs.YtljmdcegcckblaaGreatDoor
open Go.ChangeShapes Go.WideShapes Go.ChangeAt Go.RowKit Go.Joins Go.Deep

set_option maxRecDepth 100000 in
theorem array_lifted (os : Os) (started : os.Started) (H : Type) (enc : TypeId × Value → H) :
    ReturnsInHanded {} Tryz.checked os 3 .any (fun w args => (Rows.dataArraySpec.pre enc Tryz.prog Tryz.f3 [] false w args ∧ laidMetH Tryz.prog half1 w) ∧ sizedMet enc Tryz.prog Tryz.f3 (OpenSpec.ofChange Rows.dataArraySpec) false w args)
      (Rows.dataArraySpec.post enc Tryz.prog Tryz.f3 false true false false) := by
  refine returnsInHanded_of_change_and (C := Tryz.checked) (X := fun w _ => laidMetH Tryz.prog half1 w) (fun _ _ _ hh h => h.of_heap hh) Tryz.own started (by kernel_rfl) Tryz.func3
    (ChangeSpec.witness_shaped (enc := enc) (C := Tryz.checked) (os := os) (X := fun w _ => laidMetH Tryz.prog half1 w) false (World.doorLaid Tryz.prog 400 os) #[.agg #[.int .u8 0, .int .u8 0], .slice none 0 0] 8 rfl (World.shaped_of_RefB (by kernel_rfl) (by kernel_rfl)) (by kernel_rfl) (by kernel_rfl) (by kernel_rfl) (door_met os _)) ?_
  intro W base args ds gs before hval0 hW _ _ hL _
  have hval : ∀ (j : Nat) t v, Tryz.f3.params[j]? = some t → args[j]? = some v → Value.okWide Tryz.prog W .any base t v := hval0
  have hW' := hW
  obtain ⟨p, q, hA0, hV, rfl, hfz, hnd⟩ := hW
  have hA : DataW.TrodAll enc Tryz.prog W 0 (fun _ => true) true Tryz.f3.params.toList args.toList ds p := hA0
  rw [Tryz.params3] at hA hval
  obtain ⟨v0, v1, d0, d1, p0, p1, rfl, rfl, rfl, h0, h1⟩ := trodAll_two hA
  obtain ⟨rfl, rfl⟩ := trodVars_none hV
  have hH := half_of_laid hL
  have h0k := h0
  have h1k := h1
  clear hA0 hval0
  simp only [List.append_nil] at hW'
  have hlt0 : ∀ x ∈ p0, x.block < W.heap.size := fun x hx => by simpa using hW'.lt x (by simp [hx])
  have hlt1 : ∀ x ∈ p1, x.block < W.heap.size := fun x hx => by simpa using hW'.lt x (by simp [hx])
  obtain ⟨jn, ino, rfl, hj, hi⟩ := open_start (hval 0 23 v0 rfl rfl) h0
  obtain ⟨A, c, xs, rfl, hR, hok, hl⟩ := open_actv (hval 1 24 v1 rfl rfl) h1
  refine (dataArray_any jn ino hj hi A c xs hl W hok hH hR).mono fun e W' ⟨he, hnx⟩ => ?_
  subst he
  refine ⟨_, rfl, _, _, _, [], p0 ++ p1, [], hW', ?_, ?_, rfl, hnx.frame _, fun h => by cases h⟩
  · exact trodAll_mk1 (shut_bool Tryz.underlying4 true)
  · exact trodAll_mk2 (Below.trod Tryz.laidOut (by kernel_rfl) (of_decide_eq_true (by kernel_rfl)) h0k hnx hlt0) (Below.trod Tryz.laidOut (by kernel_rfl) (of_decide_eq_true (by kernel_rfl)) h1k hnx hlt1)

theorem dataArray_holds : Rows.DataArraySaid :=
  OpenClaim.holds_of_wide 3 Tryz.f3 rfl rfl rfl rfl rfl rfl rfl ⟨rfl, rfl, rfl, rfl, rfl⟩ rfl rfl rfl rfl rfl (by kernel_rfl) Tryz.func3 (by kernel_rfl)
    (of_decide_eq_true (by kernel_rfl)) (by unfold Func.isWrapper; first | (rw [if_pos (by decide +kernel)]; kernel_rfl) | (rw [if_neg (by decide +kernel)]; exact ⟨rfl, rfl⟩))
    (fun os started H enc _ => array_lifted os started H enc)

theorem dataArrayCard_holds : Rows.DataArrayCardSaid :=
  Claim7.holds_tied_plain_at .later [] [.data] true (true, "13a9981fa89d584258343d5f94a49ba00e5d7457fcac4b4ffe77bfe81a809aa0") false
    dataArray_holds (fun _ h => by cases h) (by kernel_rfl) (fun _ h => by cases h) dataArray_row_tie rfl ⟨rfl, rfl⟩ (by kernel_rfl) rfl
    (fun f fn hf hfn => by
      obtain rfl : f = 3 := Option.some.inj ((show Tryz.prog.funcNamed "limewash/limewashlaw12.DataArray" = some 3 by kernel_rfl).symm.trans hf) |>.symm
      obtain rfl : fn = Tryz.f3 := (Option.some.inj (Tryz.func3.symm.trans hfn)).symm
      exact ⟨by kernel_rfl, fun j t ht => by
        rw [Tryz.params3] at ht
        have hm : t ∈ [23, 24] := by simpa using Array.mem_of_getElem? ht
        have hall : ([23, 24].all fun u => !Tryz.prog.wantsStandIn u) = true := by kernel_rfl
        exact (show Tryz.prog.wantsStandIn t = false by simpa using List.all_eq_true.1 hall t hm)⟩)
    (by kernel_rfl)

#print axioms dataArrayCard_holds
end Go.Proofs.YtljmdcegcckblaaGreatDoor
