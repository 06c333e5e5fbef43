/- Parts of the proof, put together by program: DT, DS, DQ, DK, DR. -/
import Derived.Test.YtljmdcegcckblaaGreatDoorPart41
import Derived.Test.YtljmdcegcckblaaGreatDoorPart49
import Derived.Test.YtljmdcegcckblaaGreatDoorPart19
import Derived.Test.YtljmdcegcckblaaGreatDoorPart18
import Derived.Test.YtljmdcegcckblaaGreatDoorPart13
import Derived.Test.YtljmdcegcckblaaGreatDoorPart08
import Derived.Test.YtljmdcegcckblaaGreatDoorRows
import Derived.Test.YtljmdcegcckblaaGreatDoorCards
import Derived.Test.YtljmdcegcckblaaGreatDoorTie
import Derived.Test.YtljmdcegcckblaaGreatDoorPart42
import Derived.ProofKit
import Derived.Lib.LaidTab
import Derived.Lib.SmallJoins
import Derived.LaidMore
import Derived.OpenShut
import Derived.Stop.Joined
import Derived.SevenTiedAt
/- The laws of layer 12: any act, raw ones too. -/
namespace Go.Proofs.YtljmdcegcckblaaGreatDoor
open Go.RowKit Go.Maps

/-- A list that is known: but where it is empty, its block is older than a mark, and none of the transaction's. -/
structure Knows (w : World) (F : List Nat) (n0 : Nat) (A : Option Addr) (c : Nat) (l : List Int) : Prop where
  sl : SlI w A c l
  out : l ≠ [] → ∀ a, A = some a → a.block ∉ F ∧ a.block < n0
theorem Reads.nil_map {w : World} {A : Option Addr} : Reads w A (([] : List Int).map (.int .i64)) := .inl rfl
section
variable {n0 : Nat} {w w' : World} {F F' : List Nat} {A : Option Addr} {c : Nat} {l : List Int}
theorem Knows.of_keeps (h : Keeps w F A c l) (hn : ∀ a, A = some a → a.block < n0) : Knows w F n0 A c l := ⟨h.sl, fun _ a e => ⟨(h.out a e).1, hn a e⟩⟩
theorem Knows.below (h : Knows w F n0 A c l) (hb : Below w.heap.size w w') : Knows w' F n0 A c l := ⟨h.sl.below hb, h.out⟩
theorem Knows.grow (h : Knows w F n0 A c l) (hn : n0 ≤ w.heap.size) (g : Grow w F w' F') : Knows w' F' n0 A c l := by
  by_cases hl : l = []
  · subst hl
    exact ⟨⟨Reads.nil_map, h.sl.nil, h.sl.cap⟩, fun h => absurd rfl h⟩
  · exact ⟨⟨h.sl.reads.growF g fun a e => (h.out hl a e).1, h.sl.nil, h.sl.cap⟩, fun _ a e => ⟨g.notin (h.out hl a e).1 (by have := (h.out hl a e).2; omega), (h.out hl a e).2⟩⟩
theorem Knows.row (h : Knows w F n0 A c l) {g : Nat} (hg : n0 ≤ g) (cs : Array Value) : Knows (w.setRow g cs) F n0 A c l := by
  by_cases hl : l = []
  · subst hl
    exact ⟨⟨Reads.nil_map, h.sl.nil, h.sl.cap⟩, fun h => absurd rfl h⟩
  · refine ⟨⟨?_, h.sl.nil, h.sl.cap⟩, h.out⟩
    rcases h.sl.reads with h0 | ⟨b, off, e, hl9, hc⟩
    · exact .inl h0
    · exact .inr ⟨b, off, e, by simpa using hl9, fun j v hv => (World.cell?_of_block (w := w) (a := ⟨b, off + j, none⟩) (setRow_other _ _ _ _ (by have := (h.out hl _ e).2; show b ≠ g; simp only at this; omega))).trans (hc j v hv)⟩
end

/-- What is asked of the transaction, whichever act it is: a list that is known, numbers of a machine. -/
structure OfAny (n0 m0 : Nat) (W : World) (F : List Nat) (cw cz co cn : Int) (A : Option Addr) (c : Nat) (L : List Int) (P : Option Addr) (pn : Nat) : Prop where
  hcw : cw = 0 ∨ cw = 2 ∨ cw = 3 ∨ cw = 5 ∨ cw = 6
  hcz : -9223372036854775808 ≤ cz ∧ cz ≤ 9223372036854775807
  hco : -9223372036854775808 ≤ co ∧ co ≤ 9223372036854775807
  hcn : -9223372036854775808 ≤ cn ∧ cn ≤ 9223372036854775807
  kp : Knows W F n0 A c L
  len : L.length ≤ 1000
  ps : cw = 5 → ∃ ps : List ByteArray, ps.length = pn ∧ pn ≤ 901 ∧ (∀ p ∈ ps, p.size ≤ 1000) ∧ Reads W P (ps.map .string) ∧ ∀ a, P = some a → m0 ≤ a.block ∧ a.block < W.heap.size
section
variable {n0 m0 : Nat} {W W' : World} {F : List Nat} {cw cz co cn : Int} {A : Option Addr} {c : Nat} {L : List Int} {P : Option Addr} {pn : Nat}
theorem OfAny.below (h : OfAny n0 m0 W F cw cz co cn A c L P pn) (hb : Below W.heap.size W W') : OfAny n0 m0 W' F cw cz co cn A c L P pn :=
  ⟨h.hcw, h.hcz, h.hco, h.hcn, h.kp.below hb, h.len, fun e => by
    obtain ⟨ps, p1, p2, p3, p4, p5⟩ := h.ps e
    exact ⟨ps, p1, p2, p3, p4.below hb, fun a e => ⟨(p5 a e).1, Nat.lt_of_lt_of_le (p5 a e).2 hb.size⟩⟩⟩
theorem OfAny.row (h : OfAny n0 m0 W F cw cz co cn A c L P pn) {g : Nat} (h1 : n0 ≤ g) (h2 : ∀ b, m0 ≤ b → b < W.heap.size → b ≠ g) (cs : Array Value) : OfAny n0 m0 (W.setRow g cs) F cw cz co cn A c L P pn :=
  ⟨h.hcw, h.hcz, h.hco, h.hcn, h.kp.row h1 cs, h.len, fun e => by
    obtain ⟨ps, p1, p2, p3, p4, p5⟩ := h.ps e
    refine ⟨ps, p1, p2, p3, ?_, fun a e => ⟨(p5 a e).1, by simpa using (p5 a e).2⟩⟩
    rcases p4 with h0 | ⟨b, off, e, hl, hc⟩
    · exact .inl h0
    · have hb := p5 _ e
      exact .inr ⟨b, off, e, by simpa using hl, fun j v hv => (World.cell?_of_block (w := W) (a := ⟨b, off + j, none⟩) (setRow_other _ _ _ _ (h2 b hb.1 hb.2))).trans (hc j v hv)⟩⟩
/-- The call's box is made behind the call. -/
theorem OfAny.made {w2 : World} (h : OfAny n0 m0 W F cw cz co cn A c L P pn) (h1 : n0 ≤ W.heap.size) (hb : Below W.heap.size W w2) (cs : Array Value) : OfAny n0 m0 (w2.setRow W.heap.size cs) F cw cz co cn A c L P pn :=
  ⟨h.hcw, h.hcz, h.hco, h.hcn, (h.kp.below hb).row h1 cs, h.len, fun e => by
    obtain ⟨ps, p1, p2, p3, p4, p5⟩ := h.ps e
    refine ⟨ps, p1, p2, p3, ?_, fun a e => ⟨(p5 a e).1, by have := (p5 a e).2; have := hb.size; simp; omega⟩⟩
    rcases p4.below hb with h0 | ⟨b, off, e, hl, hc⟩
    · exact .inl h0
    · have hb9 := p5 _ e
      exact .inr ⟨b, off, e, by simpa using hl, fun j v hv => (World.cell?_of_block (w := w2) (a := ⟨b, off + j, none⟩) (setRow_other _ _ _ _ (by have := hb9.2; show b ≠ _; simp only at this; omega))).trans (hc j v hv)⟩⟩
end

def OfAnyPost (n0 : Nat) (w : World) (F : List Nat) (s : ByteArray) (e : Ending) (w' : World) : Prop :=
  Below w.heap.size w w' ∧ ∃ cw ck cz co cn A c L P pn pc, e = .returned (.agg (callC cw ck cz co cn (.slice A (L : List Int).length c) s (.slice P pn pc))) ∧ OfAny n0 w.heap.size w' F cw cz co cn A c L P pn

/-- An act that came in, read in a world behind. -/
theorem act_knows {w0 w : World} {F : List Nat} {n0 : Nat} {a : ActV} (ok : ActOk w0 a) (hn : w0.heap.size ≤ n0) (hb : Below w0.heap.size w0 w) (hF : ∀ b ∈ F, w0.heap.size ≤ b) : ∃ l : List Int, l.length = a.m ∧ Knows w F n0 a.A a.c l := by
  obtain ⟨l, h1, h2, h3, h4⟩ := ok.list
  refine ⟨l, h1, ⟨h2.below hb, fun e => ⟨List.length_eq_zero_iff.1 (by have := (h4 e).1; omega), (h4 e).2⟩, by omega⟩, fun hl a e => ?_⟩
  rcases h2 with h2 | ⟨b, off, e2, hlt, -⟩
  · exact absurd (List.map_eq_nil_iff.1 h2) hl
  · rw [e] at e2
    obtain rfl := Option.some.inj e2
    exact ⟨fun hm => by have := hF _ hm; simp only at this; omega, by simp only; omega⟩

theorem of_any {w0 w : World} {F : List Nat} {a : ActV} (ok : ActOk w0 a) (hb : Below w0.heap.size w0 w) (hF : ∀ b ∈ F, w0.heap.size ≤ b) (hbig : bigA a = false) (ls : Nat → List Int) (zs : Nat → Int) (As : Nat → Option Addr) (cs : Nat → Nat) (hz : ∀ k, k < 2 → 0 ≤ zs k ∧ zs k ≤ 10000) (hk : ∀ k, k < 3 → Keeps w F (As k) (cs k) (ls k)) (hl : ∀ k, k < 3 → (ls k).length ≤ 1000) (w1 : World) (h1 : Below w.heap.size w w1) :
    Calls Tryz.prog 11 #[.agg (actC a.wh a.f a.kd a.off a.n a.size (.slice a.A a.m a.c) a.s), .agg (bookC (slOf As cs ls 0) (slOf As cs ls 1) (slOf As cs ls 2) (zs 0) (zs 1))] w1 (OfAnyPost w.heap.size w1 F a.s) := by
  have hs9 : a.s.size ≤ 900 := by unfold bigA at hbig; simp at hbig; omega
  have hm : a.m ≤ 20 := by unfold bigA at hbig; simp at hbig; omega
  have hk1 : ∀ k, k < 3 → ∀ W, Below w1.heap.size w1 W → Keeps W F (As k) (cs k) (ls k) := fun k h W hW => (hk k h).below (h1.trans (hW.mono h1.size))
  have hkl : ∀ k, k < 3 → ∀ p, As k = some p → p.block < w.heap.size := fun k h p e => ((hk k h).out p e).2
  by_cases h7 : a.wh % 8 = 7
  · obtain ⟨l, e1, e2⟩ := act_knows (n0 := w.heap.size) ok hb.size hb hF
    rw [← e1]
    refine (of_raw7 (As 0) (As 1) (As 2) (ls 0).length (cs 0) (ls 1).length (cs 1) (ls 2).length (cs 2) (zs 0) (zs 1) a.wh a.f a.kd a.off a.n a.size a.A l.length a.c a.s hs9 ok.f ok.wh h7 ok.size w1).mono ?_
    rintro e w' ⟨hbb, ci, pv, hci, rfl, ps, ho, hp1, hp2⟩
    obtain ⟨P, pc, rfl⟩ := own_slice ho
    exact ⟨hbb, ci, _, _, _, _, a.A, a.c, l, P, _, pc, rfl, hci, ok.size, ok.off, ok.n, e2.below (h1.trans (hbb.mono h1.size)), by omega, fun _ => ⟨ps, rfl, hp1, hp2, Reads.of_own ho, fun q e => by subst e; exact own_lt ho q.block rfl⟩⟩
  · obtain ⟨f2, hf2⟩ : ∃ f2 : Nat, a.f % 2 = f2 := ⟨(a.f % 2).toNat, by omega⟩
    have hf3 : f2 < 2 := by omega
    refine (of_act (As 0) (As 1) (As 2) (ls 0).length (cs 0) (ls 1).length (cs 1) (ls 2).length (cs 2) zs a.wh a.f a.kd a.off a.n a.size _ a.s hs9 hz ok.off ok.n ok.size ok.f ok.wh h7 f2 hf2 (slOf As cs ls) rfl rfl rfl w1).mono ?_
    rintro e w' ⟨hbb, cw, ck, cz, co, cn, cl, P, pn, pc, rfl, hsp⟩
    have hz2 := hz f2 hf3
    rcases hsp with ⟨rfl, rfl, rfl, q1, q2, rfl, rfl⟩ | ⟨rfl, rfl, rfl, rfl, q1, q2, rfl⟩ | ⟨rfl, rfl, rfl, q1, q2, q3, q4, rfl⟩ | ⟨q, rfl, rfl, rfl, rfl, rfl, ps, rfl, q1, q2, q3, q4⟩
    · exact ⟨hbb, 0, _, _, _, _, As f2, cs f2, ls f2, P, pn, pc, rfl, by simp, by omega, by omega, by omega, Knows.of_keeps (hk1 f2 (by omega) _ hbb) (hkl f2 (by omega)), hl f2 (by omega), fun h => by cases h⟩
    · exact ⟨hbb, 2, _, _, _, _, As f2, cs f2, ls f2, P, pn, pc, rfl, by simp, by omega, by omega, by omega, Knows.of_keeps (hk1 f2 (by omega) _ hbb) (hkl f2 (by omega)), hl f2 (by omega), fun h => by cases h⟩
    · exact ⟨hbb, 3, _, _, _, _, As f2, cs f2, ls f2, P, pn, pc, rfl, by simp, by omega, by omega, by omega, Knows.of_keeps (hk1 f2 (by omega) _ hbb) (hkl f2 (by omega)), hl f2 (by omega), fun h => by cases h⟩
    · exact ⟨hbb, cw, _, _, _, _, As 2, cs 2, ls 2, P, _, pc, rfl, by rcases q with rfl | rfl <;> simp, by omega, by omega, by omega, Knows.of_keeps (hk1 2 (by omega) _ hbb) (hkl 2 (by omega)), hl 2 (by omega), fun _ => ⟨ps, rfl, q1, q2, q3, q4⟩⟩

/-- What any call leaves. -/
def DoneAny (w : World) (T : Nat) (F : List Nat) (D : Nat) (B : List Nat) (x : DevS) (y : TxS) (L : List Int) (cw cn : Int) (e : Ending) (w' : World) : Prop :=
  ∃ RA lk PA pn pk t z E y' F' R, e = .returned (.agg (ansC (.slice RA (R : List Int).length lk) (.slice PA pn pk) t z E)) ∧ TD w' T F' D y' B x ∧ Grow w F w' F' ∧ Apart y L y' ∧ y'.Clean ∧ R.length ≤ 1000 ∧ Keeps w' F' RA lk R ∧ (∀ a, RA = some a → w.heap.size ≤ a.block) ∧ (0 ≤ z ∧ z ≤ 10000) ∧ (cw = 2 → E = 0 → 0 ≤ cn ∧ cn ≤ 10000)
theorem Keeps.nil (w : World) (F : List Nat) : Keeps w F none 0 [] := ⟨⟨Reads.nil_map, fun _ => ⟨rfl, rfl⟩, Nat.le_refl _⟩, fun _ h => by cases h⟩

set_option maxHeartbeats 1000000 in
theorem done_any (T : Nat) (F : List Nat) (D : Nat) (y : TxS) (B : List Nat) (x : DevS) (s : ByteArray) (hs : s.size ≤ 1000) (n0 m0 : Nat) (cw ck cz co cn : Int) (A : Option Addr) (c : Nat) (L : List Int) (P : Option Addr) (pn pc : Nat) (w : World)
    (h : TD w T F D y B x) (hc : y.Clean) (hst : y.stateE = 0) (hz : 0 < rgD y.s y.j y.i) (hF : ∀ b ∈ F, b < m0) (hq : OfAny n0 m0 w F cw cz co cn A c L P pn) :
    Calls Tryz.prog 12 #[.pointer (some ⟨T, 0, none⟩), .agg (callC cw ck cz co cn (.slice A L.length c) s (.slice P pn pc))] w (DoneAny w T F D B x y L cw cn) := by
  have ok := h.tx.ok
  have hsl := hq.kp.sl
  have hll := hq.len
  rcases hq.hcw with e0 | e0 | e0 | e0 | e0
  · subst e0
    refine (done_write T F D y B x ck cz co cn A c L hll s _ hq.hcz hq.hco (by omega) w h hsl).mono fun e w' ⟨v, he, ho, F', ht, g, hv⟩ => ?_
    obtain ⟨A', c', rfl, hkp⟩ := Keeps.of_did ho hv
    have hge : ∀ a, A' = some a → w.heap.size ≤ a.block := fun a e => by subst e; exact (own_lt ho a.block rfl).1
    obtain ⟨s1, s2⟩ := dwrite_small ok hst x ck L cz co s (by omega)
    exact ⟨A', c', _, _, _, _, _, _, _, F', _, he, ht, g, apart_dwrite ok hz hst x ck L cz co s, hc.dwrite x ck L cz co s, s1, hkp, hge, s2, fun h => by cases h⟩
  · subst e0
    refine (done_cut T F D y B x ck cz co cn A c L hll s _ hq.hcz hq.hcn w h hsl).mono fun e w' ⟨v, he, ho, F', ht, g, hv⟩ => ?_
    obtain ⟨A', c', rfl, hkp⟩ := Keeps.of_did ho hv
    have hge : ∀ a, A' = some a → w.heap.size ≤ a.block := fun a e => by subst e; exact (own_lt ho a.block rfl).1
    obtain ⟨s1, s2⟩ := dcut_small ok hst x ck L cz cn
    exact ⟨A', c', _, _, _, _, _, _, _, F', _, he, ht, g, apart_dcut ok hz hst x ck L cz cn, hc.dcut x ck L cz cn, s1, hkp, hge, by omega, fun _ hE => by have := s2 hE; omega⟩
  · subst e0
    refine (done_read T F D y B x ck cz co cn A c L hll s _ hq.hcz w h hsl).mono fun e w' ⟨he, hb⟩ => ?_
    exact ⟨none, 0, _, _, _, _, _, _, y, F, [], he, h.below hb, Grow.of_below hb F, Apart.refl y L, hc, by simp, Keeps.nil _ _, fun _ h => (by cases h), by omega, fun h => by cases h⟩
  · subst e0
    obtain ⟨ps, rfl, p1, p2, p3, p4⟩ := hq.ps rfl
    refine (done_store T F D y B x ck cz co cn A c L hll s w h hsl P pc ps (by omega) (fun p hp => by have := p2 p hp; omega) p3 (fun a e => ⟨fun hm => by have := hF _ hm; have := (p4 a e).1; omega, (p4 a e).2⟩)).mono fun e w' ⟨v, he, ho, F', ht, g, hv⟩ => ?_
    obtain ⟨A', c', rfl, hkp⟩ := Keeps.of_did ho hv
    have hge : ∀ a, A' = some a → w.heap.size ≤ a.block := fun a e => by subst e; exact (own_lt ho a.block rfl).1
    exact ⟨A', c', _, _, _, _, _, _, _, F', _, he, ht, g, apart_dstore ok hz hst x ck L ps, hc.dstore x ck L ps, dstore_small ok hst x ck L ps (by omega), hkp, hge, by omega, fun h => by cases h⟩
  · subst e0
    refine (done_load T F D y B x ck cz co cn A c L hll s _ w h hsl).mono fun e w' ⟨v, he, ho, hb⟩ => ?_
    obtain ⟨PA, pk, rfl⟩ := own_slice ho
    exact ⟨none, 0, _, _, _, _, _, _, y, F, [], he, h.below hb, Grow.of_below hb F, Apart.refl y L, hc, by simp, Keeps.nil _ _, fun _ h => (by cases h), by omega, fun h => by cases h⟩

set_option maxRecDepth 100000 in
set_option maxHeartbeats 4000000 in
theorem kept_seven (a0 a1 a2 la : Option Addr) (n0 k0 n1 k1 n2 k2 ln lk : Nat) (z0 z1 : Int) (wh f kd off n size : Int) (xl : Value) (s : ByteArray) (cw ck cz co cn : Int) (cl : Value) (cs : ByteArray) (cp pv : Value) (t : ByteArray) (z : Int) (hf : 0 ≤ f ∧ f ≤ 255) (hwh : 0 ≤ wh ∧ wh ≤ 255) (hw7 : wh % 8 = 7) (w : World) :
    Calls Tryz.prog 13 #[.agg (bookC (.slice a0 n0 k0) (.slice a1 n1 k1) (.slice a2 n2 k2) z0 z1), .agg (actC wh f kd off n size xl s), .agg (callC cw ck cz co cn cl cs cp), .agg (ansC (.slice la ln lk) pv t z 0)] w fun e w' =>
      e = .returned (.agg ((bookC (.slice a0 n0 k0) (.slice a1 n1 k1) (.slice a2 n2 k2) z0 z1))) ∧ Below w.heap.size w w' := by
  obtain ⟨f2, hf2⟩ : ∃ f2 : Nat, f % 2 = f2 := ⟨(f % 2).toNat, by omega⟩
  have h1 : f.tmod 2 = f2 := by rw [← hf2]; exact Int.tmod_eq_emod_of_nonneg hf.1
  have h3 : IntKind.u8.wrap (f2 : Int) = f2 := by rw [IntKind.wrap_u8]; omega
  have h5 : IntKind.i64.wrap (f2 : Int) = f2 := by rw [IntKind.wrap_i64]; omega
  have g1 : wh.tmod 8 = 7 := by rw [← hw7]; exact Int.tmod_eq_emod_of_nonneg hwh.1
  clear hf hwh hw7 hf2
  go_enter Tryz.func13, Tryz.ntmps13
  go_wp2_with fail
  refine bodyPost_ret (v := .agg ((bookC (.slice a0 n0 k0) (.slice a1 n1 k1) (.slice a2 n2 k2) z0 z1))) (by simp [results, Tryz.results13, go_sem]) rfl ?_
  exact ⟨rfl, by (repeat' (first | (with_reducible exact Below.refl _ _) | (with_reducible assumption) | (with_reducible refine Below.alloc ?_ ?_ _) | (with_reducible refine Below.drew ?_) | (with_reducible refine below_drewN' ?_ _) | (with_reducible refine Below.setCell ?_ ?_ _) | (with_reducible exact Nat.le_refl _) | omega | (simp; done) | (simp; omega)))⟩

/-- What is known after any act: the lists and the sizes, kept or one of them new. -/
theorem kept_any {F' : List Nat} {w : World} {a : ActV} (hf : 0 ≤ a.f ∧ a.f ≤ 255) (hwh : 0 ≤ a.wh ∧ a.wh ≤ 255) (ls : Nat → List Int) (zs : Nat → Int) (As : Nat → Option Addr) (cs : Nat → Nat) (hz : ∀ k, k < 2 → 0 ≤ zs k ∧ zs k ≤ 10000) (hk : ∀ k, k < 3 → Keeps w F' (As k) (cs k) (ls k)) (hl : ∀ k, k < 3 → (ls k).length ≤ 1000)
    (cw ck cz co cn : Int) (hcw : cw = 0 ∨ cw = 2 ∨ cw = 3 ∨ cw = 5 ∨ cw = 6) (cl cp pv : Value) (_s t : ByteArray) (z E : Int) (RA : Option Addr) (lk : Nat) (R : List Int) (hR : R.length ≤ 1000) (hkR : Keeps w F' RA lk R) (hzz : 0 ≤ z ∧ z ≤ 10000) (hcn : cw = 2 → E = 0 → 0 ≤ cn ∧ cn ≤ 10000) :
    Calls Tryz.prog 13 #[.agg (bookC (slOf As cs ls 0) (slOf As cs ls 1) (slOf As cs ls 2) (zs 0) (zs 1)), .agg (actC a.wh a.f a.kd a.off a.n a.size (.slice a.A a.m a.c) a.s), .agg (callC cw ck cz co cn cl a.s cp), .agg (ansC (.slice RA R.length lk) pv t z E)] w fun e w' =>
      Below w.heap.size w w' ∧ ∃ (ls' : Nat → List Int) (zs' : Nat → Int) (As' : Nat → Option Addr) (cs' : Nat → Nat), e = .returned (.agg (bookC (slOf As' cs' ls' 0) (slOf As' cs' ls' 1) (slOf As' cs' ls' 2) (zs' 0) (zs' 1))) ∧ (∀ k, k < 2 → 0 ≤ zs' k ∧ zs' k ≤ 10000) ∧ (∀ k, k < 3 → Keeps w F' (As' k) (cs' k) (ls' k)) ∧ (∀ k, k < 3 → (ls' k).length ≤ 1000) ∧ ∀ k, k < 3 → As' k = As k ∨ As' k = RA := by
  by_cases hE : E = 0
  · subst hE
    by_cases h7 : a.wh % 8 = 7
    · refine (kept_seven (As 0) (As 1) (As 2) RA (ls 0).length (cs 0) (ls 1).length (cs 1) (ls 2).length (cs 2) R.length lk (zs 0) (zs 1) a.wh a.f a.kd a.off a.n a.size _ a.s cw ck cz co cn cl a.s cp pv t z hf hwh h7 w).mono ?_
      rintro e w' ⟨rfl, hb⟩
      exact ⟨hb, ls, zs, As, cs, rfl, hz, hk, hl, fun _ _ => .inl rfl⟩
    · obtain ⟨f2, hf2⟩ : ∃ f2 : Nat, a.f % 2 = f2 := ⟨(a.f % 2).toNat, by omega⟩
      have hf3 : f2 < 2 := by omega
      refine (kept_act (slOf As cs ls) zs (As 0) (As 1) (As 2) RA (ls 0).length (cs 0) (ls 1).length (cs 1) (ls 2).length (cs 2) R.length lk a.wh a.f a.kd a.off a.n a.size _ a.s cw ck cz co cn cl cp pv t z hf hwh h7 f2 hf2 rfl rfl rfl hcw w).mono ?_
      rintro e w' ⟨sl', zs', rfl, hb, hc⟩
      have hup : ∀ g, slOf (upd As g RA) (upd cs g lk) (upd ls g R) = upd (slOf As cs ls) g (.slice RA R.length lk) := fun g => by
        funext k
        unfold slOf upd
        split <;> rfl
      have hzu : ∀ v, 0 ≤ v ∧ v ≤ 10000 → ∀ k, k < 2 → 0 ≤ upd zs f2 v k ∧ upd zs f2 v k ≤ 10000 := fun v hv k hk => by
        unfold upd; split
        · exact hv
        · exact hz k hk
      have hku : ∀ g k, k < 3 → Keeps w F' (upd As g RA k) (upd cs g lk k) (upd ls g R k) := fun g k h => by
        unfold upd; split
        · exact hkR
        · exact hk k h
      have hlu : ∀ g k, k < 3 → (upd ls g R k).length ≤ 1000 := fun g k h => by
        unfold upd; split
        · exact hR
        · exact hl k h
      have hau : ∀ g k, k < 3 → upd As g RA k = As k ∨ upd As g RA k = RA := fun g k h => by
        unfold upd; split
        · exact .inr rfl
        · exact .inl rfl
      rcases hc with ⟨-, rfl, rfl⟩ | ⟨h2, rfl, rfl⟩ | ⟨-, rfl, rfl⟩ | ⟨-, rfl, rfl⟩
      · exact ⟨hb, upd ls f2 R, upd zs f2 z, upd As f2 RA, upd cs f2 lk, by rw [hup], hzu z hzz, hku f2, hlu f2, hau f2⟩
      · exact ⟨hb, upd ls f2 R, upd zs f2 cn, upd As f2 RA, upd cs f2 lk, by rw [hup], hzu cn (hcn h2 rfl), hku f2, hlu f2, hau f2⟩
      · exact ⟨hb, upd ls 2 R, _, upd As 2 RA, upd cs 2 lk, by rw [hup], hz, hku 2, hlu 2, hau 2⟩
      · exact ⟨hb, ls, _, As, cs, rfl, hz, hk, hl, fun _ _ => .inl rfl⟩
  · refine (kept_err (As 0) (As 1) (As 2) RA (ls 0).length (cs 0) (ls 1).length (cs 1) (ls 2).length (cs 2) R.length lk (zs 0) (zs 1) a.wh a.f a.kd a.off a.n a.size _ a.s cw ck cz co cn cl a.s cp pv t z E hf hwh hE w).mono ?_
    rintro e w' ⟨rfl, hb⟩
    exact ⟨hb, ls, zs, As, cs, rfl, hz, hk, hl, fun _ _ => .inl rfl⟩
end Go.Proofs.YtljmdcegcckblaaGreatDoor
/- The laws of layer 12: at (the record of a sector). -/
namespace Go.Proofs.YtljmdcegcckblaaGreatDoor
open Go.RowKit Go.Maps

theorem recs_at {w : World} {A : Option Addr} {l : List Rec} (h : Reads w A (l.flatMap recV)) {k : Nat} (hk : k < l.length) :
    ∃ b off, A = some ⟨b, off, none⟩ ∧ b < w.heap.size ∧ w.cell? ⟨b, off + k * 3, none⟩ = some (.int .i64 l[k].at_) ∧ w.cell? ⟨b, off + k * 3 + 1, none⟩ = some (.int .i64 l[k].kind) ∧ w.cell? ⟨b, off + k * 3 + 2, none⟩ = some (.string l[k].data) := by
  have hg : ∀ j, j < 3 → (l.flatMap recV)[k * 3 + j]? = (recV l[k])[j]? := fun j hj => flat_get (f := recV) (m := 3) (fun _ _ => rfl) hj hk
  rcases h with h | ⟨b, off, hA, hlt, hc⟩
  · exfalso
    have := hg 0 (by omega)
    rw [h] at this
    simp [recV] at this
  · have g : ∀ j u, j < 3 → (recV l[k])[j]? = some u → w.cell? ⟨b, off + k * 3 + j, none⟩ = some u := fun j u hj hu => by rw [Nat.add_assoc]; exact hc _ _ ((hg j hj).trans hu)
    exact ⟨b, off, hA, hlt, g 0 _ (by omega) rfl, g 1 _ (by omega) rfl, g 2 _ (by omega) rfl⟩
set_option maxRecDepth 100000 in
theorem recAt_any (A : Option Addr) (c : Nat) (l : List Rec) (hl : l.length ≤ 100000) (n : Int) (w : World) (hA : Reads w A (l.flatMap recV)) :
    Calls Tryz.prog 18 #[.slice A l.length c, .int .i64 n] w fun e w' => e = .returned (.agg (recC ((atRec l n).getD noRec))) ∧ Below w.heap.size w w' := by
  obtain ⟨w1, hw1⟩ : ∃ w1, w1 = w.alloc (.cells #[.int .i64 0, .int .i64 0, .string ⟨#[]⟩] 65) := ⟨_, rfl⟩
  have b1 : Blk w1 w.heap.size 65 #[.int .i64 0, .int .i64 0, .string ⟨#[]⟩] := by rw [hw1]; exact Blk.new _ _ _
  have B1 : Below w.heap.size w w1 := by rw [hw1]; exact (Below.refl _ _).alloc (Nat.le_refl _) _
  have HW := Lib.hid hw1
  clear hw1
  go_enter Tryz.func18, Tryz.ntmps18
  go_wp2_with fail
  rw [← HW.out]
  go_loopw [5] (fun q wr => ∃ k : Nat, k ≤ l.length ∧ q = .int .i64 k ∧ atRec (l.take k) n = none ∧ Below w.heap.size w wr ∧ Blk wr w.heap.size 65 #[.int .i64 0, .int .i64 0, .string ⟨#[]⟩]) (fun q _ => l.length - (RowKit.intOf q).toNat)
  case atStart => exact ⟨0, Nat.zero_le _, rfl, rfl, B1, b1⟩
  case round =>
    obtain ⟨k, hk, rfl, ht, hb, bb⟩ := hrel
    by_cases hlt : k < l.length
    · obtain ⟨b, off, rfl, hbl, c0, c1, c2⟩ := recs_at (hA.below hb) hlt
      have HTA := Lib.hid (show l.take (k + 1) = l.take k ++ [l[k]] by rw [List.take_succ_eq_append_getElem hlt])
      have HAT : Hid (l[k].at_ = n → atRec l n = some l[k]) := Lib.hid fun e => by
        have hs : l.take k ++ l[k] :: l.drop (k + 1) = l := by rw [← List.drop_eq_getElem_cons hlt, List.take_append_drop]
        unfold atRec at ht ⊢
        refine (congrArg (List.find? _) hs).symm.trans ?_
        rw [List.find?_append, ht, List.find?_cons_of_pos (by simpa using e)]
        rfl
      have HT := Lib.hid ht
      have HA' := Lib.hid hA
      generalize l[k] = x at *
      clear ht hA
      have cB := bb.cells
      have lB := bb.lt
      by_cases he : x.at_ = n
      · have HD : Hid (atRec l n = some x) := Lib.hid (HAT.out he)
        obtain ⟨xa, xk, xd⟩ := x
        simp only at he c0 c1 c2
        subst he
        have hst := storeRow (ty := 65) (vs := #[.int .i64 xa, .int .i64 xk, .string xd]) bb rfl (by simp [Value.oneCell']) (by kernel_rfl)
        have HS := Lib.hid (Below.setRow (cs := #[.int .i64 xa, .int .i64 xk, .string xd]) hb (Nat.le_refl _))
        have b2 := bb.setRow (cs' := #[.int .i64 xa, .int .i64 xk, .string xd])
        clear cB lB
        go_wp2_with (refine wpList_storeBy rfl _ _ _ rfl _ _ rfl rfl hst ?_)
        have cF := b2.cells
        refine bodyPost_ret (v := .agg #[.int .i64 xa, .int .i64 xk, .string xd]) (by simp [results, Tryz.results18, go_sem, cF]) rfl ?_
        exact ⟨by rw [HD.out]; rfl, HS.out⟩
      · have hq : (x.at_ == n) = false := by simpa using he
        have HE := Lib.hid he
        clear he
        go_wp2_with fail
        go_roundw
        case rel => exact ⟨k + 1, by omega, by go_num, by
          have h1 := HT.out
          have h2 := HE.out
          rw [HTA.out]
          unfold atRec at h1 ⊢
          rw [List.find?_append, h1]
          simp [h2], hb, bb⟩
        case measure => simp [RowKit.intOf]; omega
    · obtain rfl : k = l.length := by omega
      have HD : Hid (atRec l n = none) := Lib.hid (by rw [List.take_length] at ht; exact ht)
      clear ht
      have hst := storeRow (ty := 65) (vs := #[.int .i64 0, .int .i64 0, .string ⟨#[]⟩]) bb rfl (by simp [Value.oneCell']) (by kernel_rfl)
      have HS := Lib.hid (Below.setRow (cs := #[.int .i64 0, .int .i64 0, .string ⟨#[]⟩]) hb (Nat.le_refl _))
      have b2 := bb.setRow (cs' := #[.int .i64 0, .int .i64 0, .string ⟨#[]⟩])
      go_wp2_with (refine wpList_storeBy rfl _ _ _ rfl _ _ rfl rfl hst ?_)
      have cF := b2.cells
      refine bodyPost_ret (v := .agg #[.int .i64 0, .int .i64 0, .string ⟨#[]⟩]) (by simp [results, Tryz.results18, go_sem, cF]) rfl ?_
      exact ⟨by rw [HD.out]; rfl, HS.out⟩
end Go.Proofs.YtljmdcegcckblaaGreatDoor
/- The laws of layer 12: in (is a number in a list?). -/
namespace Go.Proofs.YtljmdcegcckblaaGreatDoor
open Go.RowKit Go.Maps

set_option maxRecDepth 100000 in
theorem in_any (A : Option Addr) (c : Nat) (l : List Int) (hl : l.length ≤ 100000) (n : Int) (w : World) (hA : Reads w A (l.map (.int .i64))) :
    Calls Tryz.prog 17 #[.slice A l.length c, .int .i64 n] w fun e w' => e = .returned (.bool (decide (n ∈ l))) ∧ Below w.heap.size w w' := by
  go_enter Tryz.func17, Tryz.ntmps17
  go_wp2_with fail
  go_loopw [5] (fun q wr => ∃ k : Nat, k ≤ l.length ∧ q = .int .i64 k ∧ n ∉ l.take k ∧ Below w.heap.size w wr) (fun q _ => l.length - (RowKit.intOf q).toNat)
  case atStart => exact ⟨0, Nat.zero_le _, rfl, by simp, Below.refl _ _⟩
  case round =>
    obtain ⟨k, hk, rfl, ht, hb⟩ := hrel
    by_cases hlt : k < l.length
    · obtain ⟨b1, o1, rfl, hb1, hc1⟩ := (hA.below hb).at_ (k := k) (by simpa using hlt)
      rw [List.getElem_map] at hc1
      have HTA := Lib.hid (show l.take (k + 1) = l.take k ++ [l[k]] by rw [List.take_succ_eq_append_getElem hlt])
      have HM := Lib.hid (List.getElem_mem hlt)
      have HT := Lib.hid ht
      have HA' := Lib.hid hA
      generalize l[k] = x at *
      clear ht hA
      by_cases he : x = n
      · subst he
        have HD : Hid (decide (x ∈ l) = true) := Lib.hid (decide_eq_true HM.out)
        go_wp2_with fail
        go_ret
        exact ⟨by rw [HD.out]; rfl, hb⟩
      · have hq : (x == n) = false := by simpa using he
        have HE := Lib.hid he
        clear he
        go_wp2_with fail
        go_roundw
        case rel => exact ⟨k + 1, by omega, by go_num, by
          rw [HTA.out]
          intro hm
          rcases List.mem_append.1 hm with hm | hm
          · exact HT.out hm
          · simp only [List.mem_singleton] at hm; exact HE.out hm.symm, hb⟩
        case measure => simp [RowKit.intOf]; omega
    · obtain rfl : k = l.length := by omega
      have HD : Hid (decide (n ∈ l) = false) := Lib.hid (decide_eq_false (by rw [List.take_length] at ht; exact ht))
      clear ht
      go_wp2_with fail
      go_ret
      exact ⟨by rw [HD.out]; rfl, hb⟩
end Go.Proofs.YtljmdcegcckblaaGreatDoor
/- P12.6: plain words on strings: what the law's own texts become. -/
namespace Go.Proofs.YtljmdcegcckblaaGreatDoor
open Go.RowKit Go.Maps

theorem OfSpec.rg {w w1 : World} {f2 : Nat} {sl : Nat → Value} {zs : Nat → Int} {cw ck cz co cn : Int} {cl : Value} {P : Option Addr} {pn : Nat} (h : OfSpec w w1 f2 sl zs cw ck cz co cn cl P pn) (hz : 0 ≤ zs f2) : 0 ≤ co ∧ co ≤ zs f2 ∧ 0 ≤ cn ∧ cn < 800 := by
  rcases h with h | h | h | ⟨h1, h2, h3, h4, h5, h6⟩
  · omega
  · omega
  · omega
  · omega
end Go.Proofs.YtljmdcegcckblaaGreatDoor
/- The laws of layer 12: what their rows share. -/
namespace Go.Proofs.YtljmdcegcckblaaGreatDoor
open Go.ChangeShapes Go.WideShapes Go.ChangeAt Go.RowKit Go.Joins Go.Deep

theorem Tryz.own : ownKnob Tryz.prog.godebug = none := by kernel_rfl
theorem Tryz.laidOut : laidOutB Tryz.prog = true := by kernel_rfl
theorem gHalf : Tryz.prog.globalNamed "limewash/sums.half" = some 0 := by kernel_rfl
def half1 : List (String × DataW Unit) := [("limewash/sums.half", Rows.laid_limewash_sums_half)]

/-- The heap that the program's start leaves meets the condition. -/
theorem door_met (os : Os) (args : Array Value) : laidMetH Tryz.prog half1 ((World.doorLaid Tryz.prog 400 os).forCall (fun _ _ => 0) ⟨#[], args, []⟩).memory :=
  laidMetH_of_parts3 (fuel := 8) (laidMet_of_run' 8 (by kernel_rfl) (by kernel_rfl)) (by kernel_rfl) (by kernel_rfl)

theorem gHalfType : (Tryz.prog.globals[0]?).map (·.type) = some 256 := by kernel_rfl
theorem half_of_laid {W : World} (h : laidMetH Tryz.prog half1 W) : HalfAt W := by
  rw [MakeChecks.laidMetH_plain _ _ _ (by kernel_rfl)] at h
  have hT : Lib.TabIs Tryz.prog W "limewash/sums.half" .u32 halfL := Lib.tabIs_of_head (n := 16) (e := 126) gHalf gHalfType (by kernel_rfl) (by kernel_rfl) (by kernel_rfl) (by kernel_rfl) h
  have hc : ∀ j, j < 16 → W.cell? ⟨0, j, none⟩ = some (.int .u32 (halfL.getD j 0)) := fun j hj => hT.cell gHalf j hj
  exact ⟨block_lt_of_cell (hc 0 (by omega)), hc⟩

theorem Tryz.cellsStart : Tryz.prog.cellsOf 23 = 2 := by kernel_rfl
section
variable {H : Type} {enc : TypeId × Value → H} {W : World}
set_option maxRecDepth 100000 in
theorem open_start {r : Reach} {b0 : Nat} {v : Value} {d : DataW H} {p : List MemPlace} (hv : Value.okWide Tryz.prog W r b0 23 v) (h : DataW.Trod enc Tryz.prog W 0 (fun _ => true) true 23 v d p) :
    ∃ j i : Int, v = .agg #[.int .u8 j, .int .u8 i] ∧ (0 ≤ j ∧ j ≤ 255) ∧ (0 ≤ i ∧ i ≤ 255) := by
  obtain ⟨cs, rfl, hsz⟩ := okWide_struct Tryz.underlying23 hv
  rw [Tryz.cellsStart] at hsz
  obtain ⟨l0⟩ := cs
  obtain ⟨fuel, hf⟩ := h
  have hf2 : DataW.trod enc Tryz.prog W 0 (fun _ => true) true fuel 23 l0 = some (d, p) := by simpa [Value.cells] using hf
  match l0, hsz with
  | [c0, c1], _ =>
    obtain ⟨xs, n, _, _, _, hlen, hg⟩ := DataW.trod_struct Tryz.underlying23 hf2
    have g0 : DataW.trod enc Tryz.prog W 0 (fun _ => true) true n 5 [c0] = xs[0]? := by have := hg 0 _ rfl; simpa [Tryz.cellsU8, Value.cells] using this
    have g1 : DataW.trod enc Tryz.prog W 0 (fun _ => true) true n 5 [c1] = xs[1]? := by have := hg 1 _ rfl; simpa [Tryz.cellsU8, Value.cells] using this
    clear hg
    match xs, hlen with
    | [y0, y1], _ =>
      simp only [List.getElem?_cons_zero, List.getElem?_cons_succ] at g0 g1
      obtain ⟨a0, e0, _, w0⟩ := DataW.trod_int Tryz.underlying5 g0
      obtain ⟨a1, e1, _, w1⟩ := DataW.trod_int Tryz.underlying5 g1
      simp at e0 e1
      subst e0 e1
      exact ⟨a0, a1, rfl, wf_u8_iff w0, wf_u8_iff w1⟩
set_option maxRecDepth 100000 in
theorem open_actv {r : Reach} {b0 : Nat} {v : Value} {d : DataW H} {p : List MemPlace} (hv : Value.okWide Tryz.prog W r b0 24 v) (h : DataW.Trod enc Tryz.prog W 0 (fun _ => true) true 24 v d p) :
    ∃ (A : Option Addr) (c : Nat) (xs : List ActV), v = .slice A xs.length c ∧ Reads W A (xs.flatMap actL) ∧ (∀ a ∈ xs, ActOk W a) ∧ xs.length ≤ maxLen := by
  obtain ⟨a0, l0, c0, rfl⟩ := okWide_slice Tryz.underlying24 hv
  obtain ⟨fuel, hf⟩ := h
  obtain ⟨A, n, c, xs, h1, h2, h3, h4, h5, h6, -⟩ := open_acts (v := .slice a0 l0 c0) (by simpa [Value.cells] using hf)
  subst h2
  exact ⟨A, c, xs, h1, h3, h4, by omega⟩
end
end Go.Proofs.YtljmdcegcckblaaGreatDoor
