/- Parts of the proof, put together by program: FA, DK, DR. -/
import Derived.Test.YtljmdcegcckblaaGreatDoorPart51
import Derived.Test.YtljmdcegcckblaaGreatDoorPart50
import Derived.Test.YtljmdcegcckblaaGreatDoorRows
import Derived.Test.YtljmdcegcckblaaGreatDoorCards
import Derived.Test.YtljmdcegcckblaaGreatDoorTie
import Derived.Test.YtljmdcegcckblaaGreatDoorPart43
import Derived.Test.YtljmdcegcckblaaGreatDoorPart44
import Derived.ProofKit
import Derived.Lib.LaidTab
import Derived.Lib.SmallJoins
import Derived.LaidMore
import Derived.OpenShut
import Derived.Stop.Joined
import Derived.SevenTiedAt
/- The laws of layer 12: read; what an act leaves, for DataCommits. -/
namespace Go.Proofs.YtljmdcegcckblaaGreatDoor
open Go.RowKit Go.Maps

set_option maxRecDepth 100000 in
set_option maxHeartbeats 4000000 in
theorem read_two (T : Nat) (F : List Nat) (D : Nat) (y : TxS) (B : List Nat) (x : DevS) (ls : Nat → List Int) (zs : Nat → Int) (As : Nat → Option Addr) (cs : Nat → Nat) (hl : (ls 2).length ≤ 1000) (w : World) (h : TD w T F D y B x) (hk : Keeps w F (As 2) (cs 2) (ls 2)) :
    Calls Tryz.prog 30 #[.pointer (some ⟨T, 0, none⟩), .agg (bookC (slOf As cs ls 0) (slOf As cs ls 1) (slOf As cs ls 2) (zs 0) (zs 1)), .int .i64 2] w fun e w' => ∃ PA pk, e = .returned (.agg (ansC (.slice none 0 0) (.slice PA (y.dload x 7 (ls 2)).1.length pk) ⟨#[]⟩ 0 (y.dload x 7 (ls 2)).2)) ∧ w'.ownsRow w.heap.size 9 1 (.slice PA (y.dload x 7 (ls 2)).1.length pk) (y.dload x 7 (ls 2)).1.length ((y.dload x 7 (ls 2)).1.map .string) ∧ Below w.heap.size w w' := by
  obtain ⟨s0, hs0⟩ : ∃ s0, slOf As cs ls 0 = s0 := ⟨_, rfl⟩
  obtain ⟨s1, hs1⟩ : ∃ s1, slOf As cs ls 1 = s1 := ⟨_, rfl⟩
  rw [hs0, hs1, show slOf As cs ls 2 = .slice (As 2) (ls 2).length (cs 2) from rfl]
  have o0 : s0.oneCell' = true := by rw [← hs0]; rfl
  have o1 : s1.oneCell' = true := by rw [← hs1]; rfl
  clear hs0 hs1
  obtain ⟨wA, hA⟩ : ∃ wA, wA = (w.alloc (.cells (bookC s0 s1 (.slice (As 2) (ls 2).length (cs 2)) (zs 0) (zs 1)) 38)).alloc (.cells (ansE 0) 48) := ⟨_, rfl⟩
  have bB : Blk wA w.heap.size 38 (bookC s0 s1 (.slice (As 2) (ls 2).length (cs 2)) (zs 0) (zs 1)) := by rw [hA]; exact (Blk.new _ _ _).alloc _
  have bR : Blk wA (w.heap.size + 1) 48 (ansE 0) := by rw [hA]; exact Blk.new' (by simp)
  have BA : Below w.heap.size w wA := by rw [hA]; (repeat' (first | (with_reducible exact Below.refl _ _) | (with_reducible assumption) | (with_reducible refine Below.alloc ?_ ?_ _) | (with_reducible refine Below.drew ?_) | (with_reducible refine below_drewN' ?_ _) | (with_reducible refine Below.setCell ?_ ?_ _) | (with_reducible exact Nat.le_refl _) | omega | (simp; done) | (simp; omega)))
  have hcon := done_load T F D y B x 7 0 0 0 (As 2) (cs 2) (ls 2) hl ⟨#[]⟩ (.slice none 0 0) wA (h.below BA) (hk.below BA).sl
  have c2 : wA.cell? ⟨w.heap.size, 2, none⟩ = some (.slice (As 2) (ls 2).length (cs 2)) := (bB.cells 2).trans rfl
  have lB := bB.lt
  generalize y.dload x 7 (ls 2) = r at hcon ⊢
  go_enter Tryz.func30, Tryz.ntmps30
  go_wp2_with fail
  rw [← hA]
  clear hA
  go_wp2_with fail
  refine hcon.mono ?_
  rintro e w1 ⟨v, rfl, ho, hb1⟩
  obtain ⟨PA, pk, rfl⟩ := own_slice ho
  have bR1 := bR.belowAll hb1
  have hst := storeRow (ty := 48) (vs := ansC (.slice none 0 0) (.slice PA r.1.length pk) ⟨#[]⟩ 0 r.2) bR1 rfl (by simp [Value.oneCell']) (by kernel_rfl)
  have lR := bR1.lt
  clear hcon c2 lB
  go_wp2_with (refine wpList_storeBy rfl _ _ _ rfl _ _ rfl rfl hst ?_)
  have cF := (bR1.setRow (cs' := ansC (.slice none 0 0) (.slice PA r.1.length pk) ⟨#[]⟩ 0 r.2)).cells
  refine bodyPost_ret (v := .agg (ansC (.slice none 0 0) (.slice PA r.1.length pk) ⟨#[]⟩ 0 r.2)) (by simp [results, Tryz.results30, go_sem, cF]) rfl ?_
  have B1 := BA.trans (hb1.mono BA.size)
  exact ⟨PA, pk, rfl, own_base (own_block ho fun q hq => setRow_other _ _ _ _ (fun e => by have := (own_lt ho q hq).1; have := bR.lt; omega)) BA.size, Below.setRow B1 (by omega) _⟩

set_option maxRecDepth 100000 in
set_option maxHeartbeats 4000000 in
theorem read_file (T : Nat) (F : List Nat) (D : Nat) (y : TxS) (B : List Nat) (x : DevS) (ls : Nat → List Int) (zs : Nat → Int) (As : Nat → Option Addr) (cs : Nat → Nat) (k : Nat) (hk2 : k < 2) (hl : (ls k).length ≤ 1000) (hz : 0 ≤ zs k ∧ zs k ≤ 10000) (t : ByteArray) (hrd : y.dread x 8 (ls k) (zs k) 0 768 = (t, 0)) (w : World) (h : TD w T F D y B x) (hk : Keeps w F (As k) (cs k) (ls k)) :
    Calls Tryz.prog 30 #[.pointer (some ⟨T, 0, none⟩), .agg (bookC (slOf As cs ls 0) (slOf As cs ls 1) (slOf As cs ls 2) (zs 0) (zs 1)), .int .i64 k] w fun e w' => e = .returned (.agg (ansC (.slice none 0 0) (.slice none 0 0) t 0 0)) ∧ Below w.heap.size w w' := by
  obtain ⟨wA, hA⟩ : ∃ wA, wA = (w.alloc (.cells (bookC (slOf As cs ls 0) (slOf As cs ls 1) (slOf As cs ls 2) (zs 0) (zs 1)) 38)).alloc (.cells (ansE 0) 48) := ⟨_, rfl⟩
  have bB : Blk wA w.heap.size 38 (bookC (slOf As cs ls 0) (slOf As cs ls 1) (slOf As cs ls 2) (zs 0) (zs 1)) := by rw [hA]; exact (Blk.new _ _ _).alloc _
  have bR : Blk wA (w.heap.size + 1) 48 (ansE 0) := by rw [hA]; exact Blk.new' (by simp)
  have BA : Below w.heap.size w wA := by rw [hA]; (repeat' (first | (with_reducible exact Below.refl _ _) | (with_reducible assumption) | (with_reducible refine Below.alloc ?_ ?_ _) | (with_reducible refine Below.drew ?_) | (with_reducible refine below_drewN' ?_ _) | (with_reducible refine Below.setCell ?_ ?_ _) | (with_reducible exact Nat.le_refl _) | omega | (simp; done) | (simp; omega)))
  have hcon := fun V (hV : Below w.heap.size w V) => done_read T F D y B x 8 (zs k) 0 768 (As k) (cs k) (ls k) hl ⟨#[]⟩ (.slice none 0 0) (by omega) V (h.below hV) (hk.below hV).sl
  rw [hrd] at hcon
  have hS : ∀ V, Blk V w.heap.size 38 (bookC (slOf As cs ls 0) (slOf As cs ls 1) (slOf As cs ls 2) (zs 0) (zs 1)) → V.cell? ⟨w.heap.size, k, none⟩ = some (.slice (As k) (ls k).length (cs k)) ∧ V.cell? ⟨w.heap.size, 3 + k, none⟩ = some (.int .i64 (zs k)) := fun V b => by
    rcases two k hk2 with rfl | rfl
    · exact ⟨(b.cells 0).trans rfl, (b.cells 3).trans rfl⟩
    · exact ⟨(b.cells 1).trans rfl, (b.cells 4).trans rfl⟩
  have hki : (k : Int) < 2 := by omega
  have hki3 : (k : Int) < 3 := by omega
  have hne : ((k : Int) == 2) = false := by have : ¬ (k : Int) = 2 := by omega
                                            simpa using this
  have HS := Lib.hid hS
  have HCON := Lib.hid hcon
  clear hS hcon hrd
  go_enter Tryz.func30, Tryz.ntmps30
  go_wp2_with fail
  rw [← hA]
  clear hA
  go_upto_region 3 with fail
  refine wp_region_mix [.take 0, .take 1, .take 2, .take 3, .take 4, .take 5, .take 6, .take 7, .take 8, .take 9, .one 10, .one 11] 11 (fun V => V.cell? ⟨w.heap.size, k, none⟩ = some (.slice (As k) (ls k).length (cs k)) ∧ V.cell? ⟨w.heap.size, 3 + k, none⟩ = some (.int .i64 (zs k))) (by kernel_rfl) (by kernel_rfl) (fun _ _ _ _ _ h => h) (HS.out _ bB.drew) ?_
  simp only [List.map_cons, List.map_nil, Ms.fill, List.getD_cons_zero, List.getD_cons_succ]
  iterate 10 (refine mixT_take (by rfl) ?_ (fun w' hw' => ?_) ?_; rotate_left; (focus (go_simp; (try with_reducible rfl))); (try simp only [Act.put, List.setIfInBounds_toArray, List.set_cons_zero, List.set_cons_succ]))
  refine mixT_step (by rfl) fun K hK => ?_
  go_simp
  refine (HCON.out wA.drew BA.drew).mono ?_
  rintro e w1 ⟨rfl, hb1⟩
  have bR1 := bR.drew.belowAll hb1
  have B1 := BA.drew.trans (hb1.mono BA.drew.size)
  refine hK _ _ (fun _ => HS.out _ (bB.drew.belowAll hb1)) ?_
  clear hK K
  refine mixT_step (by rfl) fun K hK => ?_
  have hst := storeRow (ty := 48) (vs := ansC (.slice none 0 0) (.slice none 0 0) t 0 0) bR1 rfl (by simp [Value.oneCell']) (by kernel_rfl)
  refine op_storeBy _ _ _ rfl _ _ rfl rfl hst ?_
  refine hK _ _ (fun h => absurd h (by decide)) ?_
  clear hK K
  refine mixT_nil ?_
  have bR2 := bR1.setRow (cs' := ansC (.slice none 0 0) (.slice none 0 0) t 0 0)
  go_wp2_with fail
  have cF := bR2.cells
  refine bodyPost_ret (v := .agg (ansC (.slice none 0 0) (.slice none 0 0) t 0 0)) (by simp [results, Tryz.results30, go_sem, cF]) rfl ?_
  exact ⟨rfl, Below.setRow B1 (by omega) _⟩

/-- What an act leaves. -/
def DoneC (w : World) (T : Nat) (F : List Nat) (D : Nat) (B : List Nat) (x : DevS) (s9 j9 i9 : Int) (us : List Bool) (y : TxS) (f2 : Nat) (ls : Nat → List Int) (tx : Nat → ByteArray) (cw cn : Int) (e : Ending) (w' : World) : Prop :=
  ∃ LA ln lk PA pn pk t z E y' F', e = .returned (.agg (ansC (.slice LA ln lk) (.slice PA pn pk) t z E)) ∧ TD w' T F' D y' B x ∧ Grow w F w' F' ∧ HC s9 j9 i9 us y' ∧ (E = 3 → y' = y) ∧
    (E = 0 → ∃ ls' tx', Book2 y' x (ls' 0) (ls' 1) (ls' 2) (tx' 0) (tx' 1) ∧
      (((cw = 0 ∨ cw = 2) ∧ ∃ L t', ln = L.length ∧ Keeps w' F' LA lk L ∧ (∀ a, LA = some a → w.heap.size ≤ a.block) ∧ ls' = upd ls f2 L ∧ tx' = upd tx f2 t' ∧ (cw = 0 → z = t'.size) ∧ (cw = 2 → cn = t'.size)) ∨
       (cw = 5 ∧ ∃ L, ln = L.length ∧ Keeps w' F' LA lk L ∧ (∀ a, LA = some a → w.heap.size ≤ a.block) ∧ ls' = upd ls 2 L ∧ tx' = tx) ∨
       ((cw = 3 ∨ cw = 6) ∧ ls' = ls ∧ tx' = tx)))
theorem Book2.putF {y y2 : TxS} {x : DevS} {ls : Nat → List Int} {tx : Nat → ByteArray} {f2 : Nat} {L : List Int} {t : ByteArray} (hf : f2 < 2) (h : Book2 y x (ls 0) (ls 1) (ls 2) (tx 0) (tx 1)) (hst : Stored y y2 x 8 (ls f2) L (cutsL t)) (hz : t.size ≤ 768) :
    Book2 y2 x (upd ls f2 L 0) (upd ls f2 L 1) (upd ls f2 L 2) (upd tx f2 t 0) (upd tx f2 t 1) := by
  rcases two f2 hf with rfl | rfl
  · exact h.put0 hst hz
  · exact h.put1 hst hz
set_option maxHeartbeats 1000000 in
theorem done_c (T : Nat) (F : List Nat) (D : Nat) (y : TxS) (B : List Nat) (x : DevS) (s9 j9 i9 : Int) (us : List Bool) (f2 : Nat) (hf : f2 < 2) (ls : Nat → List Int) (tx : Nat → ByteArray) (As : Nat → Option Addr) (cs : Nat → Nat) (s : ByteArray) (hs : s.size ≤ 1000) (cw ck cz co cn : Int) (cl : Value) (P : Option Addr) (pn pc : Nat) (w0 w1 w : World)
    (h : TD w T F D y B x) (hhc : HC s9 j9 i9 us y) (hbk : Book2 y x (ls 0) (ls 1) (ls 2) (tx 0) (tx 1)) (hk : ∀ k, k < 3 → Keeps w F (As k) (cs k) (ls k)) (hF : ∀ b ∈ F, b < w0.heap.size) (h1 : Below w1.heap.size w1 w)
    (hq : OfSpec w0 w1 f2 (fun k => .slice (As k) (ls k).length (cs k)) (fun k => ((tx k).size : Int)) cw ck cz co cn cl P pn) :
    Calls Tryz.prog 12 #[.pointer (some ⟨T, 0, none⟩), .agg (callC cw ck cz co cn cl s (.slice P pn pc))] w (DoneC w T F D B x s9 j9 i9 us y f2 ls tx cw cn) := by
  have ok := h.tx.ok
  have hst := hbk.bk.st
  obtain ⟨hl, hh⟩ := hbk.bk.lst hf
  have hz768 := hh.sz
  have hll : (ls f2).length ≤ 1000 := by rw [hh.len]; have := nCuts_le hh.sz; omega
  have h2l : (ls 2).length ≤ 1000 := by have := hbk.bk.len2; omega
  rcases hq with ⟨rfl, rfl, rfl, q1, q2, rfl, rfl⟩ | ⟨rfl, rfl, rfl, rfl, q1, q2, rfl⟩ | ⟨rfl, rfl, rfl, q1, q2, q3, q4, rfl⟩ | ⟨q, rfl, rfl, rfl, rfl, rfl, ps, rfl, q1, q2, q3, q4⟩
  · have q2' : co ≤ (tx f2).size := q2
    refine (done_write T F D y B x 8 (tx f2).size co 0 (As f2) (cs f2) (ls f2) hll s _ (by omega) (by omega) (by omega) w h (hk f2 (by omega)).sl).mono fun e w' ⟨v, he, ho, F', ht, g, hv⟩ => ?_
    obtain ⟨A, c, rfl, hkp⟩ := Keeps.of_did ho hv
    have hge : ∀ a, A = some a → w.heap.size ≤ a.block := fun a e => by subst e; exact (own_lt ho a.block rfl).1
    refine ⟨A, _, c, _, _, _, _, _, _, _, F', he, ht, g, hhc.dwrite _ _ _ _ _ _, fun h3 => dwrite_long h3, fun hE => ?_⟩
    obtain ⟨w1, w2, w3⟩ := write_holds ok hst hl hh (by omega) ⟨q1, q2⟩ hE
    exact ⟨_, _, hbk.putF hf w1 w2, .inl ⟨.inl rfl, _, _, rfl, hkp, hge, rfl, rfl, fun _ => w3, fun h => by cases h⟩⟩
  · refine (done_cut T F D y B x 8 (tx f2).size 0 cn (As f2) (cs f2) (ls f2) hll s _ (by omega) (by omega) w h (hk f2 (by omega)).sl).mono fun e w' ⟨v, he, ho, F', ht, g, hv⟩ => ?_
    obtain ⟨A, c, rfl, hkp⟩ := Keeps.of_did ho hv
    have hge : ∀ a, A = some a → w.heap.size ≤ a.block := fun a e => by subst e; exact (own_lt ho a.block rfl).1
    refine ⟨A, _, c, _, _, _, _, _, _, _, F', he, ht, g, hhc.dcut _ _ _ _ _, fun h3 => dcut_long h3, fun hE => ?_⟩
    obtain ⟨w1, w2, w3, w4⟩ := cut_holds ok hst hl hh hE
    exact ⟨_, _, hbk.putF hf w1 (by omega), .inl ⟨.inr rfl, _, _, rfl, hkp, hge, rfl, rfl, fun h => (by cases h), fun _ => by omega⟩⟩
  · have q2' : co ≤ (tx f2).size := q2
    refine (done_read T F D y B x 8 (tx f2).size co cn (As f2) (cs f2) (ls f2) hll s _ (by omega) w h (hk f2 (by omega)).sl).mono fun e w' ⟨he, hb⟩ => ?_
    exact ⟨none, 0, 0, _, _, _, _, _, _, y, F, he, h.below hb, Grow.of_below hb F, hhc, fun _ => rfl, fun _ => ⟨ls, tx, hbk, .inr (.inr ⟨.inl rfl, rfl, rfl⟩)⟩⟩
  · rcases q with rfl | rfl
    · refine (done_store T F D y B x 7 (tx f2).size 0 0 (As 2) (cs 2) (ls 2) h2l s w h (hk 2 (by omega)).sl P pc ps (by omega) (fun p hp => by have := q2 p hp; omega) (q3.below h1) (fun a e => ⟨fun hm => by have := hF _ hm; have := (q4 a e).1; omega, Nat.lt_of_lt_of_le (q4 a e).2 h1.size⟩)).mono fun e w' ⟨v, he, ho, F', ht, g, hv⟩ => ?_
      obtain ⟨A, c, rfl, hkp⟩ := Keeps.of_did ho hv
      have hge : ∀ a, A = some a → w.heap.size ≤ a.block := fun a e => by subst e; exact (own_lt ho a.block rfl).1
      refine ⟨A, _, c, _, _, _, _, _, _, _, F', he, ht, g, hhc.dstore _ _ _ _, fun h3 => dstore_long h3, fun hE => ?_⟩
      obtain ⟨w1, w2⟩ := dstore_good ok hst hbk.bk.a2 hE
      exact ⟨upd ls 2 _, tx, hbk.put2 w1 w2, .inr (.inl ⟨rfl, _, rfl, hkp, hge, rfl, rfl⟩)⟩
    · refine (done_load T F D y B x 7 (tx f2).size 0 0 (As 2) (cs 2) (ls 2) h2l s _ w h (hk 2 (by omega)).sl).mono fun e w' ⟨v, he, ho, hb⟩ => ?_
      obtain ⟨A, c, rfl⟩ := own_slice ho
      exact ⟨none, 0, 0, _, _, _, _, _, _, y, F, he, h.below hb, Grow.of_below hb F, hhc, fun _ => rfl, fun _ => ⟨ls, tx, hbk, .inr (.inr ⟨.inr rfl, rfl, rfl⟩)⟩⟩

/-- What is known after an act without raw numbers: ErrLong changes nothing. -/
theorem kept_c {F' : List Nat} {w : World} (wh f kd off n size : Int) (xl : Value) (hf : 0 ≤ f ∧ f ≤ 255) (hwh : 0 ≤ wh ∧ wh ≤ 255) (hw7 : wh % 8 ≠ 7) (f2 : Nat) (hf2 : f % 2 = f2) (ls ls' : Nat → List Int) (tx tx' : Nat → ByteArray) (As : Nat → Option Addr) (cs : Nat → Nat) (hk : ∀ k, k < 3 → Keeps w F' (As k) (cs k) (ls k))
    (cw ck cz co cn : Int) (cl cp pv : Value) (s t : ByteArray) (z E : Int) (LA : Option Addr) (ln lk : Nat) (hE : (E ≠ 0 ∧ ls' = ls ∧ tx' = tx) ∨ (E = 0 ∧
      (((cw = 0 ∨ cw = 2) ∧ ∃ L t', ln = L.length ∧ Keeps w F' LA lk L ∧ ls' = upd ls f2 L ∧ tx' = upd tx f2 t' ∧ (cw = 0 → z = (t' : ByteArray).size) ∧ (cw = 2 → cn = t'.size)) ∨
       (cw = 5 ∧ ∃ L, ln = L.length ∧ Keeps w F' LA lk L ∧ ls' = upd ls 2 L ∧ tx' = tx) ∨
       ((cw = 3 ∨ cw = 6) ∧ ls' = ls ∧ tx' = tx)))) :
    Calls Tryz.prog 13 #[.agg (bookC (slOf As cs ls 0) (slOf As cs ls 1) (slOf As cs ls 2) (zsOf tx 0) (zsOf tx 1)), .agg (actC wh f kd off n size xl s), .agg (callC cw ck cz co cn cl s cp), .agg (ansC (.slice LA ln lk) pv t z E)] w fun e w' =>
      Below w.heap.size w w' ∧ ∃ (As' : Nat → Option Addr) (cs' : Nat → Nat), e = .returned (.agg (bookC (slOf As' cs' ls' 0) (slOf As' cs' ls' 1) (slOf As' cs' ls' 2) (zsOf tx' 0) (zsOf tx' 1))) ∧ (∀ k, k < 3 → Keeps w F' (As' k) (cs' k) (ls' k)) ∧ ∀ k, k < 3 → As' k = As k ∨ (As' k = LA ∧ E = 0 ∧ (cw = 0 ∨ cw = 2 ∨ cw = 5)) := by
  have hau : ∀ g k, k < 3 → upd As g LA k = As k ∨ upd As g LA k = LA := fun g k h => by
    unfold upd; split
    · exact .inr rfl
    · exact .inl rfl
  rcases hE with ⟨h0, rfl, rfl⟩ | ⟨rfl, hE⟩
  · refine (kept_err (As 0) (As 1) (As 2) LA (ls' 0).length (cs 0) (ls' 1).length (cs 1) (ls' 2).length (cs 2) ln lk _ _ wh f kd off n size xl s cw ck cz co cn cl s cp pv t z E hf hwh h0 w).mono ?_
    rintro e w' ⟨rfl, hb⟩
    exact ⟨hb, As, cs, rfl, hk, fun _ _ => .inl rfl⟩
  · have hcw : cw = 0 ∨ cw = 2 ∨ cw = 3 ∨ cw = 5 ∨ cw = 6 := by
      rcases hE with ⟨h | h, -⟩ | ⟨h, -⟩ | ⟨h | h, -⟩ <;> simp [h]
    refine (kept_act (slOf As cs ls) (zsOf tx) (As 0) (As 1) (As 2) LA (ls 0).length (cs 0) (ls 1).length (cs 1) (ls 2).length (cs 2) ln lk wh f kd off n size xl s cw ck cz co cn cl cp pv t z hf hwh hw7 f2 hf2 rfl rfl rfl hcw w).mono ?_
    rintro e w' ⟨sl', zs', rfl, hb, hsp⟩
    refine ⟨hb, ?_⟩
    rcases hE with ⟨h, L, t', rfl, hkp, rfl, rfl, k1, k2⟩ | ⟨h, L, rfl, hkp, rfl, rfl⟩ | ⟨h, rfl, rfl⟩
    · refine ⟨upd As f2 LA, upd cs f2 lk, ?_, keeps_upd hk hkp, fun k hk => (hau f2 k hk).imp id fun h9 => ⟨h9, rfl, by rcases h with h | h <;> simp [h]⟩⟩
      have hz : zs' = zsOf (upd tx f2 t') ∧ sl' = slOf (upd As f2 LA) (upd cs f2 lk) (upd ls f2 L) := by
        rcases hsp with ⟨q0, q1, q2⟩ | ⟨q0, q1, q2⟩ | ⟨q0, -⟩ | ⟨q0, -⟩
        · exact ⟨q2.trans ((congrArg (upd (zsOf tx) f2) (k1 q0)).trans (zsOf_upd _ _ _)), q1.trans (slOf_upd _ _ _ _ _ _ _)⟩
        · exact ⟨q2.trans ((congrArg (upd (zsOf tx) f2) (k2 q0)).trans (zsOf_upd _ _ _)), q1.trans (slOf_upd _ _ _ _ _ _ _)⟩
        · omega
        · omega
      rw [hz.1, hz.2]
    · refine ⟨upd As 2 LA, upd cs 2 lk, ?_, keeps_upd hk hkp, fun k hk => (hau 2 k hk).imp id fun h9 => ⟨h9, rfl, by simp [h]⟩⟩
      rcases hsp with ⟨q0, -⟩ | ⟨q0, -⟩ | ⟨-, q1, q2⟩ | ⟨q0, -⟩
      · omega
      · omega
      · rw [q1, q2, slOf_upd]
      · omega
    · refine ⟨As, cs, ?_, hk, fun _ _ => .inl rfl⟩
      rcases hsp with ⟨q0, -⟩ | ⟨q0, -⟩ | ⟨q0, -⟩ | ⟨-, q1, q2⟩
      · omega
      · omega
      · omega
      · rw [q1, q2]
end Go.Proofs.YtljmdcegcckblaaGreatDoor
/- P12.6: plain words on strings: what the law's own texts become. -/
namespace Go.Proofs.YtljmdcegcckblaaGreatDoor
open Go.RowKit Go.Maps

theorem OfSpec.rg {w w1 : World} {f2 : Nat} {sl : Nat → Value} {zs : Nat → Int} {cw ck cz co cn : Int} {cl : Value} {P : Option Addr} {pn : Nat} (h : OfSpec w w1 f2 sl zs cw ck cz co cn cl P pn) (hz : 0 ≤ zs f2) : 0 ≤ co ∧ co ≤ zs f2 ∧ 0 ≤ cn ∧ cn < 800 := by
  rcases h with h | h | h | ⟨h1, h2, h3, h4, h5, h6⟩
  · omega
  · omega
  · omega
  · omega
end Go.Proofs.YtljmdcegcckblaaGreatDoor
/- The laws of layer 12: what their rows share. -/
namespace Go.Proofs.YtljmdcegcckblaaGreatDoor
open Go.ChangeShapes Go.WideShapes Go.ChangeAt Go.RowKit Go.Joins Go.Deep

theorem Tryz.own : ownKnob Tryz.prog.godebug = none := by kernel_rfl
theorem Tryz.laidOut : laidOutB Tryz.prog = true := by kernel_rfl
theorem gHalf : Tryz.prog.globalNamed "limewash/sums.half" = some 0 := by kernel_rfl
def half1 : List (String × DataW Unit) := [("limewash/sums.half", Rows.laid_limewash_sums_half)]

/-- The heap that the program's start leaves meets the condition. -/
theorem door_met (os : Os) (args : Array Value) : laidMetH Tryz.prog half1 ((World.doorLaid Tryz.prog 400 os).forCall (fun _ _ => 0) ⟨#[], args, []⟩).memory :=
  laidMetH_of_parts3 (fuel := 8) (laidMet_of_run' 8 (by kernel_rfl) (by kernel_rfl)) (by kernel_rfl) (by kernel_rfl)

theorem gHalfType : (Tryz.prog.globals[0]?).map (·.type) = some 256 := by kernel_rfl
theorem half_of_laid {W : World} (h : laidMetH Tryz.prog half1 W) : HalfAt W := by
  rw [MakeChecks.laidMetH_plain _ _ _ (by kernel_rfl)] at h
  have hT : Lib.TabIs Tryz.prog W "limewash/sums.half" .u32 halfL := Lib.tabIs_of_head (n := 16) (e := 126) gHalf gHalfType (by kernel_rfl) (by kernel_rfl) (by kernel_rfl) (by kernel_rfl) h
  have hc : ∀ j, j < 16 → W.cell? ⟨0, j, none⟩ = some (.int .u32 (halfL.getD j 0)) := fun j hj => hT.cell gHalf j hj
  exact ⟨block_lt_of_cell (hc 0 (by omega)), hc⟩

theorem Tryz.cellsStart : Tryz.prog.cellsOf 23 = 2 := by kernel_rfl
section
variable {H : Type} {enc : TypeId × Value → H} {W : World}
set_option maxRecDepth 100000 in
theorem open_start {r : Reach} {b0 : Nat} {v : Value} {d : DataW H} {p : List MemPlace} (hv : Value.okWide Tryz.prog W r b0 23 v) (h : DataW.Trod enc Tryz.prog W 0 (fun _ => true) true 23 v d p) :
    ∃ j i : Int, v = .agg #[.int .u8 j, .int .u8 i] ∧ (0 ≤ j ∧ j ≤ 255) ∧ (0 ≤ i ∧ i ≤ 255) := by
  obtain ⟨cs, rfl, hsz⟩ := okWide_struct Tryz.underlying23 hv
  rw [Tryz.cellsStart] at hsz
  obtain ⟨l0⟩ := cs
  obtain ⟨fuel, hf⟩ := h
  have hf2 : DataW.trod enc Tryz.prog W 0 (fun _ => true) true fuel 23 l0 = some (d, p) := by simpa [Value.cells] using hf
  match l0, hsz with
  | [c0, c1], _ =>
    obtain ⟨xs, n, _, _, _, hlen, hg⟩ := DataW.trod_struct Tryz.underlying23 hf2
    have g0 : DataW.trod enc Tryz.prog W 0 (fun _ => true) true n 5 [c0] = xs[0]? := by have := hg 0 _ rfl; simpa [Tryz.cellsU8, Value.cells] using this
    have g1 : DataW.trod enc Tryz.prog W 0 (fun _ => true) true n 5 [c1] = xs[1]? := by have := hg 1 _ rfl; simpa [Tryz.cellsU8, Value.cells] using this
    clear hg
    match xs, hlen with
    | [y0, y1], _ =>
      simp only [List.getElem?_cons_zero, List.getElem?_cons_succ] at g0 g1
      obtain ⟨a0, e0, _, w0⟩ := DataW.trod_int Tryz.underlying5 g0
      obtain ⟨a1, e1, _, w1⟩ := DataW.trod_int Tryz.underlying5 g1
      simp at e0 e1
      subst e0 e1
      exact ⟨a0, a1, rfl, wf_u8_iff w0, wf_u8_iff w1⟩
set_option maxRecDepth 100000 in
theorem open_actv {r : Reach} {b0 : Nat} {v : Value} {d : DataW H} {p : List MemPlace} (hv : Value.okWide Tryz.prog W r b0 24 v) (h : DataW.Trod enc Tryz.prog W 0 (fun _ => true) true 24 v d p) :
    ∃ (A : Option Addr) (c : Nat) (xs : List ActV), v = .slice A xs.length c ∧ Reads W A (xs.flatMap actL) ∧ (∀ a ∈ xs, ActOk W a) ∧ xs.length ≤ maxLen := by
  obtain ⟨a0, l0, c0, rfl⟩ := okWide_slice Tryz.underlying24 hv
  obtain ⟨fuel, hf⟩ := h
  obtain ⟨A, n, c, xs, h1, h2, h3, h4, h5, h6, -⟩ := open_acts (v := .slice a0 l0 c0) (by simpa [Value.cells] using hf)
  subst h2
  exact ⟨A, c, xs, h1, h3, h4, by omega⟩
end
end Go.Proofs.YtljmdcegcckblaaGreatDoor
