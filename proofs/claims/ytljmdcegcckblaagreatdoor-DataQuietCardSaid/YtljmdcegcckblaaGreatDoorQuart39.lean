/- Layer 12: store. -/
import Derived.Test.YtljmdcegcckblaaGreatDoorQuart34
namespace Go.Proofs.YtljmdcegcckblaaGreatDoor
open Go.RowKit Go.Maps

def StoreDid (n0 : Nat) (w : World) (T : Nat) (F : List Nat) (D : Nat) (B : List Nat) (x : DevS) (r : Int × TxS × List Int) (e : Ending) (w' : World) : Prop :=
  ∃ v, e = .returned (.tuple #[v, .int .i64 r.1]) ∧ w'.ownsRow n0 3 1 v r.2.2.length (r.2.2.map (.int .i64)) ∧ ∃ F', TD w' T F' D r.2.1 B x ∧ GrowN n0 w F w' F' ∧ ∀ q, v.ownBlock = some q → q ∉ F'

/-- What the loop of store finds, and keeps. -/
structure StoreAt (n0 : Nat) (w : World) (Lb T : Nat) (F : List Nat) (D : Nat) (B : List Nat) (x : DevS) (s j i kd : Int) (A : Option Addr) (c : Nat) (l : List Int) (P : Option Addr) (ps : List ByteArray) (F1 : List Nat) (z : TxS) (V : World) : Prop where
  td : TD V T F1 D z B x
  gr : GrowN n0 w F V F1
  nV : n0 ≤ V.heap.size
  sm : z.s = s ∧ z.j = j ∧ z.i = i
  bl : Blk V Lb 96 (lsC T s j i kd (.slice A l.length c))
  lb : n0 ≤ Lb ∧ Lb ∉ F1
  ow : V.ownsRow n0 3 1 (.slice A l.length c) l.length (l.map (.int .i64))
  owF : ∀ a, A = some a → a.block ∉ F1 ∧ a.block ≠ Lb
  rp : Reads V P (ps.map .string)
  rpF : ∀ a, P = some a → a.block ∉ F1 ∧ a.block ≠ Lb ∧ ∀ a', A = some a' → a'.block ≠ a.block

theorem bytes_eq {a b : ByteArray} (h : a.toList = b.toList) : a = b := by
  rw [ByteArray.toList_eq, ByteArray.toList_eq] at h
  exact ByteArray.ext (Array.toList_inj.1 h)
theorem bytes_ne {a b : ByteArray} (h : a ≠ b) : (a.toList == b.toList) = false := by
  rw [Bool.eq_false_iff]; intro e; exact h (bytes_eq (by simpa using e))

/-- A step of the transaction. -/
theorem StoreAt.step {n0 : Nat} {w V V' : World} {Lb T : Nat} {F : List Nat} {D : Nat} {B : List Nat} {x : DevS} {s j i kd : Int} {A : Option Addr} {c : Nat} {l : List Int} {P : Option Addr} {ps : List ByteArray} {F1 F2 : List Nat} {z z' : TxS}
    (h : StoreAt n0 w Lb T F D B x s j i kd A c l P ps F1 z V) (ht : TxAt V' T F2 D z') (g : Grow V F1 V' F2) (hs : z'.Same z) (hP0 : ∀ a, P = some a → a.block < V.heap.size) : StoreAt n0 w Lb T F D B x s j i kd A c l P ps F2 z' V' where
  td := h.td.grow ht g
  gr := h.gr.trans (g.toN h.nV)
  nV := Nat.le_trans h.nV g.keep.size
  sm := ⟨hs.1.trans h.sm.1, hs.2.1.trans h.sm.2.1, hs.2.2.trans h.sm.2.2⟩
  bl := g.blk h.bl h.lb.2
  lb := ⟨h.lb.1, g.notin h.lb.2 h.bl.lt⟩
  ow := own_block h.ow fun q hq => g.keep.block q (own_lt h.ow q hq).2 (by
    cases A with
    | none => cases hq
    | some a => cases hq; exact (h.owF a rfl).1)
  owF := fun a ha => ⟨g.notin (h.owF a ha).1 (by subst ha; exact (own_lt h.ow a.block rfl).2), (h.owF a ha).2⟩
  rp := h.rp.growF g fun a ha => (h.rpF a ha).1
  rpF := fun a ha => ⟨g.notin (h.rpF a ha).1 (hP0 a ha), (h.rpF a ha).2⟩
theorem StoreAt.below {n0 : Nat} {w V V' : World} {Lb T : Nat} {F : List Nat} {D : Nat} {B : List Nat} {x : DevS} {s j i kd : Int} {A : Option Addr} {c : Nat} {l : List Int} {P : Option Addr} {ps : List ByteArray} {F1 : List Nat} {z : TxS}
    (h : StoreAt n0 w Lb T F D B x s j i kd A c l P ps F1 z V) (hb : Below V.heap.size V V') : StoreAt n0 w Lb T F D B x s j i kd A c l P ps F1 z V' where
  td := h.td.below hb
  gr := h.gr.trans (GrowN.of_below hb h.nV F1)
  nV := Nat.le_trans h.nV hb.size
  sm := h.sm
  bl := h.bl.belowAll hb
  lb := h.lb
  ow := own_below h.ow hb
  owF := h.owF
  rp := h.rp.below hb
  rpF := h.rpF

theorem Reads.drop0 {w : World} {g m : Nat} {xs : List Value} (h : Reads w (some ⟨g, 0, none⟩) xs) : Reads w (some ⟨g, m, none⟩) (xs.drop m) := by
  rcases h with rfl | ⟨b, off, he, hl, hc⟩
  · exact .inl (by simp)
  · cases he
    exact .inr ⟨g, m, rfl, hl, fun k u hu => by
      rw [List.getElem?_drop] at hu
      have := hc (m + k) u hu
      rwa [Nat.zero_add] at this⟩

/-- The list made shorter. -/
theorem StoreAt.cut {n0 : Nat} {w V : World} {Lb T : Nat} {F : List Nat} {D : Nat} {B : List Nat} {x : DevS} {s j i kd : Int} {g c : Nat} {l : List Int} {P : Option Addr} {ps : List ByteArray} {F1 : List Nat} {z : TxS}
    (h : StoreAt n0 w Lb T F D B x s j i kd (some ⟨g, 0, none⟩) c l P ps F1 z V) (hn0 : 0 < n0) (hB : ∀ b ∈ B, b < n0) (m : Nat) (hm : m ≤ l.length) :
    StoreAt n0 w Lb T F D B x s j i kd (some ⟨g, 0, none⟩) c (l.take m) P ps F1 z (V.setCell ⟨Lb, 5, none⟩ (.slice (some ⟨g, 0, none⟩) m c)) := by
  have hlm : (l.take m).length = m := by rw [List.length_take]; omega
  have hgL : g ≠ Lb := (h.owF _ rfl).2
  refine ⟨h.td.set_ (p := ⟨Lb, 5, none⟩) h.lb.2 (fun hm => by have h9 := hB _ hm; have := h.lb.1; exact absurd h9 (by show ¬ Lb < n0; omega)) (by show Lb ≠ 0; have := h.lb.1; omega) _, h.gr.set_ (p := ⟨Lb, 5, none⟩) h.lb.1 _, by simpa using h.nV, h.sm, ?_, h.lb, ?_, h.owF, ?_, h.rpF⟩
  · rw [hlm]; exact h.bl.set_ 5 _
  · rw [hlm]
    have h1 : (V.setCell ⟨Lb, 5, none⟩ (.slice (some ⟨g, 0, none⟩) m c)).ownsRow n0 3 1 (.slice (some ⟨g, 0, none⟩) l.length c) l.length (l.map (.int .i64)) := own_block h.ow fun q hq => by cases hq; exact Below.heap_setCell _ _ _ _ hgL
    rcases h1.2 with ⟨he, -⟩ | ⟨g', cap, cur, he, hb, hk, hc, hc2, hcs, ht⟩
    · cases he
    · cases he
      refine ⟨by rw [List.length_map, hlm, Nat.mul_one], .inr ⟨g, c, cur, rfl, hb, hk, by omega, hc2, hcs, ?_⟩⟩
      rw [List.map_take, ← ht, List.take_take]
      congr 1; omega
  · rcases h.rp with h0 | ⟨b, off, rfl, hl, hc⟩
    · exact .inl h0
    · exact .inr ⟨b, off, rfl, by simpa using hl, fun k u hu => (World.cell?_of_block (w := V) (a := ⟨b, off + k, none⟩) (Below.heap_setCell V ⟨Lb, 5, none⟩ _ b (h.rpF _ rfl).2.1)).trans (hc k u hu)⟩

/-- The list made longer. -/
theorem StoreAt.app {n0 : Nat} {w V V1 : World} {Lb T : Nat} {F : List Nat} {D : Nat} {B : List Nat} {x : DevS} {s j i kd : Int} {A A' : Option Addr} {c c' : Nat} {l news : List Int} {P : Option Addr} {ps : List ByteArray} {F1 : List Nat} {z : TxS}
    (h : StoreAt n0 w Lb T F D B x s j i kd A c l P ps F1 z V) (hn0 : 0 < n0) (hB : ∀ b ∈ B, b < n0) (hP0 : ∀ a, P = some a → a.block < V.heap.size)
    (ho : V1.ownsRow n0 3 1 (.slice A' (l ++ news).length c') (l ++ news).length ((l ++ news).map (.int .i64))) (hg : V.grownBy V1 (Value.slice A l.length c).ownBlock) (ha : (Value.slice A' (l ++ news).length c').ownBlock = (Value.slice A l.length c).ownBlock ∨ (Value.slice A' (l ++ news).length c').ownBlock = some V.heap.size) :
    StoreAt n0 w Lb T F D B x s j i kd A' c' (l ++ news) P ps F1 z (V1.setCell ⟨Lb, 5, none⟩ (.slice A' (l ++ news).length c')) ∧ (∀ a, P = some a → a.block < (V1.setCell ⟨Lb, 5, none⟩ (.slice A' (l ++ news).length c')).heap.size) := by
  have hsz := hg.size
  have hLV := h.bl.lt
  have hnoB : Lb ∉ B := fun hm => by have h9 := hB _ hm; have := h.lb.1; omega
  have hL0 : Lb ≠ 0 := by have := h.lb.1; omega
  have hkeep : ∀ b, b < V.heap.size → (∀ a, A = some a → a.block ≠ b) → V1.heap[b]? = V.heap[b]? := fun b hb hn => hg.block b hb (fun e => by
    cases A with
    | none => cases e
    | some a => cases e; exact hn _ rfl rfl)
  have hAn : ∀ a, A = some a → n0 ≤ a.block := fun a e => by subst e; exact (own_lt h.ow a.block rfl).1
  have htd : TD V1 T F1 D z B x := h.td.keep (fun b hb => by
    rcases hb with hb | hb | rfl
    · exact hkeep b (h.td.tx.lt b hb).2 (fun a e e2 => (h.owF a e).1 (by rw [e2]; exact hb))
    · exact hkeep b (h.td.dev.lt b hb).2 (fun a e e2 => by have := hAn a e; have := hB b hb; omega)
    · exact hkeep 0 h.td.dev.half.1 (fun a e e2 => by have := hAn a e; omega)) hsz
  have hA'L : ∀ a, A' = some a → a.block ∉ F1 ∧ a.block ≠ Lb := fun a e => by
    subst e
    rcases ha with ha | ha
    · cases A with
      | none => cases ha
      | some a0 =>
        have e2 : a.block = a0.block := Option.some.inj ha
        rw [e2]; exact h.owF a0 rfl
    · have e2 : a.block = V.heap.size := Option.some.inj ha
      rw [e2]
      exact ⟨fun hm => by have := (h.td.tx.lt _ hm).2; omega, by omega⟩
  have hblk : Blk V1 Lb 96 (lsC T s j i kd (.slice A l.length c)) := (hkeep Lb hLV (fun a e => (h.owF a e).2)).trans h.bl
  have hPV : ∀ a, P = some a → V1.heap[a.block]? = V.heap[a.block]? := fun a e => hkeep _ (hP0 a e) (fun a' e' => (h.rpF a e).2.2 a' e')
  refine ⟨⟨htd.set_ (p := ⟨Lb, 5, none⟩) h.lb.2 hnoB hL0 _, ?_, ?_, h.sm, hblk.set_ 5 _, h.lb, ?_, hA'L, ?_, ?_⟩, fun a e => ?_⟩
  · refine GrowN.set_ (p := ⟨Lb, 5, none⟩) ?_ h.lb.1 _
    exact h.gr.trans ⟨⟨hg.os, hg.tape, hg.output, hsz, fun b hb hn => hkeep b (by have := h.nV; omega) (fun a e e2 => by have := hAn a e; omega)⟩, fun b hb => .inl hb⟩
  · have := h.nV; simp; omega
  · exact own_block ho fun q hq => Below.heap_setCell _ _ _ _ (fun e => by
      cases A' with
      | none => cases hq
      | some a => cases hq; exact (hA'L a rfl).2 e)
  · rcases h.rp with h0 | ⟨b, off, rfl, hl, hc⟩
    · exact .inl h0
    · exact .inr ⟨b, off, rfl, by simp; omega, fun k u hu => (World.cell?_of_block (w := V) (a := ⟨b, off + k, none⟩) ((Below.heap_setCell V1 ⟨Lb, 5, none⟩ _ b (h.rpF _ rfl).2.1).trans (hPV _ rfl))).trans (hc k u hu)⟩
  · intro a e
    refine ⟨(h.rpF a e).1, (h.rpF a e).2.1, fun a' e' => ?_⟩
    subst e'
    rcases ha with ha | ha
    · cases A with
      | none => cases ha
      | some a0 =>
        have e2 : a'.block = a0.block := Option.some.inj ha
        rw [e2]; exact (h.rpF a e).2.2 a0 rfl
    · have e2 : a'.block = V.heap.size := Option.some.inj ha
      rw [e2]
      have := hP0 a e; omega
  · have := hP0 a e; simp; omega

set_option maxRecDepth 100000 in
set_option maxHeartbeats 8000000 in
theorem store_ls (Lb T n0 : Nat) (F : List Nat) (D : Nat) (y : TxS) (B : List Nat) (x : DevS) (kd : Int) (A : Option Addr) (c : Nat) (l : List Int) (P : Option Addr) (pc : Nat) (ps : List ByteArray) (hl : l.length ≤ 1000) (hm : ps.length ≤ 1000) (hps : ∀ p ∈ ps, p.size ≤ 1000000) (hn0 : 0 < n0) (_hF : ∀ b ∈ F, b < n0) (hB : ∀ b ∈ B, b < n0) (w : World)
    (h : StoreAt n0 w Lb T F D B x y.s y.j y.i kd A c l P ps F y w) (hP0 : ∀ a, P = some a → a.block < w.heap.size) :
    Calls Tryz.prog 46 #[.pointer (some ⟨Lb, 0, none⟩), .slice P ps.length pc] w (StoreDid n0 w T F D B x (y.store x kd l ps)) := by
  have c0 : w.cell? ⟨Lb, 0, none⟩ = some (.pointer (some ⟨T, 0, none⟩)) := (h.bl.cells 0).trans rfl
  have c5 : w.cell? ⟨Lb, 5, none⟩ = some (.slice A l.length c) := (h.bl.cells 5).trans rfl
  have lL := h.bl.lt
  have fL := h.bl.free
  have HPS := Lib.hid hps
  clear hps
  have HST : Hid (y.store x kd l ps = if (y.fit l ps.length).1 ≠ 0 then ((y.fit l ps.length).1, (y.fit l ps.length).2.1, [])
  else if ((y.fit l ps.length).2.1.puts x kd (y.fit l ps.length).2.2 ps ps.length).1 ≠ 0 then (((y.fit l ps.length).2.1.puts x kd (y.fit l ps.length).2.2 ps ps.length).1, ((y.fit l ps.length).2.1.puts x kd (y.fit l ps.length).2.2 ps ps.length).2, [])
  else (0, ((y.fit l ps.length).2.1.puts x kd (y.fit l ps.length).2.2 ps ps.length).2, (y.fit l ps.length).2.2)) := Lib.hid rfl
  go_enter Tryz.func46, Tryz.ntmps46
  rcases Nat.lt_trichotomy ps.length l.length with hlt | heq | hgt
  focus
    obtain ⟨g, cap, cur, hAe, hgb, hgk, hcap, -⟩ := h.ow.2.resolve_left (fun hh => by have := hh.2; omega)
    simp only [Value.slice.injEq] at hAe
    obtain ⟨rfl, -, rfl⟩ := hAe
    have hS : ∀ W F', Grow w F W F' → W.cell? ⟨Lb, 0, none⟩ = some (.pointer (some ⟨T, 0, none⟩)) ∧ W.cell? ⟨Lb, 5, none⟩ = some (.slice (some ⟨g, 0, none⟩) l.length c) := fun W F' gg => by
      have b2 := gg.blk h.bl h.lb.2
      exact ⟨(b2.cells 0).trans rfl, (b2.cells 5).trans rfl⟩
    have HSS := Lib.hid hS
    have q1 : decide ((ps.length : Int) - l.length < 0) = true := decide_eq_true (by omega)
    have q5 : ps.length < c := by omega
    have q6 : ¬ c = ps.length := by omega
    have q7 : ps.length ≤ l.length := by omega
    go_wp2_with fail
    refine wp_region_mix [.take 0, .take 1, .take 2, .take 3, .take 4, .take 5, .take 6, .take 7, .take 8, .take 9, .take 10, .one 11, .one 12] 12 (fun W => W.cell? ⟨Lb, 0, none⟩ = some (.pointer (some ⟨T, 0, none⟩)) ∧ W.cell? ⟨Lb, 5, none⟩ = some (.slice (some ⟨g, 0, none⟩) l.length c)) (by kernel_rfl) (by kernel_rfl) (fun _ _ _ _ _ h => h) (HSS.out _ F (Grow.of_below (Below.refl _ _).drew F)) ?_
    simp only [List.map_cons, List.map_nil, Ms.fill, List.getD_cons_zero, List.getD_cons_succ]
    iterate 11 (refine mixT_take (by rfl) ?_ (fun w' hw' => ?_) ?_; rotate_left; (focus (go_simp; (try with_reducible rfl))); (try simp only [Act.put, List.setIfInBounds_toArray, List.set_cons_zero, List.set_cons_succ]))
    have hs0 := h.below (Below.refl _ _).drew
    have hfr := free_tx T F D y (some ⟨g, ps.length, none⟩) (c - ps.length) (l.drop ps.length) (by rw [List.length_drop]; omega) w.drew hs0.td.tx (by rw [List.map_drop]; exact (Reads.of_own hs0.ow).drop0)
    rw [List.length_drop] at hfr
    refine mixT_step (by rfl) fun K hK => ?_
    go_simp
    refine hfr.mono ?_
    rintro e w1 ⟨rfl, F1, hT1, g1⟩
    have hs1 := hs0.step hT1 g1 (TxS.free_same _ _) hP0
    have G1 : Grow w F w1 F1 := (Grow.of_below (Below.refl _ _).drew F).trans g1
    refine hK _ _ (fun _ => HSS.out _ F1 G1) ?_
    clear hK K
    refine mixT_step (by rfl) fun K hK => ?_
    go_simp
    refine hK _ _ (fun h => absurd h (by decide)) ?_
    clear hK K
    refine mixT_nil ?_
    have HFT : Hid (y.fit l ps.length = ((y.free (l.drop ps.length)).1, (y.free (l.drop ps.length)).2, l.take ps.length)) := Lib.hid (by unfold TxS.fit; rw [if_pos hlt])
    clear hfr hs0 hT1 g1 h c0 c5
    generalize y.free (l.drop ps.length) = R at *
    obtain ⟨E, z⟩ := R
    simp only at HFT hs1 ⊢
    have c5 : w1.cell? ⟨Lb, 5, none⟩ = some (.slice (some ⟨g, 0, none⟩) l.length c) := (hs1.bl.cells 5).trans rfl
    have lL1 := hs1.bl.lt
    have fL1 := hs1.bl.free
    by_cases hE : E = 0
    rotate_left
    · have hE' : (E != 0) = true := by simpa using hE
      have HX : Hid (y.store x kd l ps = (E, z, [])) := Lib.hid (by rw [HST.out, HFT.out, if_pos hE])
      have HS1 := Lib.hid hs1
      clear hE hs1
      go_wp2_with fail
      go_ret2
      exact ⟨_, by rw [HX.out]; rfl, by rw [HX.out]; exact World.ownsRow_nil _ _ _ _, F1, by rw [HX.out]; exact HS1.out.td, HS1.out.gr, fun q hq => by cases hq⟩
    subst hE
    have hs2 := hs1.cut hn0 hB ps.length (by omega)
    have HP2 : Hid (∀ a, P = some a → a.block < (w1.setCell ⟨Lb, 5, none⟩ (.slice (some ⟨g, 0, none⟩) ps.length c)).heap.size) := Lib.hid fun a ha => by simpa using Nat.lt_of_lt_of_le (hP0 a ha) G1.keep.size
    have HS2 := Lib.hid hs2
    have q3 : ¬ l.length < ps.length := by omega
    have q4 : ps.length ≤ c := by omega
    clear hs1 hs2
    go_wp2_with fail
    obtain ⟨W2, hW2⟩ : ∃ W2, W2 = w1.setCell ⟨Lb, 5, none⟩ (.slice (some ⟨g, 0, none⟩) ps.length c) := ⟨_, rfl⟩
    rw [← hW2] at HS2 HP2 ⊢
    obtain ⟨z, F1, A1, c1, l1, HS, hP1, HFit, hlen⟩ : ∃ z F1 A1 c1 l1, StoreAt n0 w Lb T F D B x y.s y.j y.i kd A1 c1 l1 P ps F1 z W2 ∧ (∀ a, P = some a → a.block < W2.heap.size) ∧ Hid (y.fit l ps.length = (0, z, l1)) ∧ l1.length = ps.length :=
      ⟨z, F1, _, c, l.take ps.length, HS2.out, HP2.out, HFT, by rw [List.length_take]; omega⟩
    clear q1 q3 q4 q5 q6 q7 lL fL hP0 HS2 HP2 HFT hW2 G1 c5 lL1 fL1 HSS hS hgk hlt
  rotate_left
  rotate_left
  focus
    obtain ⟨i0, hi, hz0, hzs, hzb⟩ := info_parts Tryz.infoInt
    have HHI := Lib.hid hi
    clear hi
    have q1 : ¬ ps.length < l.length := by omega
    have H := Lib.hid h
    have hTD := h.td
    by_cases hl0 : 0 < l.length
    focus
      obtain ⟨g, off, hAe, hgb, hcx⟩ := (Reads.of_own h.ow).at_ (k := l.length - 1) (by simp; omega)
      rw [List.getElem_map] at hcx
      have hgd : l.getD (l.length - 1) 0 = l[l.length - 1] := by rw [List.getD_eq_getElem?_getD, List.getElem?_eq_getElem (by omega)]; rfl
      generalize l[l.length - 1] = near at *
      have HGD := Lib.hid hgd
      subst hAe
      clear hgd h hTD
      have e2 : ((l.length : Int) - 1).toNat = l.length - 1 := by omega
      have e3 : (0 : Int) ≤ (l.length : Int) - 1 := by omega
      have e1 : IntKind.i64.wrap ((l.length : Int) - 1) = (l.length : Int) - 1 := by rw [IntKind.wrap_i64]; omega
      go_wp2_with fail
      go_quiet (fail)
      rename_i nq
      clear e1 e2 e3 hcx
      obtain ⟨V0, hV0⟩ : ∃ V0, V0 = w.drewN nq := ⟨_, rfl⟩
      rw [← hV0]
      have hs0 := H.out.below (V' := V0) (by rw [hV0]; exact below_drewN' (Below.refl _ _) _)
      have hP1 : ∀ a, P = some a → a.block < V0.heap.size := fun a ha => by rw [hV0]; exact hP0 a ha
      have HNR : Hid (l.getD (l.length - 1) 0 = near) := HGD
      clear hV0 nq HGD hgb c0 c5 lL fL hP0 H
      obtain ⟨A0, hA0⟩ : ∃ A0 : Option Addr, A0 = some ⟨g, off, none⟩ := ⟨_, rfl⟩
      rw [← hA0] at hs0
      clear hA0
      have c0 : V0.cell? ⟨Lb, 0, none⟩ = some (.pointer (some ⟨T, 0, none⟩)) := (hs0.bl.cells 0).trans rfl
      have lL0 := hs0.bl.lt
      go_wp2_with fail
      clear c0 lL0
    rotate_left
    focus
      have hl1 : l = [] := List.length_eq_zero_iff.1 (by omega)
      obtain ⟨near, hnr⟩ : ∃ near : Int, near = 0 := ⟨_, rfl⟩
      have HNR : Hid (l.getD (l.length - 1) 0 = near) := Lib.hid (by rw [hl1, hnr]; rfl)
      have hs0 := h
      have hP1 := hP0
      clear hl1 hTD H h hP0
      go_wp2_with fail
      rw [← hnr]
      clear hnr c0 c5 lL fL
      obtain ⟨A0, hA0⟩ : ∃ A0 : Option Addr, A0 = A := ⟨_, rfl⟩
      rw [← hA0] at hs0
      clear hA0
    all_goals
      have HFT : Hid (y.fit l ps.length = ((y.take near ((ps.length : Int) - l.length)).1, (y.take near ((ps.length : Int) - l.length)).2, l ++ y.takeL near ((ps.length : Int) - l.length))) := Lib.hid (by unfold TxS.fit; rw [if_neg (by omega), if_pos hgt, HNR.out])
      have HTL := Lib.hid (TxS.takeL_len y near ((ps.length : Int) - l.length))
      refine (take_tx T F D y near ((ps.length : Int) - l.length) _ hs0.td.tx).mono ?_
      rintro e w1 ⟨v1, rfl, hot, F1, hT1, g1, -⟩
      obtain ⟨av, cv, rfl⟩ := own_slice hot
      have hs1 := hs0.step hT1 g1 (TxS.take_same _ _ _) hP1
      have hP2 : ∀ a, P = some a → a.block < w1.heap.size := fun a ha => Nat.lt_of_lt_of_le (hP1 a ha) g1.keep.size
      have hre : Reads w1 av ((y.takeL near ((ps.length : Int) - l.length)).map (.int .i64)) := Reads.of_own hot
      have hav : av = none → (y.takeL near ((ps.length : Int) - l.length)).length = 0 := fun e => by
        rcases hot.2 with ⟨-, h0⟩ | ⟨g', cap', cur', he, -⟩
        · exact h0
        · rw [e] at he; cases he
      clear hs0 hT1 g1 hot hP1
      generalize y.takeL near ((ps.length : Int) - l.length) = L at *
      generalize y.take near ((ps.length : Int) - l.length) = R at *
      obtain ⟨E, z⟩ := R
      simp only at HFT hs1 HTL ⊢
      have c5 : w1.cell? ⟨Lb, 5, none⟩ = some (.slice A0 l.length c) := (hs1.bl.cells 5).trans rfl
      have lL1 := hs1.bl.lt
      have fL1 := hs1.bl.free
      by_cases hE : E = 0
      rotate_left
      · have hE' : (E != 0) = true := by simpa using hE
        have HX : Hid (y.store x kd l ps = (E, z, [])) := Lib.hid (by rw [HST.out, HFT.out, if_pos hE])
        have HS1 := Lib.hid hs1
        clear hE hs1
        go_wp2_with fail
        go_ret2
        exact ⟨_, by rw [HX.out]; rfl, by rw [HX.out]; exact World.ownsRow_nil _ _ _ _, F1, by rw [HX.out]; exact HS1.out.td, HS1.out.gr, fun q hq => by cases hq⟩
      subst hE
      have hLl : L.length = ps.length - l.length := by have := HTL.out rfl; omega
      have hll : (l ++ L).length = ps.length := by rw [List.length_append]; omega
      have HLL := Lib.hid hll
      have hmaps : ((l ++ L).map (Value.int .i64)) = l.map (.int .i64) ++ L.map (.int .i64) := List.map_append
      have HMP := Lib.hid hmaps
      have hi := HHI.out
      have HS1 := Lib.hid hs1
      have HP2 := Lib.hid hP2
      have hq9 : l.length + L.length ≤ 1000 := by omega
      have HLl := Lib.hid hLl
      have hlen2 : (l ++ L).length = l.length + L.length := List.length_append
      have HL2 := Lib.hid hlen2
      clear hLl hll hmaps hs1 hP2 hlen2 HTL
      go_wp2_with (at_builtin; refine wpList_append_any _ rfl (.tmp 90) (.tmp 91) _ rfl n0 3 i0 (.int .i64 0) 8 Tryz.underlying34 hi hz0 hzs hzb rfl (.slice A0 l.length c) l.length (l.map (.int .i64)) rfl HS1.out.ow av L.length cv (L.map (.int .i64)) rfl (by simp) hav hre (oneCell_ints L) (by simp only [maxLen]; omega) (by omega) HS1.out.nV ?_; intro v' w2 hown hg2 hat; obtain ⟨A', c', rfl⟩ := own_slice hown; obtain ⟨HS2, HP3⟩ := HS1.out.app (news := L) hn0 hB HP2.out (by rw [HL2.out, HMP.out]; exact hown) hg2 (by rw [HL2.out]; exact hat); rw [HL2.out] at HS2; have lL2 : Lb < w2.heap.size := Nat.lt_of_lt_of_le lL1 hg2.size; have bL2 : Blk w2 Lb 96 (lsC T y.s y.j y.i kd (.slice A0 l.length c)) := (hg2.block Lb lL1 (fun e => by cases A0 with | none => cases e | some a => cases e; exact (HS1.out.owF a rfl).2 rfl)).trans HS1.out.bl; have fL2 := bL2.free; have c52 : w2.cell? ⟨Lb, 5, none⟩ = some (.slice A0 l.length c) := (bL2.cells 5).trans rfl)
      rw [HL2.out] at HP3
      obtain ⟨W2, hW2⟩ : ∃ W2, W2 = w2.setCell ⟨Lb, 5, none⟩ (.slice A' (l.length + L.length) c') := ⟨_, rfl⟩
      rw [← hW2] at HS2 HP3 ⊢
      obtain ⟨z, F1, A1, c1, l1, HS, hP1, HFit, hlen⟩ : ∃ z F1 A1 c1 l1, StoreAt n0 w Lb T F D B x y.s y.j y.i kd A1 c1 l1 P ps F1 z W2 ∧ (∀ a, P = some a → a.block < W2.heap.size) ∧ Hid (y.fit l ps.length = (0, z, l1)) ∧ l1.length = ps.length :=
        ⟨z, F1, A', c', l ++ L, HS2, HP3, HFT, HLL.out⟩
      clear HS2 HP3 HFT HLL hW2 c52 fL2 lL2 bL2 hat hown hg2 hq9 HMP HP2 HS1 HL2 HLl hi hav hre fL1 lL1 c5 q1 hgt HNR hz0 hzs hzb HHI
  rotate_right
  focus
    have q1 : decide ((ps.length : Int) - l.length < 0) = false := decide_eq_false (by omega)
    have q2 : decide (0 < (ps.length : Int) - l.length) = false := decide_eq_false (by omega)
    have q3 : ¬ l.length < ps.length := by omega
    have q4 : ¬ ps.length < l.length := by omega
    have HEQ := Lib.hid heq
    clear heq
    go_wp2_with fail
    obtain ⟨z, F1, A1, c1, l1, HS, hP1, HFit, hlen⟩ : ∃ z F1 A1 c1 l1, StoreAt n0 w Lb T F D B x y.s y.j y.i kd A1 c1 l1 P ps F1 z w ∧ (∀ a, P = some a → a.block < w.heap.size) ∧ Hid (y.fit l ps.length = (0, z, l1)) ∧ l1.length = ps.length :=
      ⟨y, F, A, c, l, h, hP0, Lib.hid (by unfold TxS.fit; have := HEQ.out; rw [if_neg (by omega), if_neg (by omega)]), HEQ.out.symm⟩
    clear q1 q2 q3 q4 h c0 c5 lL fL hP0
  all_goals
    go_loopw [97] (fun q wr => ∃ (k : Nat) (F2 : List Nat), k ≤ ps.length ∧ q = .int .i64 k ∧ (z.puts x kd l1 ps k).1 = 0 ∧ StoreAt n0 w Lb T F D B x y.s y.j y.i kd A1 c1 l1 P ps F2 (z.puts x kd l1 ps k).2 wr ∧ (∀ a, P = some a → a.block < wr.heap.size)) (fun q _ => ps.length - (RowKit.intOf q).toNat)
    case atStart => exact ⟨0, F1, Nat.zero_le _, rfl, rfl, HS, hP1⟩
    case round =>
      obtain ⟨k, F2, hk, rfl, h0, hs, hPw⟩ := hrel
      by_cases hlt : k < ps.length
      · obtain ⟨bp, op, hPe, hbp, hcp⟩ := hs.rp.at_ (k := k) (by simpa using hlt)
        rw [List.getElem_map] at hcp
        obtain ⟨v, hv⟩ : ∃ v, l1[k]? = some v := ⟨_, List.getElem?_eq_getElem (by omega)⟩
        have hgd : l1.getD k 0 = v := by rw [List.getD_eq_getElem?_getD, hv]; rfl
        have hgp : ps.getD k ⟨#[]⟩ = ps[k] := by rw [List.getD_eq_getElem?_getD, List.getElem?_eq_getElem hlt]; rfl
        have hp6 : ps[k].size ≤ 1000000 := HPS.out _ (List.getElem_mem hlt)
        have hsm0 : SecV z.s z.j z.i v = SecV y.s y.j y.i v := by rw [HS.sm.1, HS.sm.2.1, HS.sm.2.2]
        have hst : z.puts x kd l1 ps (k + 1) = if ((z.puts x kd l1 ps k).2.part x kd v).2 = 0 ∧ ((z.puts x kd l1 ps k).2.part x kd v).1 = ps[k] then z.puts x kd l1 ps k else (z.puts x kd l1 ps k).2.write (SecV y.s y.j y.i v) kd ps[k] := by
          show (if (z.puts x kd l1 ps k).1 ≠ 0 then z.puts x kd l1 ps k else _) = _
          rw [if_neg (by simpa using h0), hgd, hgp, hsm0]
        have hstay : (z.puts x kd l1 ps (k + 1)).1 ≠ 0 → y.store x kd l ps = ((z.puts x kd l1 ps (k + 1)).1, (z.puts x kd l1 ps (k + 1)).2, []) := fun hne => by
          have e := TxS.puts_stay hne (show k + 1 ≤ ps.length by omega)
          rw [HST.out, HFit.out, if_neg (by simp)]
          show (if (z.puts x kd l1 ps ps.length).1 ≠ 0 then ((z.puts x kd l1 ps ps.length).1, (z.puts x kd l1 ps ps.length).2, []) else _) = _
          rw [e, if_pos hne]
        have H0 := Lib.hid h0
        obtain ⟨zk, hzk⟩ : ∃ zk, zk = (z.puts x kd l1 ps k).2 := ⟨_, rfl⟩
        have hpk : z.puts x kd l1 ps k = (0, zk) := Prod.ext h0 hzk.symm
        rw [hpk] at hst
        simp only at hst
        rw [← hzk] at hs
        have HSN := Lib.hid hst
        have HSY := Lib.hid hstay
        have bl := hs.bl
        rw [← hs.sm.1, ← hs.sm.2.1, ← hs.sm.2.2] at bl
        have hpt := part_ls Lb T F2 D zk B x kd A1 c1 l1 k v hv (by omega) wr hs.td.tx hs.td.dev bl (Reads.of_own hs.ow)
        have HHS := Lib.hid hs
        have HHV := Lib.hid hv
        have c0 : wr.cell? ⟨Lb, 0, none⟩ = some (.pointer (some ⟨T, 0, none⟩)) := (bl.cells 0).trans rfl
        clear hst hstay hgd hgp hsm0 h0 hs bl hv hzk hpk
        generalize ps[k] = p at *
        subst hPe
        go_wp2_with fail
        refine hpt.mono ?_
        rintro e w1 ⟨rfl, hb1⟩
        have hs1 := HHS.out.below hb1
        have hP2 : ∀ a, some (⟨bp, op, none⟩ : Addr) = some a → a.block < w1.heap.size := fun a ha => Nat.lt_of_lt_of_le (hPw a ha) hb1.size
        clear hpt c0 hcp
        generalize zk.part x kd v = Pt at *
        obtain ⟨pd, pe⟩ := Pt
        simp only at HSN ⊢
        by_cases hsame : pe = 0 ∧ pd = p
        · have HX : Hid (z.puts x kd l1 ps (k + 1) = (0, zk)) := Lib.hid (by rw [HSN.out, if_pos hsame])
          obtain ⟨rfl, rfl⟩ := hsame
          have HS1 := Lib.hid hs1
          have HP2 := Lib.hid hP2
          clear hs1 hP2
          go_wp2_with fail
          go_roundw
          case rel => exact ⟨k + 1, F2, by omega, by go_num, by rw [HX.out], by rw [HX.out]; exact HS1.out, HP2.out⟩
          case measure => simp [RowKit.intOf]; omega
        · have HX : Hid (z.puts x kd l1 ps (k + 1) = zk.write (SecV y.s y.j y.i v) kd p) := Lib.hid (by rw [HSN.out, if_neg hsame])
          have hq : (pe == 0) = false ∨ (pe = 0 ∧ (pd.toList == p.toList) = false) := by
            by_cases e : pe = 0
            · exact .inr ⟨e, bytes_ne fun e2 => hsame ⟨e, e2⟩⟩
            · exact .inl (by simpa using e)
          clear hsame
          have bl := hs1.bl
          have hS : ∀ W F', Grow w1 F2 W F' → W.cell? ⟨Lb, 0, none⟩ = some (.pointer (some ⟨T, 0, none⟩)) ∧ W.cell? ⟨Lb, 4, none⟩ = some (.int .i64 kd) := fun W F' g => by
            have b2 := g.blk bl hs1.lb.2
            exact ⟨(b2.cells 0).trans rfl, (b2.cells 4).trans rfl⟩
          have HSS := Lib.hid hS
          have HS1 := Lib.hid hs1
          have HP2 := Lib.hid hP2
          clear hS hs1 hP2 bl
          rcases hq with hq | ⟨rfl, hq⟩
          all_goals
            go_wp2_with fail
            refine wp_region_mix [.take 0, .take 1, .take 2, .take 3, .take 4, .take 5, .take 7, .take 8, .take 9, .take 10, .take 11, .one 6, .one 12, .one 13] 13 (fun W => W.cell? ⟨Lb, 0, none⟩ = some (.pointer (some ⟨T, 0, none⟩)) ∧ W.cell? ⟨Lb, 4, none⟩ = some (.int .i64 kd)) (by kernel_rfl) (by kernel_rfl) (fun _ _ _ _ _ h => h) (HSS.out _ F2 (Grow.of_below (Below.refl _ _).drew F2)) ?_
            simp only [List.map_cons, List.map_nil, Ms.fill, List.getD_cons_zero, List.getD_cons_succ]
            iterate 11 (refine mixT_take (by rfl) ?_ (fun w' hw' => ?_) ?_; rotate_left; (focus (go_simp; (try with_reducible rfl))); (try simp only [Act.put, List.setIfInBounds_toArray, List.set_cons_zero, List.set_cons_succ]))
            have hs2 := HS1.out.below (Below.refl _ _).drew
            refine mixT_step (by rfl) fun K hK => ?_
            go_simp
            refine (sector_ls Lb T y.s y.j y.i kd A1 c1 l1 k v HHV.out (by omega) w1.drew hs2.bl (Reads.of_own hs2.ow)).mono ?_
            rintro e w2 ⟨rfl, hb2⟩
            have hs3 := hs2.below hb2
            have B12 : Below w1.heap.size w1 w2 := (Below.refl _ _).drew.trans hb2
            refine hK _ _ (fun _ => HSS.out _ F2 (Grow.of_below B12 F2)) ?_
            clear hK K hs2
            have hab := SecV_bds y.s y.j y.i v
            refine mixT_step (by rfl) fun K hK => ?_
            go_simp
            refine (write_tx T F2 D zk (SecV y.s y.j y.i v) kd p w2 hs3.td.tx (by omega) hp6).mono ?_
            rintro e w3 ⟨rfl, F3, hT3, g3⟩
            have hs4 := hs3.step hT3 g3 (TxS.write_same _ _ _ _) (fun a ha => Nat.lt_of_lt_of_le (HP2.out a ha) B12.size)
            have G13 : Grow w1 F2 w3 F3 := (Grow.of_below B12 F2).trans g3
            have HP3 : Hid (∀ a, some (⟨bp, op, none⟩ : Addr) = some a → a.block < w3.heap.size) := Lib.hid fun a ha => Nat.lt_of_lt_of_le (HP2.out a ha) G13.keep.size
            refine hK _ _ (fun _ => HSS.out _ F3 G13) ?_
            clear hK K hs3
            refine mixT_step (by rfl) fun K hK => ?_
            go_simp
            refine hK _ _ (fun h => absurd h (by decide)) ?_
            clear hK K
            refine mixT_nil ?_
            have HS4 := Lib.hid hs4
            clear hs4 hT3 g3 G13 hab hb2 B12
            generalize zk.write (SecV y.s y.j y.i v) kd p = R at *
            obtain ⟨we, wy⟩ := R
            simp only at HX HS4 ⊢
            by_cases he : we = 0
            · subst he
              go_wp2_with fail
              go_roundw
              case rel => exact ⟨k + 1, F3, by omega, by go_num, by rw [HX.out], by rw [HX.out]; exact HS4.out, HP3.out⟩
              case measure => simp [RowKit.intOf]; omega
            · have hq : (we != 0) = true := by simpa using he
              have HY : Hid (y.store x kd l ps = (we, wy, [])) := Lib.hid (by rw [HSY.out (by rw [HX.out]; exact he), HX.out])
              clear he
              go_wp2_with fail
              go_ret2
              exact ⟨_, by rw [HY.out]; rfl, by rw [HY.out]; exact World.ownsRow_nil _ _ _ _, F3, by rw [HY.out]; exact HS4.out.td, HS4.out.gr, fun q hq => by cases hq⟩
      · obtain rfl : k = ps.length := by omega
        have HX : Hid (y.store x kd l ps = (0, (z.puts x kd l1 ps ps.length).2, l1)) := Lib.hid (by
          rw [HST.out, HFit.out, if_neg (by simp)]
          show (if (z.puts x kd l1 ps ps.length).1 ≠ 0 then _ else _) = _
          rw [if_neg (by simpa using h0)])
        have c5 : wr.cell? ⟨Lb, 5, none⟩ = some (.slice A1 l1.length c1) := (hs.bl.cells 5).trans rfl
        have lL := hs.bl.lt
        have HHS := Lib.hid hs
        clear hs h0 hlen
        go_wp2_with fail
        go_ret2
        exact ⟨_, by rw [HX.out]; rfl, by rw [HX.out]; exact HHS.out.ow, F2, by rw [HX.out]; exact HHS.out.td, HHS.out.gr, fun q hq => by
          cases A1 with
          | none => cases hq
          | some a => cases hq; exact (HHS.out.owF a rfl).1⟩

end Go.Proofs.YtljmdcegcckblaaGreatDoor
