/- Parts of the proof, put together by program: IG, ZF. -/
import Derived.Test.YtljmdcegcckblaaGreatDoorQuart35
import Derived.Test.YtljmdcegcckblaaGreatDoorQuart32
/- Layer 10: Commit of a transaction. -/
namespace Go.Proofs.YtljmdcegcckblaaGreatDoor
open Go.RowKit Go.Maps

theorem Reads.of_own3 {w : World} {base : Nat} {e : TypeId} {A : Option Addr} {n c : Nat} {xs : List Value} (h : w.ownsRow base e 3 (.slice A n c) n xs) : Reads w A xs := by
  obtain ⟨h1, h2⟩ := h
  rcases h2 with ⟨_, h2⟩ | ⟨g, cap, cur, hv, hg, hh, h3, h4, h5, h6⟩
  · left; subst h2; simpa using h1
  · right
    simp only [Value.slice.injEq] at hv
    refine ⟨g, 0, hv.1, ?_, fun j u hu => ?_⟩
    · exact (Array.getElem?_eq_some_iff.1 hh).1
    · rw [cell_of_row w g (0 + j) cur e (0, 0) hh]
      rw [← h6, List.getElem?_take] at hu
      split at hu
      · simpa using hu
      · simp at hu

/-- What Commit returns, and the device behind it. -/
def TxS.commit (y : TxS) (x : DevS) : Int × DevS := if y.recs = [] then (0, x) else x.commit 1 y.j y.recs
def TxS.end_ (y : TxS) : TxS := { y with ended := true }
def CommitDid (w : World) (T : Nat) (F : List Nat) (D : Nat) (y : TxS) (B : List Nat) (x : DevS) (e : Ending) (w' : World) : Prop :=
  e = .returned (.int .i64 (y.commit x).1) ∧ ∃ B', TD w' T F D y.end_ B' (y.commit x).2 ∧ Grow w (F ++ B) w' (F ++ B')
theorem recs_ok {y : TxS} (ok : y.Ok) (hc : y.Clean) : RecsOk y.recs := by
  have hbd := rg_bds ok.rg
  refine ⟨by rw [recs_length hc]; have := ok.len; unfold TxS.left TxS.most at this; split at this <;> split <;> omega, fun r hr => ?_⟩
  have hr := (recs_perm hc).mem_iff.1 hr
  rcases List.mem_append.1 hr with hr | hr
  · have h1 := ok.recs r hr
    have h2 := hc.small r hr
    exact ⟨by omega, by unfold maxLen; omega⟩
  · split at hr
    · simp at hr; subst hr
      exact ⟨by show -9223372036854775808 ≤ 1 + y.j ∧ 1 + y.j ≤ 9223372036854775807; omega, by show (mapS _).size ≤ maxLen; rw [mapS_size]; unfold maxLen; omega⟩
    · cases hr

set_option maxRecDepth 100000 in
set_option maxHeartbeats 4000000 in
theorem commit_tx (T : Nat) (F : List Nat) (D : Nat) (y : TxS) (B : List Nat) (x : DevS) (w : World) (h : TD w T F D y B x) (hc : y.Clean) (hE : y.stateE = 0) :
    Calls Tryz.prog 21 #[.pointer (some ⟨T, 0, none⟩)] w (CommitDid w T F D y B x) := by
  have hrc := records_tx T F D y w h.tx hc hE
  have HOK := Lib.hid (recs_ok h.tx.ok hc)
  have H0 := Lib.hid h
  unfold CommitDid
  go_enter Tryz.func21, Tryz.ntmps21
  go_wp2_with fail
  refine hrc.mono ?_
  rintro e w1 ⟨v, rfl, ho, hb1⟩
  have h1 := h.below hb1
  obtain ⟨av, cv, rfl⟩ := own_slice ho
  obtain ⟨M, wv, nv, bT, hT, -⟩ := h1.tx.mem
  have hTB : T ∉ B := h1.dis T hT
  have hT0 : T ≠ 0 := by have := (h1.tx.lt T hT).1; omega
  have hTw : T < w.heap.size := (H0.out.tx.lt T hT).2
  have h2 : TD (w1.setCell ⟨T, 20, none⟩ (.bool true)) T F D y.end_ B x := ⟨h1.tx.ended, h1.dev.set_ hTB hT0 _, h1.dis⟩
  have g2 : Grow w (F ++ B) (w1.setCell ⟨T, 20, none⟩ (.bool true)) (F ++ B) := (Grow.of_below hb1 _).trans ⟨KeepEx.setCell _ (.inl (by simp [hT])) _, fun _ h => .inl h⟩
  have ho2 : (w1.setCell ⟨T, 20, none⟩ (.bool true)).ownsRow w.heap.size 65 3 (.slice av y.recs.length cv) y.recs.length (y.recs.flatMap recV) := ownsRow_setCell_below ho hTw _
  have bT2 : Blk (w1.setCell ⟨T, 20, none⟩ (.bool true)) T 106 (txC D y.s y.j y.i wv nv M y.changed y.broken true) := bT.set_ 20 (.bool true)
  have lT := bT.lt
  have fT := bT.free
  have c20 : w1.cell? ⟨T, 20, none⟩ = some (.bool y.ended) := (bT.cells 20).trans rfl
  obtain ⟨w2, hw2⟩ : ∃ w2, w2 = w1.setCell ⟨T, 20, none⟩ (.bool true) := ⟨_, rfl⟩
  rw [← hw2] at h2 g2 ho2 bT2
  clear hrc h1 bT hb1 ho hE hc h
  by_cases h0 : y.recs = []
  · have HV : Hid (y.commit x = (0, x)) := Lib.hid (by unfold TxS.commit; rw [if_pos h0])
    have hl : y.recs.length = 0 := by rw [h0]; rfl
    rw [hl]
    clear h0
    go_wp2_with fail
    go_ret
    rw [← hw2]
    refine ⟨by rw [HV.out]; rfl, B, by rw [HV.out]; exact h2, g2⟩
  · have HV : Hid (y.commit x = x.commit 1 y.j y.recs) := Lib.hid (by unfold TxS.commit; rw [if_neg h0])
    have hl : ((y.recs.length : Int) == 0) = false := by
      have : y.recs.length ≠ 0 := fun e => h0 (List.eq_nil_of_length_eq_zero e)
      simp; exact h0
    have hAB : ∀ ad, av = some ad → ad.block ∉ B := fun ad e hm => by
      subst e
      have h3 := (own_lt ho2 ad.block rfl).1
      have h4 := (H0.out.dev.lt _ hm).2
      omega
    have HAB := Lib.hid hAB
    have hS : ∀ W : World, Below w2.heap.size w2 W → W.cell? ⟨T, 0, none⟩ = some (.pointer (some ⟨D, 0, none⟩)) := fun W hb => ((bT2.belowAll hb).cells 0).trans rfl
    have HS := Lib.hid hS
    clear h0 hAB hS
    go_wp2_with fail
    rw [← hw2]
    clear hw2 lT fT c20 hl
    refine wp_region_mix [.take 0, .take 1, .take 2, .take 3, .take 4, .take 5, .take 6, .take 7, .take 9, .one 8, .one 10, .one 11] 12 (fun w' => w'.cell? ⟨T, 0, none⟩ = some (.pointer (some ⟨D, 0, none⟩))) (by kernel_rfl) (by kernel_rfl) (fun _ _ _ _ _ h => h) (HS.out _ (Below.refl _ _).drew) ?_
    simp only [List.map_cons, List.map_nil, Ms.fill, List.getD_cons_zero, List.getD_cons_succ]
    iterate 9 (refine mixT_take (by rfl) ?_ (fun w' hw' => ?_) ?_; rotate_left; (focus (go_simp; (try with_reducible rfl))); (try simp only [Act.put, List.setIfInBounds_toArray, List.set_cons_zero, List.set_cons_succ]))
    refine mixT_step (by rfl) fun K hK => ?_
    go_simp
    refine (tjournal_any T 106 _ y.j 1 w2.drew bT2.drew rfl rfl).mono ?_
    rintro e w3 ⟨rfl, hb3⟩
    have B23 : Below w2.heap.size w2 w3 := (Below.refl _ _).drew.trans hb3
    have h3 := h2.below B23
    have ho3 := own_below ho2 B23
    refine hK _ _ (fun _ => HS.out _ B23) ?_
    clear hK K hb3
    refine mixT_step (by rfl) fun K hK => ?_
    go_simp
    refine (commit_dev D 1 y.j B x av cv y.recs HOK.out w3 h3.dev (Reads.of_own3 ho3) HAB.out).mono ?_
    rintro e w4 ⟨rfl, B4, hd4, g4⟩
    have h4 : TxAt w4 T F D y.end_ := h3.tx.grow g4 h3.dis
    have hdis : ∀ b ∈ F, b ∉ B4 := fun b hb => g4.notin (h3.dis b hb) (h3.tx.lt b hb).2
    have hS4 : w4.cell? ⟨T, 0, none⟩ = some (.pointer (some ⟨D, 0, none⟩)) := (World.cell?_of_block (w := w3) (a := ⟨T, 0, none⟩) (g4.keep.block T (by have := B23.size; have := bT2.lt; omega) (h3.dis T hT))).trans (HS.out _ B23)
    have HS4 := Lib.hid hS4
    refine hK _ _ (fun _ => HS4.out) ?_
    clear hK K hS4
    refine mixT_step (by rfl) fun K hK => ?_
    go_simp
    refine hK _ _ (fun _ => HS4.out) ?_
    clear hK K
    refine mixT_nil ?_
    go_wp2_with fail
    go_ret
    refine ⟨by rw [HV.out]; rfl, B4, by rw [HV.out]; exact ⟨h4, hd4, hdis⟩, (g2.trans (Grow.of_below B23 _)).trans ⟨?_, fun b hb => ?_⟩⟩
    · exact KeepEx.widen g4.keep (fun k hk => List.mem_append.2 (.inr hk))
    · rcases List.mem_append.1 hb with hb | hb
      · exact .inl (List.mem_append.2 (.inl hb))
      · exact (g4.new b hb).imp (fun h => List.mem_append.2 (.inr h)) id

end Go.Proofs.YtljmdcegcckblaaGreatDoor
/- Layers 9 and 10 in plain words: Commit on a device that has power; a device that was formatted. No program in sight. -/
namespace Go.Proofs.YtljmdcegcckblaaGreatDoor
open Go.RowKit Go.Maps

theorem sameFr.trans {x y z : DevS} {b : Int} (h : sameFr x y b) (k : sameFr y z b) : sameFr x z b := ⟨k.1.trans h.1, k.2.trans h.2⟩
theorem sameFr.refl (x : DevS) (b : Int) : sameFr x x b := ⟨rfl, rfl⟩

theorem puts_runs {L : List (Int × Fr)} (hn : (L.map (·.1)).Nodup) : ∀ (k : Nat) {x : DevS} {n : Nat}, (∀ p ∈ L, 0 ≤ p.1 ∧ p.1 < x.stable.length ∧ 1 ≤ p.2.kind ∧ p.2.kind ≤ 255 ∧ p.2.data.size ≤ 112 ∧ 0 ≤ p.2.seq ∧ p.2.seq < 4294967296) → k ≤ L.length → x.Runs (n + k) →
    (x.puts L k).1 = 0 ∧ (x.puts L k).2.Runs n ∧ (x.puts L k).2.stable.length = x.stable.length ∧ (∀ p ∈ L.take k, (x.puts L k).2.ge p.1 = 0 ∧ (x.puts L k).2.fr p.1 = p.2) ∧ (∀ b : Int, 0 ≤ b → b < x.stable.length → b ∉ (L.take k).map (·.1) → sameFr x (x.puts L k).2 b) := by
  intro k
  induction k with
  | zero => intro x n _ _ h; exact ⟨rfl, h, rfl, fun p hp => by simp at hp, fun b _ _ _ => sameFr.refl _ _⟩
  | succ k ih =>
    intro x n hv hk h
    obtain ⟨i1, i2, i3, i4, i5⟩ := ih (n := n + 1) hv (by omega) (h.mono (by omega))
    have hkl : k < L.length := by omega
    have hgd : L.getD k default = L[k] := by rw [List.getD_eq_getElem?_getD, List.getElem?_eq_getElem hkl]; rfl
    have hp := hv L[k] (List.getElem_mem hkl)
    have e : x.puts L (k + 1) = (x.puts L k).2.put L[k].1 L[k].2.kind L[k].2.seq L[k].2.data := by
      show (if (x.puts L k).1 ≠ 0 then x.puts L k else _) = _
      rw [if_neg (by simpa using i1), hgd]
    obtain ⟨j1, j2⟩ := put_runs i2 (a := L[k].1) (kind := L[k].2.kind) (seq := L[k].2.seq) (s := L[k].2.data) (by rw [i3]; exact ⟨hp.1, hp.2.1⟩) ⟨hp.2.2.1, hp.2.2.2.1⟩ hp.2.2.2.2.1 hp.2.2.2.2.2
    have htk : L.take (k + 1) = L.take k ++ [L[k]] := by rw [List.take_succ_eq_append_getElem hkl]
    have hnew : L[k].1 ∉ (L.take k).map (·.1) := by
      have h2 : (L.map (·.1)).take (k + 1) = (L.take k).map (·.1) ++ [L[k].1] := by rw [← List.map_take, htk, List.map_append]; rfl
      have h3 : ((L.take k).map (·.1) ++ [L[k].1]).Nodup := by rw [← h2]; exact hn.sublist (List.take_sublist _ _)
      intro hm
      exact (List.nodup_append.1 h3).2.2 _ hm _ (by simp) rfl
    rw [e]
    refine ⟨j1, j2.runs, j2.size.trans i3, fun p hpm => ?_, fun b hb1 hb2 hbn => ?_⟩
    · rw [htk] at hpm
      rcases List.mem_append.1 hpm with hpm | hpm
      · have h4 := i4 p hpm
        have h5 := hv p (List.mem_of_mem_take hpm)
        have h6 := j2.old p.1 h5.1 (by rw [i3]; exact h5.2.1) (fun e2 => hnew (by rw [← e2]; exact List.mem_map_of_mem hpm))
        exact ⟨h6.1.trans h4.1, h6.2.trans h4.2⟩
      · obtain rfl : p = L[k] := by simpa using hpm
        exact j2.new
    · rw [htk, List.map_append] at hbn
      have h5 := i5 b hb1 hb2 (fun hm => hbn (List.mem_append_left _ hm))
      exact h5.trans (j2.old b hb1 (by rw [i3]; exact hb2) (fun e2 => hbn (by rw [e2]; simp)))

/-- A device on which a call has come to its end: it is flushed. -/
theorem done_runs {x : DevS} {n : Nat} (h : x.Runs n) : DevS.done (0, x) = (0, x.flushed) := by
  unfold DevS.done DevS.flush
  rw [if_neg (by simp)]
  simp [readyE, h.on]

/-- A formatted journal: its head, at the number q. -/
structure HeadAt (x : DevS) (F q : Int) : Prop where
  ge : x.ge F = 0
  fr : x.fr F = ⟨1, q, ⟨#[]⟩⟩
theorem HeadAt.head {x : DevS} {F Z q : Int} (h : HeadAt x F q) (hc : checkE F Z = 0) : x.head F Z = (0, q) := by
  unfold DevS.head
  rw [if_neg (by simpa using hc), if_neg (by rw [h.ge]; simp), if_neg (by rw [h.fr]; simp), h.fr]
theorem HeadAt.same {x y : DevS} {F q : Int} (h : HeadAt x F q) (hs : sameFr x y F) : HeadAt y F q := ⟨hs.1.trans h.ge, hs.2.trans h.fr⟩

theorem blanks_runs {a : Int} (ha : 0 ≤ a) : ∀ (k : Nat) {x : DevS} {n : Nat}, a + k ≤ x.stable.length → x.Runs (n + k) →
    (x.blanks a k).1 = 0 ∧ (x.blanks a k).2.Runs n ∧ (x.blanks a k).2.stable.length = x.stable.length ∧ (∀ b : Int, a ≤ b → b < a + k → (x.blanks a k).2.ge b = 70) ∧ (∀ b : Int, 0 ≤ b → b < x.stable.length → (b < a ∨ a + k ≤ b) → sameFr x (x.blanks a k).2 b) := by
  intro k
  induction k with
  | zero => intro x n _ h; exact ⟨rfl, h, rfl, fun b h1 h2 => by omega, fun b _ _ _ => sameFr.refl _ _⟩
  | succ k ih =>
    intro x n hk h
    obtain ⟨i1, i2, i3, i4, i5⟩ := ih (n := n + 1) (by omega) (h.mono (by omega))
    have e : x.blanks a (k + 1) = (x.blanks a k).2.write (a + k) zsec := by
      show (if (x.blanks a k).1 ≠ 0 then x.blanks a k else _) = _
      rw [if_neg (by simpa using i1)]
    obtain ⟨j1, j2⟩ := blank_runs i2 (a := a + k) (by omega)
    rw [e]
    refine ⟨j1, j2.runs, j2.size.trans i3, fun b h1 h2 => ?_, fun b hb1 hb2 hb3 => ?_⟩
    · by_cases hb : b = a + k
      · rw [hb]; exact j2.new.1
      · exact (j2.old b (by omega) (by omega) hb).1.trans (i4 b h1 (by omega))
    · exact (i5 b hb1 hb2 (by omega)).trans (j2.old b hb1 (by omega) (by omega))

theorem checkE_zero {F Z : Int} (h : checkE F Z = 0) : 8 ≤ Z ∧ Z ≤ 96 ∧ 0 ≤ F ∧ F ≤ 256 - Z := by
  unfold checkE at h; split at h
  · cases h
  · omega
theorem jfmt_runs {x : DevS} {F Z : Int} {n : Nat} (hc : checkE F Z = 0) (hF : F + Z ≤ x.stable.length) (h : x.Runs (n + 1 + (Z - 1).toNat)) :
    ∃ y, x.jfmt F Z = (0, y) ∧ y.Runs n ∧ y.stable.length = x.stable.length ∧ HeadAt y F 0 ∧ (∀ b : Int, F + 1 ≤ b → b < F + Z → y.ge b = 70) ∧ (∀ b : Int, 0 ≤ b → b < x.stable.length → (b < F ∨ F + Z ≤ b) → sameFr x y b) := by
  have hz := checkE_zero hc
  obtain ⟨j1, j2⟩ := put_runs (n := n + (Z - 1).toNat) (h.mono (by omega)) (a := F) (kind := 1) (seq := 0) (s := ⟨#[]⟩) (by omega) (by omega) (Nat.zero_le _) (by omega)
  obtain ⟨i1, i2, i3, i4, i5⟩ := blanks_runs (a := F + 1) (by omega) (Z - 1).toNat (n := n) (by rw [j2.size]; omega) j2.runs
  have hz1 : F + 1 + ((Z - 1).toNat : Int) = F + Z := by omega
  rw [hz1] at i4 i5
  obtain ⟨f1, f2, f3⟩ := flush_same i2
  refine ⟨((x.put F 1 0 ⟨#[]⟩).2.blanks (F + 1) (Z - 1).toNat).2.flushed, ?_, f1, f2.trans (i3.trans j2.size), ?_, fun b h1 h2 => ?_, fun b h1 h2 h3 => ?_⟩
  · unfold DevS.jfmt DevS.flush
    rw [if_neg (by simpa using hc), if_neg (by simpa using j1), if_neg (by simpa using i1), i2.on]
    rfl
  · have hF2 : F < (x.put F 1 0 ⟨#[]⟩).2.stable.length := by rw [j2.size]; omega
    have h0 : HeadAt (x.put F 1 0 ⟨#[]⟩).2 F 0 := ⟨j2.new.1, j2.new.2⟩
    exact (h0.same (i5 F (by omega) hF2 (by omega))).same (f3 F (by omega) (by rw [i3]; exact hF2))
  · exact (f3 b (by omega) (by rw [i3, j2.size]; omega)).1.trans (i4 b h1 h2)
  · exact ((j2.old b h1 h2 (by omega)).trans (i5 b h1 (by rw [j2.size]; exact h2) (by omega))).trans (f3 b h1 (by rw [i3, j2.size]; exact h2))

/-! What is valid. -/
theorem validTo_all {n F Z : Int} {l : List Rec} : ∀ {m : Nat}, validTo n F Z l m = 0 → ∀ k, k < m → recE n F Z (l.take k) (l.getD k default) = 0 := by
  intro m
  induction m with
  | zero => intro _ k hk; omega
  | succ m ih =>
    intro h k hk
    unfold validTo at h
    by_cases h1 : validTo n F Z l m = 0
    · rw [if_neg (by simpa using h1)] at h
      by_cases e : k = m
      · rw [e]; exact h
      · exact ih h1 k (by omega)
    · rw [if_pos (by simpa using h1)] at h; exact absurd h h1
theorem recE_zero' {n F Z : Int} {l : List Rec} {r : Rec} (h : recE n F Z l r = 0) : ¬ (F ≤ r.at_ ∧ r.at_ < F + Z) ∧ 0 ≤ r.at_ ∧ r.at_ < n ∧ 1 ≤ r.kind ∧ r.kind ≤ 255 ∧ r.data.size ≤ 96 ∧ r.at_ ∉ l.map (·.at_) := by
  unfold recE at h
  by_cases h1 : F ≤ r.at_ ∧ r.at_ < F + Z
  · rw [if_pos h1] at h; cases h
  · rw [if_neg h1] at h
    by_cases h2 : r.at_ < 0 ∨ n ≤ r.at_ ∨ r.kind < 1 ∨ 255 < r.kind
    · rw [if_pos h2] at h; cases h
    · rw [if_neg h2] at h
      by_cases h3 : 96 < r.data.size
      · rw [if_pos h3] at h; cases h
      · rw [if_neg h3] at h
        by_cases h4 : r.at_ ∈ l.map (·.at_)
        · rw [if_pos h4] at h; cases h
        · exact ⟨h1, by omega, by omega, by omega, by omega, by omega, h4⟩
structure ValidL (n F Z : Int) (l : List Rec) : Prop where
  len : (l.length : Int) ≤ mostN Z
  rec_ : ∀ k, (hk : k < l.length) → ¬ (F ≤ l[k].at_ ∧ l[k].at_ < F + Z) ∧ 0 ≤ l[k].at_ ∧ l[k].at_ < n ∧ 1 ≤ l[k].kind ∧ l[k].kind ≤ 255 ∧ l[k].data.size ≤ 96 ∧ l[k].at_ ∉ (l.take k).map (·.at_)
theorem validL {n F Z : Int} {l : List Rec} (h : validE n F Z l = 0) : ValidL n F Z l := by
  unfold validE at h
  by_cases h1 : mostN Z < l.length
  · rw [if_pos h1] at h; cases h
  · rw [if_neg h1] at h
    refine ⟨by omega, fun k hk => ?_⟩
    have h2 := validTo_all h k hk
    have e : l.getD k default = l[k] := by rw [List.getD_eq_getElem?_getD, List.getElem?_eq_getElem hk]; rfl
    rw [e] at h2
    exact recE_zero' h2
theorem nodup_of_take {α : Type} {l : List α} (h : ∀ k, (hk : k < l.length) → l[k] ∉ l.take k) : l.Nodup := by
  rw [List.nodup_iff_pairwise_ne] 
  rw [List.pairwise_iff_getElem]
  intro i j hi hj hij e
  apply h j hj
  rw [← e]
  exact List.mem_take_iff_getElem.2 ⟨i, by omega, rfl⟩
theorem ValidL.nodup {n F Z : Int} {l : List Rec} (h : ValidL n F Z l) : (l.map (·.at_)).Nodup := nodup_of_take fun k hk => by
  have hk' : k < l.length := by simpa using hk
  have := (h.rec_ k hk').2.2.2.2.2.2
  rw [← List.map_take]
  simpa using this

/-! The frames of the journal. -/
theorem strL_str {l : List Int} (h : Bytes l) : strL (strOfNums l) = l := by
  unfold strL strOfNums
  simp only [List.map_map]
  conv => rhs; rw [← List.map_id l]
  apply List.map_congr_left
  intro x hx
  have := h x hx
  simp only [Function.comp, UInt8.toNat_ofNat', id]
  omega
theorem strL_app (a b : ByteArray) : strL ⟨a.data ++ b.data⟩ = strL a ++ strL b := by unfold strL; simp
theorem bits_at : ∀ a : Fin 257, bits .or .i64 ((a.val : Int) % 256) ((a.val : Int) / 256 % 256 * 256) = a.val := by decide +kernel
theorem logS_str {r : Rec} (_ha : 0 ≤ r.at_ ∧ r.at_ < 257) (hk : 0 ≤ r.kind ∧ r.kind < 256) : strL (logS r) = [r.at_ % 256, r.at_ / 256 % 256, r.kind] ++ strL r.data := by
  unfold logS
  have e1 : strL (⟨(shortS r.at_).data ++ (bstr [r.kind % 256]).data ++ r.data.data⟩ : ByteArray) = strL ⟨(shortS r.at_).data ++ (bstr [r.kind % 256]).data⟩ ++ strL r.data := strL_app ⟨(shortS r.at_).data ++ (bstr [r.kind % 256]).data⟩ r.data
  rw [e1, strL_app]
  have e2 : strL (shortS r.at_) = [r.at_ % 256, r.at_ / 256 % 256] := strL_str (fun x hx => by
    simp only [List.mem_cons, List.mem_nil_iff, or_false] at hx
    rcases hx with rfl | rfl <;> omega)
  have e3 : strL (bstr [r.kind % 256]) = [r.kind % 256] := strL_str (fun x hx => by
    simp only [List.mem_cons, List.mem_nil_iff, or_false] at hx
    rcases hx with rfl; omega)
  rw [e2, e3, Int.emod_eq_of_lt hk.1 hk.2]
  rfl
theorem logS_size {r : Rec} : (logS r).size = 3 + r.data.size := by
  unfold logS shortS bstr
  show ((strOfNums [r.at_ % 256, r.at_ / 256 % 256]).data ++ (strOfNums [r.kind % 256]).data ++ r.data.data).size = _
  rw [Array.size_append, Array.size_append]
  show (strOfNums [r.at_ % 256, r.at_ / 256 % 256]).size + (strOfNums [r.kind % 256]).size + r.data.size = _
  rw [strOfNums_size, strOfNums_size]; simp
theorem recOf_log {r : Rec} {q : Int} (ha : 0 ≤ r.at_ ∧ r.at_ < 257) (hk : 0 ≤ r.kind ∧ r.kind < 256) (hd : r.data.size ≤ 96) : recOf ⟨2, q, logS r⟩ = r := by
  unfold recOf
  rw [if_neg (by simp only [logS_size]; omega)]
  simp only [logS_str ha hk]
  have e1 : bits .or .i64 (([r.at_ % 256, r.at_ / 256 % 256, r.kind] ++ strL r.data).getD 0 0) (([r.at_ % 256, r.at_ / 256 % 256, r.kind] ++ strL r.data).getD 1 0 * 256) = r.at_ := by
    show bits .or .i64 (r.at_ % 256) (r.at_ / 256 % 256 * 256) = r.at_
    have h := bits_at ⟨r.at_.toNat, by omega⟩
    simp only [Int.toNat_of_nonneg ha.1] at h
    exact h
  have e2 : ([r.at_ % 256, r.at_ / 256 % 256, r.kind] ++ strL r.data).getD 2 0 = r.kind := rfl
  have e3 : (logS r).extract 3 (logS r).size = r.data := by
    have h3 : ((shortS r.at_).data ++ (bstr [r.kind % 256]).data).size = 3 := by
      rw [Array.size_append]
      show (strOfNums _).size + (strOfNums _).size = 3
      rw [strOfNums_size, strOfNums_size]; rfl
    apply ByteArray.ext
    rw [ByteArray.data_extract]
    unfold logS
    show ((shortS r.at_).data ++ (bstr [r.kind % 256]).data ++ r.data.data).extract 3 _ = r.data.data
    rw [Array.extract_append, h3]
    have e4 : ((shortS r.at_).data ++ (bstr [r.kind % 256]).data).extract 3 (ByteArray.size ⟨(shortS r.at_).data ++ (bstr [r.kind % 256]).data ++ r.data.data⟩) = #[] := by
      apply Array.eq_empty_of_size_eq_zero
      rw [Array.size_extract, h3]; omega
    rw [e4]
    have e5 : (ByteArray.size ⟨(shortS r.at_).data ++ (bstr [r.kind % 256]).data ++ r.data.data⟩) - 3 = r.data.data.size := by
      show ((shortS r.at_).data ++ (bstr [r.kind % 256]).data ++ r.data.data).size - 3 = _
      rw [Array.size_append, h3]; omega
    rw [e5, Nat.sub_self]
    simp
  rw [e1, e2, e3]

theorem next_bds (q : Int) : 0 ≤ next q ∧ next q < 4294967296 := by unfold next; omega
theorem logL_get' {F q : Int} {l : List Rec} {k : Nat} (hk : k < l.length) : (logL F q l)[k]? = some (F + 1 + k, ⟨2, q, logS l[k]⟩) := by
  unfold logL
  rw [List.getElem?_map, List.getElem?_zipIdx, List.getElem?_eq_getElem hk]; simp
theorem logL_mem {F q : Int} {l : List Rec} {p : Int × Fr} (h : p ∈ logL F q l) : ∃ k, ∃ hk : k < l.length, p = (F + 1 + k, ⟨2, q, logS l[k]⟩) := by
  obtain ⟨k, hk, rfl⟩ := List.mem_iff_getElem.1 h
  have hk' : k < l.length := by rw [logL_length] at hk; exact hk
  refine ⟨k, hk', ?_⟩
  have := logL_get' (F := F) (q := q) hk'
  rw [List.getElem?_eq_getElem hk] at this
  exact Option.some.inj this
theorem logL_nodup (F q : Int) (l : List Rec) : ((logL F q l).map (·.1)).Nodup := by
  refine nodup_of_take fun k hk hm => ?_
  have hk' : k < l.length := by simpa [logL_length] using hk
  rw [← List.map_take] at hm
  obtain ⟨p, hp, he⟩ := List.mem_map.1 hm
  obtain ⟨i, hi, hpi⟩ := List.mem_take_iff_getElem.1 hp
  have hi2 : i < l.length := by have := hi; rw [logL_length] at this; omega
  have h1 := logL_get' (F := F) (q := q) hi2
  have h2 := logL_get' (F := F) (q := q) hk'
  rw [List.getElem?_eq_getElem (by rw [logL_length]; exact hi2), hpi] at h1
  rw [List.getElem_map] at he
  rw [List.getElem?_eq_getElem (by rw [logL_length]; exact hk')] at h2
  rw [Option.some.inj h1, Option.some.inj h2] at he
  have hik : i < k := by omega
  simp only at he
  omega

/-- The log of a transaction. -/
structure LogAt (z : DevS) (F q : Int) (l : List Rec) : Prop where
  recs : ∀ k, (hk : k < l.length) → z.ge (F + 1 + k) = 0 ∧ z.fr (F + 1 + k) = ⟨2, next q, logS l[k]⟩
  mark : z.ge (F + 1 + l.length) = 0 ∧ z.fr (F + 1 + l.length) = ⟨3, next q, shortS l.length⟩
theorem log_runs {x : DevS} {F Z q : Int} {n : Nat} {l : List Rec} (hc : checkE F Z = 0) (hF : F + Z ≤ x.stable.length) (hh : HeadAt x F q) (hv : ValidL x.stable.length F Z l) (hv0 : validE x.stable.length F Z l = 0) (h : x.Runs (n + 1 + l.length)) :
    ∃ z, x.log F Z l = (0, z) ∧ z.Runs n ∧ z.stable.length = x.stable.length ∧ HeadAt z F q ∧ LogAt z F q l ∧ (∀ b : Int, 0 ≤ b → b < x.stable.length → (b < F ∨ F + Z ≤ b) → sameFr x z b) := by
  have hz := checkE_zero hc
  have hm : (l.length : Int) ≤ Z - 2 := by have := hv.len; unfold mostN at this; omega
  have hnx := next_bds q
  obtain ⟨i1, i2, i3, i4, i5⟩ := puts_runs (logL_nodup F (next q) l) l.length (x := x) (n := n + 1) (fun p hp => by
    obtain ⟨k, hk, rfl⟩ := logL_mem hp
    have h9 := hv.rec_ k hk
    refine ⟨by show 0 ≤ F + 1 + (k : Int); omega, by show F + 1 + (k : Int) < _; omega, by show (1 : Int) ≤ 2; omega, by show (2 : Int) ≤ 255; omega, ?_, hnx.1, hnx.2⟩
    show (logS l[k]).size ≤ 112
    rw [logS_size]; omega) (by rw [logL_length]; exact Nat.le_refl _) h
  have htk : (logL F (next q) l).take l.length = logL F (next q) l := List.take_of_length_le (by rw [logL_length]; exact Nat.le_refl _)
  rw [htk] at i4 i5
  have hsz2 : (shortS l.length).size ≤ 112 := by unfold shortS bstr; rw [strOfNums_size]; simp
  obtain ⟨j1, j2⟩ := put_runs i2 (a := F + 1 + l.length) (kind := 3) (seq := next q) (s := shortS l.length) (by rw [i3]; omega) (by omega) hsz2 hnx
  obtain ⟨f1, f2, f3⟩ := flush_same j2.runs
  have hnin : ∀ b : Int, (b < F + 1 ∨ F + 1 + l.length ≤ b) → b ∉ (logL F (next q) l).map (·.1) := fun b hb hm => by
    obtain ⟨p, hp, he⟩ := List.mem_map.1 hm
    obtain ⟨k, hk, rfl⟩ := logL_mem hp
    simp only at he; omega
  have hall : ∀ b : Int, 0 ≤ b → b < x.stable.length → b ≠ F + 1 + l.length → sameFr (x.puts (logL F (next q) l) l.length).2 ((x.puts (logL F (next q) l) l.length).2.put (F + 1 + l.length) 3 (next q) (shortS l.length)).2.flushed b := fun b h1 h2 h3 =>
    (j2.old b h1 (by rw [i3]; exact h2) h3).trans (f3 b h1 (by rw [j2.size, i3]; exact h2))
  refine ⟨((x.puts (logL F (next q) l) l.length).2.put (F + 1 + l.length) 3 (next q) (shortS l.length)).2.flushed, ?_, f1, f2.trans (j2.size.trans i3), ?_, ⟨fun k hk => ?_, ?_⟩, fun b h1 h2 h3 => ?_⟩
  · unfold DevS.log
    rw [hh.head hc]
    simp only
    rw [if_neg (by simp), if_neg (by simpa using hv0), if_neg (by simpa using i1)]
    rw [show (x.puts (logL F (next q) l) l.length).2.put (F + 1 + l.length) 3 (next q) (shortS l.length) = (0, ((x.puts (logL F (next q) l) l.length).2.put (F + 1 + l.length) 3 (next q) (shortS l.length)).2) from Prod.ext j1 rfl]
    exact done_runs j2.runs
  · exact (hh.same (i5 F (by omega) (by omega) (hnin F (by omega)))).same (hall F (by omega) (by omega) (by omega))
  · have h4 := i4 (F + 1 + k, ⟨2, next q, logS l[k]⟩) (List.mem_of_getElem? (logL_get' hk))
    have h5 := hall (F + 1 + k) (by omega) (by omega) (by omega)
    exact ⟨h5.1.trans h4.1, h5.2.trans h4.2⟩
  · have h5 := f3 (F + 1 + l.length) (by omega) (by rw [j2.size, i3]; omega)
    exact ⟨h5.1.trans j2.new.1, h5.2.trans j2.new.2⟩
  · exact (i5 b h1 h2 (hnin b (by omega))).trans (hall b h1 h2 (by omega))

end Go.Proofs.YtljmdcegcckblaaGreatDoor
