/- Layer 11: Check. -/
import Derived.Test.YtjocnooekgnedaaGreatDoorPart34
import Derived.Test.YtjocnooekgnedaaGreatDoorPart35
set_option linter.unusedVariables false
set_option linter.unusedSimpArgs false
namespace Go.Proofs.YtjocnooekgnedaaGreatDoor
open Go.RowKit Go.Maps

abbrev lim0 : Array Value := #[.int .i64 0, .int .i64 0, .int .i64 0, .int .i64 0, .int .i64 0, .int .i64 0, .int .i64 0, .int .i64 0, .int .i64 0, .int .i64 0]

/-- The limits of a kind's number, by their places. -/
def limF (i : Int) : Nat → Nat → Int × Int
  | 1, 0 => (1, 1)
  | 1, 1 => (0, 24)
  | 1, 4 => (1, i)
  | 2, 0 => (1, 120)
  | 2, 1 => (0, 384)
  | 3, 0 => (1, 120)
  | 3, 1 => (1, 200)
  | 4, 0 => (1, 120)
  | 4, 2 => (0, 255)
  | 4, 3 => (0, 255)
  | _, _ => (0, 0)
abbrev limC (i : Int) (k : Nat) : Array Value := #[.int .i64 (limF i k 0).1, .int .i64 (limF i k 0).2, .int .i64 (limF i k 1).1, .int .i64 (limF i k 1).2, .int .i64 (limF i k 2).1, .int .i64 (limF i k 2).2, .int .i64 (limF i k 3).1, .int .i64 (limF i k 3).2, .int .i64 (limF i k 4).1, .int .i64 (limF i k 4).2]
set_option maxRecDepth 100000 in
theorem kinds_at (i : Int) (k : Nat) (hk : k < 5) (W : World) : Sem.run Tryz.prog (Instr.index 91 (.agg (kindsV i)) (.int .i64 k)) W = .ok (.agg (limC i k)) W := by
  have hc : k = 0 ∨ k = 1 ∨ k = 2 ∨ k = 3 ∨ k = 4 := by omega
  rcases hc with rfl | rfl | rfl | rfl | rfl
  all_goals rfl
theorem nums_lims (i : Int) (k : Nat) (hk : k < 5) (lk sz mj mn pr : Int) (bl al : List Int) : (⟨k, lk, sz, mj, mn, pr, bl, al⟩ : Ino).nums i ↔
    ((limF i k 0).1 ≤ lk ∧ lk ≤ (limF i k 0).2) ∧ ((limF i k 1).1 ≤ sz ∧ sz ≤ (limF i k 1).2) ∧ ((limF i k 2).1 ≤ mj ∧ mj ≤ (limF i k 2).2) ∧ ((limF i k 3).1 ≤ mn ∧ mn ≤ (limF i k 3).2) ∧ ((limF i k 4).1 ≤ pr ∧ pr ≤ (limF i k 4).2) := by
  unfold Ino.nums
  match k, hk with
  | 0, _ => simp only [limF]; simp; omega
  | 1, _ => simp only [limF]; simp; omega
  | 2, _ => simp only [limF]; simp; omega
  | 3, _ => simp only [limF]; simp; omega
  | 4, _ => simp only [limF]; simp; omega

def manyQ (k : Nat) (bl al : List Int) (q : Int) : Prop := (bl.length : Int) = q ∧ al.length ≤ 3 ∧ (k = 0 → al = [])
theorem many_none {k : Nat} (hk : k = 0 ∨ k = 4) (lk sz mj mn pr : Int) (bl al : List Int) : (⟨k, lk, sz, mj, mn, pr, bl, al⟩ : Ino).many ↔ manyQ k bl al 0 := by
  unfold Ino.many manyQ
  have e : ((bl.length : Int) = 0) ↔ bl = [] := by rw [← List.length_eq_zero_iff]; omega
  rcases hk with rfl | rfl
  all_goals
    simp only [e]
    simp
    constructor
    · rintro ⟨a, b⟩; simp_all
    · rintro ⟨a, b⟩; simp_all
theorem many_dir {lk sz mj mn pr : Int} {bl al : List Int} (h1 : bl.length ≤ 8) (h2 : bl.length = 0 ↔ sz = 0) : (⟨(1 : Nat), lk, sz, mj, mn, pr, bl, al⟩ : Ino).many ↔ manyQ 1 bl al bl.length := by
  unfold Ino.many manyQ
  simp
  intro _
  exact ⟨h1, by rw [← h2, List.length_eq_zero_iff]⟩
theorem not_many_dir {lk sz mj mn pr : Int} {bl al : List Int} (h : ¬ (bl.length ≤ 8 ∧ (bl.length = 0 ↔ sz = 0))) : ¬ (⟨(1 : Nat), lk, sz, mj, mn, pr, bl, al⟩ : Ino).many := by
  intro hm
  unfold Ino.many at hm
  have := hm.2.2
  simp only [Int.natCast_one, if_true] at this
  exact h this
theorem many_file {k : Nat} (hk : k = 2 ∨ k = 3) (lk sz mj mn pr : Int) (bl al : List Int) : (⟨k, lk, sz, mj, mn, pr, bl, al⟩ : Ino).many ↔ manyQ k bl al ((sz + 95) / 96) := by
  unfold Ino.many manyQ
  rcases hk with rfl | rfl
  all_goals
    simp
    constructor
    · rintro ⟨a, b⟩; exact ⟨b, a⟩
    · rintro ⟨a, b⟩; exact ⟨b, a⟩
theorem nums_file {k : Nat} (hk : k = 2 ∨ k = 3) {i lk sz mj mn pr : Int} {bl al : List Int} (h : (⟨k, lk, sz, mj, mn, pr, bl, al⟩ : Ino).nums i) : 0 ≤ sz ∧ sz ≤ 384 := by
  have h := ((nums_lims i k (by omega) lk sz mj mn pr bl al).1 h).2.1
  rcases hk with rfl | rfl
  all_goals
    simp only [limF] at h
    omega
theorem beq_same {a b : Int} (h : a = 0 ↔ b = 0) : (!((a == 0) == (b == 0))) = false := by
  by_cases ha : a = 0
  · have hb := h.1 ha
    subst ha; subst hb; rfl
  · have hb : ¬ b = 0 := fun e => ha (h.2 e)
    have e1 : (a == 0) = false := by simpa using ha
    have e2 : (b == 0) = false := by simpa using hb
    rw [e1, e2]; rfl
theorem beq_diff {a b : Int} (h : ¬ (a = 0 ↔ b = 0)) : (!((a == 0) == (b == 0))) = true := by
  by_cases ha : a = 0
  · have hb : ¬ b = 0 := fun e => h ⟨fun _ => e, fun _ => ha⟩
    have e2 : (b == 0) = false := by simpa using hb
    subst ha; rw [e2]; rfl
  · have e1 : (a == 0) = false := by simpa using ha
    have hb : b = 0 := Classical.byContradiction fun e => h ⟨fun x => absurd x ha, fun x => absurd x e⟩
    subst hb; rw [e1]; rfl
theorem ends_of {l m : List Int} (hp : m.Perm l) (hs : m.Pairwise (· ≤ ·)) (B : Int) {p : Nat} (hl : m.length = p + 1) :
    ∃ y0 y1, m[0]? = some y0 ∧ m[p]? = some y1 ∧ ((y0 < 0 ∨ B ≤ y1) ↔ ∃ b ∈ l, b < 0 ∨ B ≤ b) := by
  obtain rfl : p = m.length - 1 := by omega
  exact ⟨m[0], m[m.length - 1], List.getElem?_eq_getElem (by omega), List.getElem?_eq_getElem (by omega), sorted_ends hp hs B (by omega)⟩
def OutAny (l : List Int) (B : Int) (b : Bool) : Prop := b = true ↔ ∃ b ∈ l, b < 0 ∨ B ≤ b
def NotMany (v : Ino) (b : Bool) : Prop := b = true ↔ ¬ v.many
def xF (lk sz mj mn pr : Int) : Nat → Int
  | 0 => lk
  | 1 => sz
  | 2 => mj
  | 3 => mn
  | _ => pr
def limOk (i : Int) (k : Nat) (x : Nat → Int) (m : Nat) : Prop := ∀ n, n < m → (limF i k n).1 ≤ x n ∧ x n ≤ (limF i k n).2
theorem limOk_succ {i : Int} {k m : Nat} {x : Nat → Int} (h : limOk i k x m) (h1 : (limF i k m).1 ≤ x m ∧ x m ≤ (limF i k m).2) : limOk i k x (m + 1) := fun n hn => by
  by_cases e : n = m
  · subst e; exact h1
  · exact h n (by omega)
theorem lim_all {i : Int} {k : Nat} {lk sz mj mn pr : Int} : limOk i k (xF lk sz mj mn pr) 5 ↔
    ((limF i k 0).1 ≤ lk ∧ lk ≤ (limF i k 0).2) ∧ ((limF i k 1).1 ≤ sz ∧ sz ≤ (limF i k 1).2) ∧ ((limF i k 2).1 ≤ mj ∧ mj ≤ (limF i k 2).2) ∧ ((limF i k 3).1 ≤ mn ∧ mn ≤ (limF i k 3).2) ∧ ((limF i k 4).1 ≤ pr ∧ pr ≤ (limF i k 4).2) := by
  constructor
  · intro h
    exact ⟨h 0 (by omega), h 1 (by omega), h 2 (by omega), h 3 (by omega), h 4 (by omega)⟩
  · rintro ⟨h0, h1, h2, h3, h4⟩ n hn
    have hc : n = 0 ∨ n = 1 ∨ n = 2 ∨ n = 3 ∨ n = 4 := by omega
    rcases hc with rfl | rfl | rfl | rfl | rfl
    · exact h0
    · exact h1
    · exact h2
    · exact h3
    · exact h4

set_option maxRecDepth 100000 in
set_option maxHeartbeats 4000000 in
theorem check_ino (s j i : Int) (v : Ino) (A : Option Addr) (c : Nat) (A2 : Option Addr) (c2 : Nat) (w : World) (h : InoIn w v A c A2 c2) :
    Calls Tryz.prog 14 #[.agg #[.int .i64 s, .int .i64 j, .int .i64 i], .agg (inoC v (.slice A v.blocks.length c) (.slice A2 v.attrs.length c2))] w fun e w' => e = .returned (.int .i64 (inoE s j i v)) ∧ Below w.heap.size w w' := by
  obtain ⟨kd, lk, sz, mj, mn, pr, bl, al⟩ := v
  obtain ⟨hR, hR2, hn1, hn2⟩ := h
  simp only at hR hR2 hn1 hn2 ⊢
  obtain ⟨wA, hA⟩ : ∃ wA, wA = (w.alloc (.cells #[.int .i64 s, .int .i64 j, .int .i64 i] 23)).alloc (.cells (inoC ⟨kd, lk, sz, mj, mn, pr, bl, al⟩ (.slice A bl.length c) (.slice A2 al.length c2)) 26) := ⟨_, rfl⟩
  have bL : Blk wA w.heap.size 23 #[.int .i64 s, .int .i64 j, .int .i64 i] := by rw [hA]; exact (by (repeat' (first | (with_reducible assumption) | exact Blk.new' (by simp) | refine Blk.alloc ?_ _)))
  have bX : Blk wA (w.heap.size + 1) 26 (inoC ⟨kd, lk, sz, mj, mn, pr, bl, al⟩ (.slice A bl.length c) (.slice A2 al.length c2)) := by rw [hA]; exact (by (repeat' (first | (with_reducible assumption) | exact Blk.new' (by simp) | refine Blk.alloc ?_ _)))
  have BA : Below w.heap.size w wA := by rw [hA]; (repeat' (first | (with_reducible exact Below.refl _ _) | (with_reducible assumption) | (with_reducible refine Below.alloc ?_ ?_ _) | (with_reducible refine Below.drew ?_) | (with_reducible refine below_drewN' ?_ _) | (with_reducible refine Below.setCell ?_ ?_ _) | (with_reducible exact Nat.le_refl _) | omega | (simp; done) | (simp; omega)))
  have hrc := regions_any s j i wA
  unfold RgPost rgV at hrc
  have HR := Lib.hid hR
  have HR2 := Lib.hid hR2
  have HN1 := Lib.hid hn1
  have HN2 := Lib.hid hn2
  have HI : Hid (inoE s j i ⟨kd, lk, sz, mj, mn, pr, bl, al⟩ = if rgE s j i ≠ 0 then rgE s j i else if kd < 0 ∨ 4 < kd then 14 else if ¬ (⟨kd, lk, sz, mj, mn, pr, bl, al⟩ : Ino).nums i then 7 else if ¬ (⟨kd, lk, sz, mj, mn, pr, bl, al⟩ : Ino).many then 6
  else if ∃ b ∈ bl ++ al, b < 0 ∨ rgB s j i ≤ b then 7 else if ¬ (bl ++ al).Nodup then 8 else 0) := Lib.hid rfl
  clear hR hR2 hn1 hn2
  have cL := bL.cells
  have lL := bL.lt
  go_enter Tryz.func14, Tryz.ntmps14
  go_wp2_with fail
  rw [← hA]
  clear hA
  go_wp2_with fail
  refine hrc.mono ?_
  rintro e w1 ⟨rfl, hb1⟩
  obtain ⟨w2, hw2⟩ : ∃ w2, w1.alloc (.cells #[.int .i64 (rgJ s j i), .int .i64 (rgM s j i), .int .i64 (rgT s j i), .int .i64 (rgD s j i), .int .i64 (rgB s j i)] 53) = w2 := ⟨_, rfl⟩
  obtain ⟨N2, hN2⟩ : ∃ N2, w1.heap.size = N2 := ⟨_, rfl⟩
  have bG : Blk w2 N2 53 #[.int .i64 (rgJ s j i), .int .i64 (rgM s j i), .int .i64 (rgT s j i), .int .i64 (rgD s j i), .int .i64 (rgB s j i)] := by rw [← hw2, ← hN2]; exact Blk.new _ _ _
  have b12 : Below w1.heap.size w1 w2 := by rw [← hw2]; exact (Below.refl _ _).alloc (Nat.le_refl _) _
  have B1 := BA.trans (hb1.mono BA.size)
  have B2 := B1.trans (b12.mono B1.size)
  have bL2 := (bL.belowAll hb1).belowAll b12
  have bX2 := (bX.belowAll hb1).belowAll b12
  have HW := Lib.hid hw2
  have HN := Lib.hid hN2
  clear hw2 hN2 hrc cL lL bL bX BA hb1 b12 B1
  go_upto_region 2 with fail
  rw [HW.out, HN.out]
  by_cases hrg : rgE s j i = 0
  rotate_left
  · have HG : Hid (inoE s j i ⟨kd, lk, sz, mj, mn, pr, bl, al⟩ = rgE s j i) := Lib.hid (by rw [HI.out, if_pos hrg])
    have hE' : (rgE s j i != 0) = true := by simpa using hrg
    clear hrg HI
    go_wp2_with fail
    go_ret
    rw [HG.out]
    exact ⟨rfl, B2⟩
  have cX : w2.cell? ⟨w.heap.size + 1, 0, none⟩ = some (.int .i64 kd) := (bX2.cells 0).trans rfl
  have lX := bX2.lt
  rw [hrg]
  by_cases hkd : kd < 0 ∨ 4 < kd
  · have HG : Hid (inoE s j i ⟨kd, lk, sz, mj, mn, pr, bl, al⟩ = 14) := Lib.hid (by rw [HI.out, if_neg (by simpa using hrg), if_pos hkd])
    by_cases h1 : kd < 0
    all_goals
      as_aux_lemma =>
        first
          | have d1 : kd < 0 := h1
          | (have d1 : ¬ kd < 0 := h1
             have d2 : 4 < kd := by omega)
        clear hkd h1 HI hrg
        go_wp2_with fail
        go_ret
        rw [HG.out]
        exact ⟨rfl, B2⟩
  have d1 : ¬ kd < 0 := by omega
  have d2 : ¬ 4 < kd := by omega
  have HRG := Lib.hid hrg
  have HKD := Lib.hid hkd
  clear hrg hkd
  obtain ⟨k, rfl⟩ : ∃ k : Nat, kd = k := ⟨kd.toNat, by omega⟩
  have hk5 : (k : Int) < 5 := by omega
  have hs : ∀ W, Below w2.heap.size w2 W → W.cell? ⟨w.heap.size, 0, none⟩ = some (.int .i64 s) ∧ W.cell? ⟨w.heap.size, 1, none⟩ = some (.int .i64 j) ∧ W.cell? ⟨w.heap.size, 2, none⟩ = some (.int .i64 i) ∧ W.cell? ⟨w.heap.size + 1, 0, none⟩ = some (.int .i64 k) := fun W hb =>
    ⟨((bL2.belowAll hb).cells 0).trans rfl, ((bL2.belowAll hb).cells 1).trans rfl, ((bL2.belowAll hb).cells 2).trans rfl, ((bX2.belowAll hb).cells 0).trans rfl⟩
  have HS := Lib.hid hs
  clear hs
  have HNU := Lib.hid (nums_lims i k (by omega) lk sz mj mn pr bl al)
  have HIX := Lib.hid (kinds_at i k (by omega))
  go_upto_region 6 with fail
  clear cX lX d1 d2
  go_cut [7] from 13 to 149 (fun s7 wx => ∃ N7 : Nat, s7 = .pointer (some ⟨N7, 0, none⟩) ∧ w2.heap.size ≤ N7 ∧ Below w2.heap.size w2 wx ∧ Blk wx N7 90 (limC i k))
  case first =>
   as_aux_lemma =>
    refine wp_region_mix [.take 0, .take 2, .take 3, .par 5 [1, 4], .one 6] 6 (fun W => W.cell? ⟨w.heap.size, 0, none⟩ = some (.int .i64 s) ∧ W.cell? ⟨w.heap.size, 1, none⟩ = some (.int .i64 j) ∧ W.cell? ⟨w.heap.size, 2, none⟩ = some (.int .i64 i) ∧ W.cell? ⟨w.heap.size + 1, 0, none⟩ = some (.int .i64 k)) (by kernel_rfl) (by kernel_rfl) (fun _ _ _ _ _ h => h) (HS.out _ (Below.refl _ _).drew) ?_
    simp only [List.map_cons, List.map_nil, Ms.fill, List.getD_cons_zero, List.getD_cons_succ]
    iterate 3 (refine mixT_take (by rfl) ?_ (fun w' hw' => ?_) ?_; rotate_left; (focus (go_simp; (try with_reducible rfl))); (try simp only [Act.put, List.setIfInBounds_toArray, List.set_cons_zero, List.set_cons_succ]))
    refine mixT_par fun K0 hK0 => ?_
    refine parT_cons (fun K hK => ?_) (fun K hK => ?_)
    focus
      obtain ⟨X, hX⟩ : ∃ X, X = (w2.alloc (.cells lim0 90)).drew := ⟨_, rfl⟩
      have bX : Blk X w2.heap.size 90 lim0 := by rw [hX]; exact (Blk.new _ _ _).drew
      have BX : Below w2.heap.size w2 X := by rw [hX]; exact ((Below.refl _ _).alloc (Nat.le_refl _) _).drew
      go_simp
      rw [← hX]
      refine hK _ _ (HS.out _ BX) ?_
      clear hK K hX
      refine chainT_cons (fun K hK => ?_)
      go_simp
      refine (kinds_any s j i X).mono ?_
      rintro e w5 ⟨rfl, hb5⟩
      have B5 := BX.trans (hb5.mono BX.size)
      have bX5 := bX.belowAll hb5
      refine hK _ _ (HS.out _ B5) ?_
      clear hK K
      refine chainT_cons (fun K hK => ?_)
      go_simp
      rw [HIX.out]
      go_simp
      refine hK _ _ (HS.out _ B5) ?_
      clear hK K
      refine chainT_nil ?_
      refine hK0 _ _ ?_
      obtain ⟨L, hL⟩ : ∃ L, L = w2.heap.size := ⟨_, rfl⟩
      have hLw : w2.heap.size ≤ L := by omega
      have HL := Lib.hid hL
      rw [← hL] at bX5 ⊢
      clear hK0 K0 hb5 bX BX hL
    rotate_left
    focus
      go_simp
      refine (kinds_any s j i w2.drew).mono ?_
      rintro e w4 ⟨rfl, hb4⟩
      have B4 : Below w2.heap.size w2 w4 := (Below.refl _ _).drew.trans hb4
      refine hK _ _ (HS.out _ B4) ?_
      clear hK K
      obtain ⟨w5, hw5⟩ : ∃ w5, w5 = w4.alloc (.cells lim0 90) := ⟨_, rfl⟩
      obtain ⟨L, hL⟩ : ∃ L, L = w4.heap.size := ⟨_, rfl⟩
      have bX5 : Blk w5 L 90 lim0 := by rw [hw5, hL]; exact Blk.new _ _ _
      have B5 : Below w2.heap.size w2 w5 := by rw [hw5]; exact B4.alloc B4.size _
      have hLw : w2.heap.size ≤ L := by rw [hL]; exact B4.size
      refine parT_cons (fun K hK => ?_) (fun K hK => ?_)
      focus
        go_simp
        rw [← hw5, ← hL]
        clear hw5 hL
        refine hK _ _ (HS.out _ B5) ?_
        clear hK K
        refine chainT_cons (fun K hK => ?_)
        go_simp
        rw [HIX.out]
        go_simp
        refine hK _ _ (HS.out _ B5) ?_
        clear hK K
        refine chainT_nil ?_
        refine hK0 _ _ ?_
        clear hK0 K0 hb4 B4
      rotate_left
      focus
        go_simp
        rw [HIX.out]
        go_simp
        refine hK _ _ (HS.out _ B4) ?_
        clear hK K
        refine parT_nil (fun K hK => ?_)
        go_simp
        rw [← hw5, ← hL]
        refine hK _ _ (HS.out _ B5) ?_
        clear hK K
        refine hK0 _ _ ?_
        clear hK0 K0 hw5 hL hb4 B4
    all_goals
      refine mixT_step (by rfl) fun K hK => ?_
      have hst := storeRow (ty := 90) (vs := limC i k) bX5 rfl (by simp [Value.oneCell']) (by kernel_rfl)
      refine op_storeBy _ _ _ rfl _ _ rfl rfl hst ?_
      refine hK _ _ (fun h => absurd h (by decide)) ?_
      clear hK K hst
      refine mixT_nil ?_
      go_wp2_with fail
      go_meet
      case rel => exact ⟨_, rfl, hLw, Below.setRow B5 hLw _, bX5.setRow⟩
  case rest =>
    obtain ⟨N7, rfl, hN7, hbc, bC⟩ := hcut
    have B3 := B2.trans (hbc.mono B2.size)
    have bX3 := bX2.belowAll hbc
    have bG3 := bG.belowAll hbc
    have cX : wc.cell? ⟨w.heap.size + 1, 1, none⟩ = some (.int .i64 lk) ∧ wc.cell? ⟨w.heap.size + 1, 2, none⟩ = some (.int .i64 sz) ∧ wc.cell? ⟨w.heap.size + 1, 3, none⟩ = some (.int .i64 mj) ∧ wc.cell? ⟨w.heap.size + 1, 4, none⟩ = some (.int .i64 mn) ∧ wc.cell? ⟨w.heap.size + 1, 5, none⟩ = some (.int .i64 pr) := ⟨(bX3.cells 1).trans rfl, (bX3.cells 2).trans rfl, (bX3.cells 3).trans rfl, (bX3.cells 4).trans rfl, (bX3.cells 5).trans rfl⟩
    obtain ⟨cX1, cX2, cX3, cX4, cX5⟩ := cX
    have lX := bX3.lt
    have HBC := Lib.hid hbc
    have H27 := Lib.hid hN7
    clear bL2 bX2 bG HS HIX hbc hN7
    have q1 : Hid ((inoE s j i ⟨k, lk, sz, mj, mn, pr, bl, al⟩ = 7 ∧ ¬ limOk i k (xF lk sz mj mn pr) 5) ∨ limOk i k (xF lk sz mj mn pr) 5) := Lib.hid (by
      by_cases hq : limOk i k (xF lk sz mj mn pr) 5
      · exact .inr hq
      · refine .inl ⟨?_, hq⟩
        rw [HI.out, if_neg (by simpa using HRG.out), if_neg HKD.out, if_pos (fun hn => hq (lim_all.2 (HNU.out.1 hn)))])
    have cB : ∀ n, wc.cell? ⟨N7, n, none⟩ = (limC i k)[n]? := bC.cells
    have lB := bC.lt
    have fB := bC.free
    go_upto_region 8 with fail
    go_loopw [45] (fun q wr => ∃ m : Nat, m ≤ 5 ∧ q = .int .i64 m ∧ wr = wc ∧ Hid (limOk i k (xF lk sz mj mn pr) m)) (fun q _ => 5 - (intOf q).toNat)
    case atStart => exact ⟨0, by omega, rfl, rfl, Lib.hid fun n hn => absurd hn (Nat.not_lt_zero _)⟩
    case round =>
      obtain ⟨m, hm, rfl, rfl, hok⟩ := hrel
      have hc : m = 0 ∨ m = 1 ∨ m = 2 ∨ m = 3 ∨ m = 4 ∨ m = 5 := by omega
      rcases hc with rfl | rfl | rfl | rfl | rfl | rfl
      · as_aux_lemma =>
          have cA : wr.cell? ⟨N7, 2 * 0, none⟩ = some (.int .i64 (limF i k 0).1) := (cB (2 * 0)).trans rfl
          have cC : wr.cell? ⟨N7, 2 * 0 + 1, none⟩ = some (.int .i64 (limF i k 0).2) := (cB (2 * 0 + 1)).trans rfl
          simp only [Nat.reduceMul, Nat.reduceAdd] at cA cC
          have ix : Sem.run Tryz.prog (Instr.index 93 (.agg #[.int .i64 lk, .int .i64 sz, .int .i64 mj, .int .i64 mn, .int .i64 pr]) (.int .i64 0)) wr = .ok (.int .i64 lk) wr := rfl
          clear cB
          by_cases h1 : lk < (limF i k 0).1
          · have H7 : Hid (inoE s j i ⟨k, lk, sz, mj, mn, pr, bl, al⟩ = 7) := Lib.hid (by
              rcases q1.out with h | h
              · exact h.1
              · exact absurd (h 0 (by decide)).1 (by show ¬ (limF i k 0).1 ≤ lk; omega))
            clear q1
            go_wp2_with fail
            go_ret
            rw [H7.out]
            exact ⟨rfl, B3⟩
          · by_cases h2 : (limF i k 0).2 < lk
            · have H7 : Hid (inoE s j i ⟨k, lk, sz, mj, mn, pr, bl, al⟩ = 7) := Lib.hid (by
                rcases q1.out with h | h
                · exact h.1
                · exact absurd (h 0 (by decide)).2 (by show ¬ lk ≤ (limF i k 0).2; omega))
              clear q1
              go_wp2_with fail
              go_ret
              rw [H7.out]
              exact ⟨rfl, B3⟩
            · have hok2 : Hid (limOk i k (xF lk sz mj mn pr) 1) := Lib.hid (limOk_succ hok.out ⟨by show (limF i k 0).1 ≤ lk; omega, by show lk ≤ (limF i k 0).2; omega⟩)
              go_wp2_with fail
              go_roundw
              case rel => exact ⟨1, by omega, by go_num, by first | exact rfl | trivial, hok2⟩
              case measure => simp [intOf]
      · as_aux_lemma =>
          have cA : wr.cell? ⟨N7, 2 * 1, none⟩ = some (.int .i64 (limF i k 1).1) := (cB (2 * 1)).trans rfl
          have cC : wr.cell? ⟨N7, 2 * 1 + 1, none⟩ = some (.int .i64 (limF i k 1).2) := (cB (2 * 1 + 1)).trans rfl
          simp only [Nat.reduceMul, Nat.reduceAdd] at cA cC
          have ix : Sem.run Tryz.prog (Instr.index 93 (.agg #[.int .i64 lk, .int .i64 sz, .int .i64 mj, .int .i64 mn, .int .i64 pr]) (.int .i64 1)) wr = .ok (.int .i64 sz) wr := rfl
          clear cB
          by_cases h1 : sz < (limF i k 1).1
          · have H7 : Hid (inoE s j i ⟨k, lk, sz, mj, mn, pr, bl, al⟩ = 7) := Lib.hid (by
              rcases q1.out with h | h
              · exact h.1
              · exact absurd (h 1 (by decide)).1 (by show ¬ (limF i k 1).1 ≤ sz; omega))
            clear q1
            go_wp2_with fail
            go_ret
            rw [H7.out]
            exact ⟨rfl, B3⟩
          · by_cases h2 : (limF i k 1).2 < sz
            · have H7 : Hid (inoE s j i ⟨k, lk, sz, mj, mn, pr, bl, al⟩ = 7) := Lib.hid (by
                rcases q1.out with h | h
                · exact h.1
                · exact absurd (h 1 (by decide)).2 (by show ¬ sz ≤ (limF i k 1).2; omega))
              clear q1
              go_wp2_with fail
              go_ret
              rw [H7.out]
              exact ⟨rfl, B3⟩
            · have hok2 : Hid (limOk i k (xF lk sz mj mn pr) 2) := Lib.hid (limOk_succ hok.out ⟨by show (limF i k 1).1 ≤ sz; omega, by show sz ≤ (limF i k 1).2; omega⟩)
              go_wp2_with fail
              go_roundw
              case rel => exact ⟨2, by omega, by go_num, by first | exact rfl | trivial, hok2⟩
              case measure => simp [intOf]
      · as_aux_lemma =>
          have cA : wr.cell? ⟨N7, 2 * 2, none⟩ = some (.int .i64 (limF i k 2).1) := (cB (2 * 2)).trans rfl
          have cC : wr.cell? ⟨N7, 2 * 2 + 1, none⟩ = some (.int .i64 (limF i k 2).2) := (cB (2 * 2 + 1)).trans rfl
          simp only [Nat.reduceMul, Nat.reduceAdd] at cA cC
          have ix : Sem.run Tryz.prog (Instr.index 93 (.agg #[.int .i64 lk, .int .i64 sz, .int .i64 mj, .int .i64 mn, .int .i64 pr]) (.int .i64 2)) wr = .ok (.int .i64 mj) wr := rfl
          clear cB
          by_cases h1 : mj < (limF i k 2).1
          · have H7 : Hid (inoE s j i ⟨k, lk, sz, mj, mn, pr, bl, al⟩ = 7) := Lib.hid (by
              rcases q1.out with h | h
              · exact h.1
              · exact absurd (h 2 (by decide)).1 (by show ¬ (limF i k 2).1 ≤ mj; omega))
            clear q1
            go_wp2_with fail
            go_ret
            rw [H7.out]
            exact ⟨rfl, B3⟩
          · by_cases h2 : (limF i k 2).2 < mj
            · have H7 : Hid (inoE s j i ⟨k, lk, sz, mj, mn, pr, bl, al⟩ = 7) := Lib.hid (by
                rcases q1.out with h | h
                · exact h.1
                · exact absurd (h 2 (by decide)).2 (by show ¬ mj ≤ (limF i k 2).2; omega))
              clear q1
              go_wp2_with fail
              go_ret
              rw [H7.out]
              exact ⟨rfl, B3⟩
            · have hok2 : Hid (limOk i k (xF lk sz mj mn pr) 3) := Lib.hid (limOk_succ hok.out ⟨by show (limF i k 2).1 ≤ mj; omega, by show mj ≤ (limF i k 2).2; omega⟩)
              go_wp2_with fail
              go_roundw
              case rel => exact ⟨3, by omega, by go_num, by first | exact rfl | trivial, hok2⟩
              case measure => simp [intOf]
      · as_aux_lemma =>
          have cA : wr.cell? ⟨N7, 2 * 3, none⟩ = some (.int .i64 (limF i k 3).1) := (cB (2 * 3)).trans rfl
          have cC : wr.cell? ⟨N7, 2 * 3 + 1, none⟩ = some (.int .i64 (limF i k 3).2) := (cB (2 * 3 + 1)).trans rfl
          simp only [Nat.reduceMul, Nat.reduceAdd] at cA cC
          have ix : Sem.run Tryz.prog (Instr.index 93 (.agg #[.int .i64 lk, .int .i64 sz, .int .i64 mj, .int .i64 mn, .int .i64 pr]) (.int .i64 3)) wr = .ok (.int .i64 mn) wr := rfl
          clear cB
          by_cases h1 : mn < (limF i k 3).1
          · have H7 : Hid (inoE s j i ⟨k, lk, sz, mj, mn, pr, bl, al⟩ = 7) := Lib.hid (by
              rcases q1.out with h | h
              · exact h.1
              · exact absurd (h 3 (by decide)).1 (by show ¬ (limF i k 3).1 ≤ mn; omega))
            clear q1
            go_wp2_with fail
            go_ret
            rw [H7.out]
            exact ⟨rfl, B3⟩
          · by_cases h2 : (limF i k 3).2 < mn
            · have H7 : Hid (inoE s j i ⟨k, lk, sz, mj, mn, pr, bl, al⟩ = 7) := Lib.hid (by
                rcases q1.out with h | h
                · exact h.1
                · exact absurd (h 3 (by decide)).2 (by show ¬ mn ≤ (limF i k 3).2; omega))
              clear q1
              go_wp2_with fail
              go_ret
              rw [H7.out]
              exact ⟨rfl, B3⟩
            · have hok2 : Hid (limOk i k (xF lk sz mj mn pr) 4) := Lib.hid (limOk_succ hok.out ⟨by show (limF i k 3).1 ≤ mn; omega, by show mn ≤ (limF i k 3).2; omega⟩)
              go_wp2_with fail
              go_roundw
              case rel => exact ⟨4, by omega, by go_num, by first | exact rfl | trivial, hok2⟩
              case measure => simp [intOf]
      · as_aux_lemma =>
          have cA : wr.cell? ⟨N7, 2 * 4, none⟩ = some (.int .i64 (limF i k 4).1) := (cB (2 * 4)).trans rfl
          have cC : wr.cell? ⟨N7, 2 * 4 + 1, none⟩ = some (.int .i64 (limF i k 4).2) := (cB (2 * 4 + 1)).trans rfl
          simp only [Nat.reduceMul, Nat.reduceAdd] at cA cC
          have ix : Sem.run Tryz.prog (Instr.index 93 (.agg #[.int .i64 lk, .int .i64 sz, .int .i64 mj, .int .i64 mn, .int .i64 pr]) (.int .i64 4)) wr = .ok (.int .i64 pr) wr := rfl
          clear cB
          by_cases h1 : pr < (limF i k 4).1
          · have H7 : Hid (inoE s j i ⟨k, lk, sz, mj, mn, pr, bl, al⟩ = 7) := Lib.hid (by
              rcases q1.out with h | h
              · exact h.1
              · exact absurd (h 4 (by decide)).1 (by show ¬ (limF i k 4).1 ≤ pr; omega))
            clear q1
            go_wp2_with fail
            go_ret
            rw [H7.out]
            exact ⟨rfl, B3⟩
          · by_cases h2 : (limF i k 4).2 < pr
            · have H7 : Hid (inoE s j i ⟨k, lk, sz, mj, mn, pr, bl, al⟩ = 7) := Lib.hid (by
                rcases q1.out with h | h
                · exact h.1
                · exact absurd (h 4 (by decide)).2 (by show ¬ pr ≤ (limF i k 4).2; omega))
              clear q1
              go_wp2_with fail
              go_ret
              rw [H7.out]
              exact ⟨rfl, B3⟩
            · have hok2 : Hid (limOk i k (xF lk sz mj mn pr) 5) := Lib.hid (limOk_succ hok.out ⟨by show (limF i k 4).1 ≤ pr; omega, by show pr ≤ (limF i k 4).2; omega⟩)
              go_wp2_with fail
              go_roundw
              case rel => exact ⟨5, by omega, by go_num, by first | exact rfl | trivial, hok2⟩
              case measure => simp [intOf]
      · have hnu : (⟨k, lk, sz, mj, mn, pr, bl, al⟩ : Ino).nums i := HNU.out.2 (lim_all.1 hok.out)
        clear q1 cB lB fB HNU hok cX1 cX3 cX4 cX5
        have cX0 : wr.cell? ⟨w.heap.size + 1, 0, none⟩ = some (.int .i64 k) := (bX3.cells 0).trans rfl
        have cX6 : wr.cell? ⟨w.heap.size + 1, 6, none⟩ = some (.slice A bl.length c) := (bX3.cells 6).trans rfl
        have cX7 : wr.cell? ⟨w.heap.size + 1, 7, none⟩ = some (.slice A2 al.length c2) := (bX3.cells 7).trans rfl
        go_upto_block 2 with fail
        go_cut [10] from 65 to 149 (fun s10 wx => wx = wr ∧ ∃ q : Int, s10 = .int .i64 q ∧ Hid ((⟨k, lk, sz, mj, mn, pr, bl, al⟩ : Ino).many ↔ manyQ k bl al q))
        case first =>
          have hc : k = 0 ∨ k = 1 ∨ k = 2 ∨ k = 3 ∨ k = 4 := by omega
          rcases hc with rfl | rfl | rfl | rfl | rfl
          · as_aux_lemma =>
              have hm := Lib.hid (many_none (k := 0) (by decide) lk sz mj mn pr bl al)
              clear hnu HI
              go_wp2_with fail
              go_meet
              case rel => exact ⟨rfl, _, rfl, hm⟩
          · as_aux_lemma =>
              by_cases h1 : bl.length ≤ 8 ∧ (bl.length = 0 ↔ sz = 0)
              · have hm := Lib.hid (many_dir (lk := lk) (mj := mj) (mn := mn) (pr := pr) (al := al) h1.1 h1.2)
                have d1 : ¬ (8 : Int) < bl.length := by omega
                have d2 : (!(((bl.length : Int) == 0) == (sz == 0))) = false := beq_same (by have := h1.2; omega)
                clear hnu HI h1
                go_wp2_with fail
                go_meet
                case rel => exact ⟨rfl, _, rfl, hm⟩
              · have H6 : Hid (inoE s j i ⟨(1 : Nat), lk, sz, mj, mn, pr, bl, al⟩ = 6) := Lib.hid (by
                  rw [HI.out, if_neg (by simpa using HRG.out), if_neg HKD.out, if_neg (by simpa using hnu), if_pos (not_many_dir h1)])
                by_cases h2 : (8 : Int) < bl.length
                · clear hnu HI h1
                  go_wp2_with fail
                  go_ret
                  exact ⟨congrArg (fun q => Ending.returned (Value.int .i64 q)) H6.out.symm, B3⟩
                · have d2 : (!(((bl.length : Int) == 0) == (sz == 0))) = true := beq_diff (fun h => h1 ⟨by omega, by omega⟩)
                  clear hnu HI h1
                  go_wp2_with fail
                  go_ret
                  exact ⟨congrArg (fun q => Ending.returned (Value.int .i64 q)) H6.out.symm, B3⟩
          · as_aux_lemma =>
              have hsz := nums_file (by decide) hnu
              have hw : Hid (wrap64 ((wrap64 (wrap64 (sz + 96) - 1)).tdiv 96) = (sz + 95) / 96) := Lib.hid (by
                have e1 : wrap64 (sz + 96) = sz + 96 := by unfold wrap64; omega
                have e2 : wrap64 (sz + 96 - 1) = sz + 95 := by unfold wrap64; omega
                rw [e1, e2, Int.tdiv_eq_ediv_of_nonneg (by omega)]
                unfold wrap64; omega)
              have hm := Lib.hid (many_file (k := 2) (by decide) lk sz mj mn pr bl al)
              clear hnu HI hsz
              go_wp2_with fail
              go_meet
              case rel => exact ⟨rfl, _, rfl, Lib.hid (by rw [hw.out]; exact hm.out)⟩
          · as_aux_lemma =>
              have hsz := nums_file (by decide) hnu
              have hw : Hid (wrap64 ((wrap64 (wrap64 (sz + 96) - 1)).tdiv 96) = (sz + 95) / 96) := Lib.hid (by
                have e1 : wrap64 (sz + 96) = sz + 96 := by unfold wrap64; omega
                have e2 : wrap64 (sz + 96 - 1) = sz + 95 := by unfold wrap64; omega
                rw [e1, e2, Int.tdiv_eq_ediv_of_nonneg (by omega)]
                unfold wrap64; omega)
              have hm := Lib.hid (many_file (k := 3) (by decide) lk sz mj mn pr bl al)
              clear hnu HI hsz
              go_wp2_with fail
              go_meet
              case rel => exact ⟨rfl, _, rfl, Lib.hid (by rw [hw.out]; exact hm.out)⟩
          · as_aux_lemma =>
              have hm := Lib.hid (many_none (k := 4) (by decide) lk sz mj mn pr bl al)
              clear hnu HI
              go_wp2_with fail
              go_meet
              case rel => exact ⟨rfl, _, rfl, hm⟩
        case rest =>
          obtain ⟨rfl, q, rfl, hmq⟩ := hcut
          have HV := Lib.hid hnu
          clear hnu
          go_upto_region 22 with fail
          go_cut [110] from 89 to 149 (fun s110 wx => wx = wc ∧ ∃ b : Bool, s110 = .bool b ∧ Hid (NotMany ⟨k, lk, sz, mj, mn, pr, bl, al⟩ b))
          case first =>
            have hb : ∀ b : Bool, (b = true ↔ ¬ manyQ k bl al q) → Hid (NotMany ⟨k, lk, sz, mj, mn, pr, bl, al⟩ b) := fun b h => Lib.hid (by unfold NotMany; rw [hmq.out]; exact h)
            have HB := Lib.hid hb
            clear hmq HI hb
            by_cases m1 : (bl.length : Int) = q
            rotate_left
            · as_aux_lemma =>
                have hr := HB.out true ⟨fun _ h => m1 h.1, fun _ => rfl⟩
                have d1 : ((bl.length : Int) != q) = true := by simpa using m1
                clear HB m1
                go_wp2_with fail
                go_meet
                case rel => exact ⟨rfl, _, rfl, hr⟩
            have d1 : ((bl.length : Int) != q) = false := by simpa using m1
            by_cases m2 : al.length ≤ 3
            rotate_left
            · as_aux_lemma =>
                have hr := HB.out true ⟨fun _ h => m2 h.2.1, fun _ => rfl⟩
                have d2 : (3 : Int) < al.length := by omega
                clear HB m1 m2
                go_wp2_with fail
                go_meet
                case rel => exact ⟨rfl, _, rfl, hr⟩
            have d2 : ¬ (3 : Int) < al.length := by omega
            by_cases m3 : k = 0
            rotate_left
            · as_aux_lemma =>
                have hr := HB.out false ⟨fun h => (by cases h), fun h => absurd ⟨m1, m2, fun e => absurd e m3⟩ h⟩
                have d3 : ((k : Int) == 0) = false := by simpa using m3
                clear HB m1 m2 m3
                go_wp2_with fail
                go_meet
                case rel => exact ⟨rfl, _, rfl, hr⟩
            have d3 : ((k : Int) == 0) = true := by simpa using m3
            by_cases m4 : al = []
            · as_aux_lemma =>
                have hr := HB.out false ⟨fun h => (by cases h), fun h => absurd ⟨m1, m2, fun _ => m4⟩ h⟩
                have d4 : ¬ (0 : Int) < al.length := by rw [m4]; simp
                have d5 : ¬ 0 < al.length := by rw [m4]; simp
                clear HB m1 m2 m3 m4
                go_wp2_with fail
                go_meet
                case rel => exact ⟨rfl, _, rfl, hr⟩
            · as_aux_lemma =>
                have hr := HB.out true ⟨fun _ h => m4 (h.2.2 m3), fun _ => rfl⟩
                have d5 : 0 < al.length := List.length_pos_iff.2 m4
                have d4 : (0 : Int) < al.length := by omega
                clear HB m1 m2 m3 m4
                go_wp2_with fail
                go_meet
                case rel => exact ⟨rfl, _, rfl, hr⟩
          case rest =>
            obtain ⟨rfl, b, rfl, hb⟩ := hcut
            by_cases hm : (⟨k, lk, sz, mj, mn, pr, bl, al⟩ : Ino).many
            rotate_left
            · have H6 : Hid (inoE s j i ⟨k, lk, sz, mj, mn, pr, bl, al⟩ = 6) := Lib.hid (by
                rw [HI.out, if_neg (by simpa using HRG.out), if_neg HKD.out, if_neg (by simpa using HV.out), if_pos hm])
              obtain rfl : b = true := hb.out.2 hm
              clear HI HV hm hmq hb
              go_wp2_with fail
              go_ret
              rw [H6.out]
              exact ⟨rfl, B3⟩
            · obtain rfl : b = false := by
                cases b with
                | false => rfl
                | true => exact absurd hm (hb.out.1 rfl)
              have HI2 : Hid (inoE s j i ⟨k, lk, sz, mj, mn, pr, bl, al⟩ = if ∃ b ∈ bl ++ al, b < 0 ∨ rgB s j i ≤ b then 7 else if ¬ (bl ++ al).Nodup then 8 else 0) := Lib.hid (by
                rw [HI.out, if_neg (by simpa using HRG.out), if_neg HKD.out, if_neg (by simpa using HV.out), if_neg (by simpa using hm)])
              clear HI HV hm hmq hb
              obtain ⟨w5, hw5⟩ : ∃ w5, wc.alloc (.cells #[.slice A bl.length c, .slice A2 al.length c2] 24) = w5 := ⟨_, rfl⟩
              obtain ⟨P, hP⟩ : ∃ P, wc.heap.size = P := ⟨_, rfl⟩
              have bP : Blk w5 P 24 #[.slice A bl.length c, .slice A2 al.length c2] := by rw [← hw5, ← hP]; exact Blk.new _ _ _
              have b5 : Below wc.heap.size wc w5 := by rw [← hw5]; exact (Below.refl _ _).alloc (Nat.le_refl _) _
              have B5 := B3.trans (b5.mono B3.size)
              have bX5 := bX3.belowAll b5
              have bG5 := bG3.belowAll b5
              have r1 := HR.out.below B5
              have r2 := HR2.out.below B5
              have hcc := concat_two P A A2 c c2 bl al HN1.out HN2.out w5 bP r1 r2 (fun e => Classical.byContradiction fun h => by subst e; exact (r1.some_ (by rw [List.length_map]; omega)) rfl) (fun e => Classical.byContradiction fun h => by subst e; exact (r2.some_ (by rw [List.length_map]; omega)) rfl)
              have HW5 := Lib.hid hw5
              have HP5 := Lib.hid hP
              clear hw5 hP bP b5 r1 r2 bC H27 HBC cX0 cX2 bX3 bG3 HW HN
              go_wp2_with fail
              rw [HP5.out, HW5.out]
              refine hcc.mono ?_
              rintro e w6 ⟨sv, rfl, ho6, hb6⟩
              have B6 := B5.trans (hb6.mono B5.size)
              have bX6 := bX5.belowAll hb6
              have bG6 := bG5.belowAll hb6
              obtain ⟨Av, cv, rfl⟩ := own_slice ho6
              have z56 := hb6.size
              have ho6' : w6.ownsRow w5.heap.size 3 1 (.slice Av (bl ++ al).length cv) (bl ++ al).length ((bl ++ al).map (.int .i64)) := by rw [List.length_append]; exact ho6
              have hst := sort_ints w5.heap.size _ (bl ++ al) (by rw [List.length_append]; have := HN1.out; have := HN2.out; omega) w6 z56 ho6'
              rw [List.length_append] at hst
              obtain ⟨n, hn⟩ : ∃ n, bl.length + al.length = n := ⟨_, rfl⟩
              rw [hn] at hst ⊢
              have HNN := Lib.hid hn
              have HZ := Lib.hid z56
              have H5S := Lib.hid B5.size
              have hx5 : w.heap.size + 1 < w5.heap.size := bX5.lt
              have hg5 : N2 < w5.heap.size := bG5.lt
              clear hcc hn hb6 bX5 bG5 ho6 ho6' z56 HP5 HW5 cX6 cX7 lX
              go_wp2_with fail
              refine hst.mono ?_
              rintro e w7 ⟨rfl, ys, hp, hsr, ho7, hb7⟩
              have B7 := B6.trans (hb7.mono H5S.out)
              have bX7 := bX6.below hb7 hx5
              have bG7 := bG6.below hb7 hg5
              have hyl : ys.length = n := by rw [hp.length_eq, List.length_append]; exact HNN.out
              have B57 := Lib.hid (HZ.out)
              have hz7 : w5.heap.size ≤ w7.heap.size := Nat.le_trans HZ.out hb7.size
              have HZ7 := Lib.hid hz7
              have HP := Lib.hid hp
              have HSR := Lib.hid hsr
              have HYL := Lib.hid hyl
              have ho7n : w7.ownsRow w5.heap.size 3 1 (.slice Av n cv) n (ys.map (.int .i64)) := by rw [List.length_append, HNN.out] at ho7; exact ho7
              have HO7 := Lib.hid ho7n
              have HX5 := Lib.hid hx5
              have HB7 := Lib.hid hb7
              clear hst bX6 bG6 hp hsr hyl ho7 ho7n hb7 hz7 hx5 hg5
              go_upto_region 27 with fail
              go_cut [138] from 121 to 149 (fun s138 wx => (∃ m, wx = w7.drewN m) ∧ ∃ b : Bool, s138 = .bool b ∧ Hid (OutAny (bl ++ al) (rgB s j i) b))
              case first =>
                cases n with
                | zero =>
                  as_aux_lemma =>
                    -- KEEP
                    have hr : Hid (OutAny (bl ++ al) (rgB s j i) false) := Lib.hid (by
                      have h0 : bl ++ al = [] := by rw [← List.length_eq_zero_iff, List.length_append]; exact HNN.out
                      unfold OutAny; rw [h0]; simp)
                    go_quiet (fail)
                    go_wp2_with fail
                    go_meet
                    case rel => exact ⟨⟨_, rfl⟩, _, rfl, hr⟩
                | succ p =>
                  obtain ⟨y0, y1, e0, e1, hen⟩ := ends_of HP.out HSR.out (rgB s j i) HYL.out
                  obtain ⟨g, cap, he, hge, hgl⟩ := own_form HO7.out (by omega)
                  cases he
                  have c0 : w7.cell? ⟨g, 0, none⟩ = some (.int .i64 y0) := own_cell HO7.out (j := 0) (by rw [List.getElem?_map, e0]; rfl)
                  have c1 : w7.cell? ⟨g, p, none⟩ = some (.int .i64 y1) := own_cell HO7.out (j := p) (by rw [List.getElem?_map, e1]; rfl)
                  have c4 : w7.cell? ⟨N2, 4, none⟩ = some (.int .i64 (rgB s j i)) := (bG7.cells 4).trans rfl
                  have l4 := bG7.lt
                  clear e0 e1
                  have m1 : IntKind.i64.wrap (p : Int) = p := by rw [IntKind.wrap_i64]; have := HN1.out; have := HN2.out; have := HNN.out; omega
                  by_cases h0 : y0 < 0
                  · as_aux_lemma =>
                      -- KEEP
                      have hr : Hid (OutAny (bl ++ al) (rgB s j i) true) := Lib.hid ⟨fun _ => hen.1 (.inl h0), fun _ => rfl⟩
                      clear hen
                      go_quiet (fail)
                      go_wp2_with fail
                      go_meet
                      case rel => exact ⟨⟨_, rfl⟩, _, rfl, hr⟩
                  · have h0' : decide (y0 < 0) = false := by simpa using h0
                    by_cases h1 : rgB s j i ≤ y1
                    · as_aux_lemma =>
                        -- KEEP
                        have hr : Hid (OutAny (bl ++ al) (rgB s j i) true) := Lib.hid ⟨fun _ => hen.1 (.inr h1), fun _ => rfl⟩
                        clear hen
                        go_quiet (fail)
                        go_wp2_with fail
                        go_meet
                        case rel => exact ⟨⟨_, rfl⟩, _, rfl, hr⟩
                    · as_aux_lemma =>
                        -- KEEP
                        have hr : Hid (OutAny (bl ++ al) (rgB s j i) false) := Lib.hid ⟨fun h => (by cases h), fun h => by rcases hen.2 h with h | h; exact absurd h h0; exact absurd h h1⟩
                        have h1' : decide (rgB s j i ≤ y1) = false := by simpa using h1
                        clear hen
                        go_quiet (fail)
                        go_wp2_with fail
                        go_meet
                        case rel => exact ⟨⟨_, rfl⟩, _, rfl, hr⟩
              case rest =>
                obtain ⟨⟨m, rfl⟩, b, rfl, hb⟩ := hcut
                have B9 : Below w.heap.size w (w7.drewN m) := B7.trans (below_drewN' (Below.refl _ _) m)
                by_cases hany : ∃ b ∈ bl ++ al, b < 0 ∨ rgB s j i ≤ b
                · have H7 : Hid (inoE s j i ⟨k, lk, sz, mj, mn, pr, bl, al⟩ = 7) := Lib.hid (by rw [HI2.out, if_pos hany])
                  obtain rfl : b = true := hb.out.2 hany
                  clear HI2 hany hb
                  go_wp2_with fail
                  go_ret
                  rw [H7.out]
                  exact ⟨rfl, B9⟩
                · obtain rfl : b = false := by
                    cases b with
                    | false => rfl
                    | true => exact absurd (hb.out.1 rfl) hany
                  have HI3 : Hid (inoE s j i ⟨k, lk, sz, mj, mn, pr, bl, al⟩ = if (Lib.compact ys).length < n then 8 else 0) := Lib.hid (by
                    rw [HI2.out, if_neg hany]
                    have h1 := compact_lt HSR.out
                    rw [HYL.out, HP.out.nodup_iff] at h1
                    by_cases hd : (bl ++ al).Nodup
                    · rw [if_neg (by simpa using hd), if_neg (fun h => (h1.1 h) hd)]
                    · rw [if_pos hd, if_pos (h1.2 hd)])
                  have ho9 : (w7.drewN m).ownsRow w5.heap.size 3 1 (.slice Av n cv) ys.length (ys.map (.int .i64)) := by rw [HYL.out]; exact own_below HO7.out (below_drewN' (Below.refl _ _) m)
                  have bX9 := bX7.drewN m
                  clear HI2 hany hb bX7 bG7
                  have HZ9 : Hid (w5.heap.size ≤ (w7.drewN m).heap.size) := Lib.hid (Nat.le_trans HZ7.out (below_drewN' (Below.refl _ _) m : Below w7.heap.size w7 (w7.drewN m)).size)
                  generalize w7.drewN m = w9 at *
                  have hs : ∀ W, Below w5.heap.size w9 W → W.cell? ⟨w.heap.size + 1, 6, none⟩ = some (.slice A bl.length c) ∧ W.cell? ⟨w.heap.size + 1, 7, none⟩ = some (.slice A2 al.length c2) := fun W hb =>
                    ⟨((bX9.below hb HX5.out).cells 6).trans rfl, ((bX9.below hb HX5.out).cells 7).trans rfl⟩
                  have HS := Lib.hid hs
                  have HO9 := Lib.hid ho9
                  have m9 : IntKind.i64.wrap ((bl.length : Int) + al.length) = n := by rw [IntKind.wrap_i64]; have := HN1.out; have := HN2.out; have := HNN.out; omega
                  have hz9 : w5.heap.size ≤ w9.heap.size := HZ9.out
                  clear hs ho9
                  go_upto_region 29 with fail
                  refine wp_region_mix [.take 0, .take 3, .take 4, .take 5, .take 6, .take 7, .take 8, .take 9, .one 1, .one 2, .one 10] 11 (fun W => W.cell? ⟨w.heap.size + 1, 6, none⟩ = some (.slice A bl.length c) ∧ W.cell? ⟨w.heap.size + 1, 7, none⟩ = some (.slice A2 al.length c2)) (by kernel_rfl) (by kernel_rfl) (fun _ _ _ _ _ h => h) (HS.out _ (Below.refl _ _).drew) ?_
                  simp only [List.map_cons, List.map_nil, Ms.fill, List.getD_cons_zero, List.getD_cons_succ]
                  iterate 8 (refine mixT_take (by rfl) ?_ (fun w' hw' => ?_) ?_; rotate_left; (focus (go_simp; (try with_reducible rfl))); (try simp only [Act.put, List.setIfInBounds_toArray, List.set_cons_zero, List.set_cons_succ]))
                  have hcp := compact_ints w5.heap.size (.slice Av n cv) ys (by rw [HYL.out]; have := HN1.out; have := HN2.out; have := HNN.out; omega) w9.drew hz9 (own_below HO9.out (Below.refl _ _).drew)
                  generalize (Lib.compact ys).length = z at *
                  refine mixT_step (by rfl) fun K hK => ?_
                  go_simp
                  refine hcp.mono ?_
                  rintro e wz ⟨⟨Az, cz, rfl⟩, hbz⟩
                  have B10 := B9.trans ((((Below.refl w5.heap.size w9).drew).trans hbz).mono H5S.out)
                  have hsz := HS.out _ (((Below.refl w5.heap.size w9).drew).trans hbz)
                  refine hK _ _ (fun _ => hsz) ?_
                  clear hK K hcp hbz
                  refine mixT_step (by rfl) fun K hK => ?_
                  go_simp
                  refine hK _ _ (fun _ => hsz) ?_
                  clear hK K
                  refine mixT_step (by rfl) fun K hK => ?_
                  go_simp
                  refine hK _ _ (fun _ => hsz) ?_
                  clear hK K hsz
                  refine mixT_nil ?_
                  by_cases hzn : z < n
                  · have H8 : Hid (inoE s j i ⟨k, lk, sz, mj, mn, pr, bl, al⟩ = 8) := Lib.hid (by rw [HI3.out, if_pos hzn])
                    have d1 : (z : Int) < n := by omega
                    clear HI3
                    go_wp2_with fail
                    go_ret
                    rw [H8.out]
                    exact ⟨rfl, B10⟩
                  · have H8 : Hid (inoE s j i ⟨k, lk, sz, mj, mn, pr, bl, al⟩ = 0) := Lib.hid (by rw [HI3.out, if_neg hzn])
                    have d1 : ¬ (z : Int) < n := by omega
                    clear HI3
                    go_wp2_with fail
                    go_ret
                    rw [H8.out]
                    exact ⟨rfl, B10⟩
end Go.Proofs.YtjocnooekgnedaaGreatDoor
