/- Parts of the proof, put together by program: R3, T0, T1. -/
import Derived.Test.YtljmdcegcckblaaGreatDoorQuart23
import Derived.Test.YtljmdcegcckblaaGreatDoorQuart22
import Derived.Test.YtljmdcegcckblaaGreatDoorQuart01
/- Alloc, whatever the arguments; Count. -/
namespace Go.Proofs.YtljmdcegcckblaaGreatDoor
open Go.RowKit Go.Shelf

attribute [local go_sem] Oper.semAt_some

def AlE (s j i : Int) (us : List Bool) (near many : Int) : Int :=
  if CkE s j i us.length = 0 then (if near < 0 ∨ (us.length : Int) - 1 < near ∨ many < 0 then 7 else if (frees us near.toNat).length < many.toNat then 11 else 0) else CkE s j i us.length

def AlPost (s j i : Int) (A : Option Addr) (c : Nat) (us : List Bool) (near many : Int) (w : World) (e : Ending) (w' : World) : Prop :=
  Below w.heap.size w w' ∧ ((AlE s j i us near many ≠ 0 ∧ e = .returned (.tuple #[.agg #[.int .i64 s, .int .i64 j, .int .i64 i, .slice A us.length c], .slice none 0 0, .int .i64 (AlE s j i us near many)])) ∨
    (AlE s j i us near many = 0 ∧ ∃ g cap av cv, e = .returned (.tuple #[.agg #[.int .i64 s, .int .i64 j, .int .i64 i, .slice (some ⟨g, 0, none⟩) us.length cap], .slice av (allocd us near.toNat many.toNat).length cv, .int .i64 0]) ∧
      w'.ownsRow w.heap.size 4 1 (.slice (some ⟨g, 0, none⟩) us.length cap) us.length ((setAll us (allocd us near.toNat many.toNat) true).map .bool) ∧
      w'.ownsRow w.heap.size 3 1 (.slice av (allocd us near.toNat many.toNat).length cv) (allocd us near.toNat many.toNat).length ((allocd us near.toNat many.toNat).map (.int .i64))))

set_option maxRecDepth 100000 in
set_option maxHeartbeats 1000000 in
theorem alloc_bad (s j i : Int) (A : Option Addr) (n c : Nat) (near many : Int) (w : World) (hn : n ≤ maxLen) (E : Int)
    (h : (CkE s j i n ≠ 0 ∧ E = CkE s j i n) ∨ (CkE s j i n = 0 ∧ (near < 0 ∨ (n : Int) - 1 < near ∨ many < 0) ∧ E = 7)) :
    Calls Tryz.prog 114 #[.agg #[.int .i64 s, .int .i64 j, .int .i64 i, .slice A n c], .int .i64 near, .int .i64 many] w fun e w' =>
      e = .returned (.tuple #[.agg #[.int .i64 s, .int .i64 j, .int .i64 i, .slice A n c], .slice none 0 0, .int .i64 E]) ∧ Below w.heap.size w w' := by
  have key : ∀ w1 : World, Below w.heap.size w w1 → Blk w1 w.heap.size 57 #[.int .i64 s, .int .i64 j, .int .i64 i, .slice A n c] → Blk w1 (w.heap.size + 1) 3 #[.int .i64 many] → Blk w1 (w.heap.size + 2) 57 #[.int .i64 0, .int .i64 0, .int .i64 0, .slice none 0 0] → Blk w1 (w.heap.size + 3) 34 #[.slice none 0 0] → True := fun _ _ _ _ _ _ => trivial
  clear key
  have hn' := hn
  unfold maxLen at hn'
  rcases h with ⟨hE, rfl⟩ | ⟨hE, hr, rfl⟩
  · have hE' : (CkE s j i n != 0) = true := by simpa using hE
    have HE := Lib.hid hE
    clear hE
    go_enter Tryz.func114, Tryz.ntmps114
    go_wp2_with fail
    refine (check_any s j i A n c _ hn).mono ?_
    rintro e w1 ⟨rfl, hb1⟩
    have bS : Blk w1 w.heap.size 57 #[.int .i64 s, .int .i64 j, .int .i64 i, .slice A n c] := Blk.belowAll (by (repeat' (first | (with_reducible assumption) | exact Blk.new' (by simp) | refine Blk.alloc ?_ _))) hb1
    have bR : Blk w1 (w.heap.size + 2) 57 #[.int .i64 0, .int .i64 0, .int .i64 0, .slice none 0 0] := Blk.belowAll (by (repeat' (first | (with_reducible assumption) | exact Blk.new' (by simp) | refine Blk.alloc ?_ _))) hb1
    have bL : Blk w1 (w.heap.size + 3) 34 #[.slice none 0 0] := Blk.belowAll (by (repeat' (first | (with_reducible assumption) | exact Blk.new' (by simp) | refine Blk.alloc ?_ _))) hb1
    replace hb1 : Below w.heap.size w w1 := below3 (below1 hb1)
    have cS := bS.cells
    have cR := bR.cells
    have fR := bR.free
    have cL := bL.cells
    have fL := bL.free
    go_wp2_with fail
    refine bodyPost_ret (v := .tuple #[.agg #[.int .i64 s, .int .i64 j, .int .i64 i, .slice A n c], .slice none 0 0, .int .i64 (CkE s j i n)]) (by simp [results, Tryz.results114, go_sem, cR, cL]) rfl ?_
    exact ⟨rfl, by (repeat' (first | (with_reducible exact Below.refl _ _) | (with_reducible assumption) | (with_reducible refine Below.alloc ?_ ?_ _) | (with_reducible refine Below.drew ?_) | (with_reducible refine below_drewN' ?_ _) | (with_reducible refine Below.setCell ?_ ?_ _) | (with_reducible exact Nat.le_refl _) | omega | (simp; done) | (simp; omega)))⟩
  · have hE' : (CkE s j i n != 0) = false := by simpa using hE
    have HE := Lib.hid hE
    clear hE
    by_cases hnr : near < 0 ∨ (n : Int) - 1 < near
    all_goals
      first | have hO := outB_yes hnr | have hO := outB_no hnr
      have hm0 : ¬ (near < 0 ∨ (n : Int) - 1 < near) → decide (many < 0) = true := fun h' => by simp; omega
      first | (have hm1 := hm0 hnr; clear hm0) | clear hm0
      go_enter Tryz.func114, Tryz.ntmps114
      go_wp2_with fail
      refine (check_any s j i A n c _ hn).mono ?_
      rintro e w1 ⟨rfl, hb1⟩
      have bS : Blk w1 w.heap.size 57 #[.int .i64 s, .int .i64 j, .int .i64 i, .slice A n c] := Blk.belowAll (by (repeat' (first | (with_reducible assumption) | exact Blk.new' (by simp) | refine Blk.alloc ?_ _))) hb1
      have bM : Blk w1 (w.heap.size + 1) 3 #[.int .i64 many] := Blk.belowAll (by (repeat' (first | (with_reducible assumption) | exact Blk.new' (by simp) | refine Blk.alloc ?_ _))) hb1
      have bR : Blk w1 (w.heap.size + 2) 57 #[.int .i64 0, .int .i64 0, .int .i64 0, .slice none 0 0] := Blk.belowAll (by (repeat' (first | (with_reducible assumption) | exact Blk.new' (by simp) | refine Blk.alloc ?_ _))) hb1
      have bL : Blk w1 (w.heap.size + 3) 34 #[.slice none 0 0] := Blk.belowAll (by (repeat' (first | (with_reducible assumption) | exact Blk.new' (by simp) | refine Blk.alloc ?_ _))) hb1
      replace hb1 : Below w.heap.size w w1 := below3 (below1 hb1)
      have cS := bS.cells
      have cM := bM.cells
      have cR := bR.cells
      have fR := bR.free
      have cL := bL.cells
      have fL := bL.free
      go_wp2_with (go_at_call 127; refine (outside_out _ _ _ _).mono ?_; rintro e w' ⟨rfl, rfl⟩)
      refine bodyPost_ret (v := .tuple #[.agg #[.int .i64 s, .int .i64 j, .int .i64 i, .slice A n c], .slice none 0 0, .int .i64 7]) (by simp [results, Tryz.results114, go_sem, cR, cL]) rfl ?_
      exact ⟨rfl, by (repeat' (first | (with_reducible exact Below.refl _ _) | (with_reducible assumption) | (with_reducible refine Below.alloc ?_ ?_ _) | (with_reducible refine Below.drew ?_) | (with_reducible refine below_drewN' ?_ _) | (with_reducible refine Below.setCell ?_ ?_ _) | (with_reducible exact Nat.le_refl _) | omega | (simp; done) | (simp; omega)))⟩

theorem alloc_any (s j i : Int) (A : Option Addr) (c : Nat) (us : List Bool) (near many : Int) (w : World) (hn : us.length ≤ 1000) (hR : Reads w A (us.map .bool)) :
    Calls Tryz.prog 114 #[.agg #[.int .i64 s, .int .i64 j, .int .i64 i, .slice A us.length c], .int .i64 near, .int .i64 many] w (AlPost s j i A c us near many w) := by
  by_cases hE : CkE s j i us.length = 0
  · by_cases hr : near < 0 ∨ (us.length : Int) - 1 < near ∨ many < 0
    · have h7 : AlE s j i us near many = 7 := by simp only [AlE, if_pos hE, if_pos hr]
      exact (alloc_bad s j i A us.length c near many w (by unfold maxLen; omega) 7 (.inr ⟨hE, hr, rfl⟩)).mono fun e w' ⟨he, hb⟩ => ⟨hb, .inl ⟨by omega, by rw [he, h7]⟩⟩
    · obtain ⟨nr, rfl⟩ := Int.eq_ofNat_of_zero_le (show 0 ≤ near by omega)
      obtain ⟨mn, rfl⟩ := Int.eq_ofNat_of_zero_le (show 0 ≤ many by omega)
      refine (alloc_loop s j i A c nr mn us (by omega) hn w hR hE).mono fun e w' ⟨hb, h⟩ => ⟨hb, ?_⟩
      rcases h with ⟨hf, he⟩ | ⟨hf, g, cap, av, cv, he, h1, h2⟩
      · have h11 : AlE s j i us nr mn = 11 := by
          simp only [AlE, if_pos hE, if_neg hr]
          rw [if_pos (by simpa using hf)]
        exact .inl ⟨by omega, by rw [he, h11]⟩
      · have h00 : AlE s j i us nr mn = 0 := by
          simp only [AlE, if_pos hE, if_neg hr]
          rw [if_neg (by simpa using hf)]
        exact .inr ⟨h00, g, cap, av, cv, by simpa using he, by simpa using h1, by simpa using h2⟩
  · have hx : AlE s j i us near many = CkE s j i us.length := by simp only [AlE, if_neg hE]
    exact (alloc_bad s j i A us.length c near many w (by unfold maxLen; omega) _ (.inl ⟨hE, rfl⟩)).mono fun e w' ⟨he, hb⟩ => ⟨hb, .inl ⟨by omega, by rw [he, hx]⟩⟩

end Go.Proofs.YtljmdcegcckblaaGreatDoor
/- Lists of blocks: their errors; plain lists. Which of them are used, or free, already. -/
namespace Go.Proofs.YtljmdcegcckblaaGreatDoor
open Go.RowKit

/-- The error at entry k of a list, where those before it had none. -/
def stepE (n : Nat) (l : List Int) (k : Nat) : Int := if l.getD k 0 < 0 ∨ (n : Int) - 1 < l.getD k 0 then 7 else if l.getD k 0 ∈ l.take k then 8 else 0
/-- The error of a list's first k entries. -/
def LsE (n : Nat) (l : List Int) : Nat → Int
  | 0 => 0
  | k + 1 => if LsE n l k = 0 then stepE n l k else LsE n l k
theorem LsE_step {n : Nat} {l : List Int} {k : Nat} (h : LsE n l k = 0) : LsE n l (k + 1) = stepE n l k := by
  show (if _ then _ else _) = _
  rw [if_pos h]
theorem LsE_stay {n : Nat} {l : List Int} {k m : Nat} (h : LsE n l k ≠ 0) (hm : k ≤ m) : LsE n l m = LsE n l k := by
  induction m with
  | zero => have : k = 0 := by omega
            subst this; rfl
  | succ m ih =>
    by_cases hk : k = m + 1
    · subst hk; rfl
    · have := ih (by omega)
      show (if LsE n l m = 0 then _ else _) = _
      rw [if_neg (by rw [this]; exact h), this]
theorem LsE_pre {n : Nat} {l : List Int} {k m : Nat} (h : LsE n l m = 0) (hm : k ≤ m) : LsE n l k = 0 := by
  by_cases h0 : LsE n l k = 0
  · exact h0
  · exact absurd ((LsE_stay h0 hm).symm.trans h) h0
theorem LsE_in {n : Nat} {l : List Int} {m : Nat} (h : LsE n l m = 0) {k : Nat} (hk : k < m) : 0 ≤ l.getD k 0 ∧ l.getD k 0 < n ∧ l.getD k 0 ∉ l.take k := by
  have h1 := LsE_pre h (show k + 1 ≤ m by omega)
  rw [LsE_step (LsE_pre h (show k ≤ m by omega))] at h1
  unfold stepE at h1
  split at h1
  · omega
  · split at h1
    · omega
    · exact ⟨by omega, by omega, by assumption⟩
theorem LsE_all {n : Nat} {l : List Int} (h : LsE n l l.length = 0) : ∀ b ∈ l, 0 ≤ b ∧ b < (n : Int) := by
  intro b hb
  obtain ⟨k, hk, rfl⟩ := List.mem_iff_getElem.1 hb
  have := LsE_in h hk
  rw [List.getD_eq_getElem?_getD, List.getElem?_eq_getElem hk] at this
  exact ⟨this.1, this.2.1⟩
theorem LsE_of {n : Nat} {l : List Int} (h : ∀ k, (hk : k < l.length) → 0 ≤ l[k] ∧ l[k] < (n : Int) ∧ l[k] ∉ l.take k) {m : Nat} (hm : m ≤ l.length) : LsE n l m = 0 := by
  induction m with
  | zero => rfl
  | succ m ih =>
    rw [LsE_step (ih (by omega))]
    obtain ⟨h1, h2, h3⟩ := h m (by omega)
    unfold stepE
    rw [List.getD_eq_getElem?_getD, List.getElem?_eq_getElem (by omega), Option.getD_some, if_neg (by omega), if_neg h3]
theorem setAll_val (us : List Bool) (bl : List Int) (v : Bool) (b : Nat) (hb : b < us.length) (hin : ∀ x ∈ bl, 0 ≤ x) : (setAll us bl v)[b]? = some (if ((b : Nat) : Int) ∈ bl then v else us[b]) := by
  induction bl generalizing us with
  | nil => simp [setAll, hb]
  | cons x bl ih =>
    have hx := hin x (by simp)
    have := ih (us.set x.toNat v) (by simpa using hb) (fun y hy => hin y (by simp [hy]))
    unfold setAll at this ⊢
    rw [List.foldl_cons, this]
    congr 1
    by_cases hm : ((b : Nat) : Int) ∈ bl
    · rw [if_pos hm, if_pos (by simp [hm])]
    · rw [if_neg hm]
      by_cases hxb : x = (b : Int)
      · subst hxb; simp
      · have hne : x.toNat ≠ b := by omega
        have hne2 : ¬ ((b : Int) = x) := fun h => hxb h.symm
        simp [hne, hne2, hm]
/-- The blocks that have been met when k entries have been looked at. -/
def metL (l : List Int) (k : Nat) : List Bool := setAll (List.replicate 256 false) (l.take k) true
theorem metL_length (l : List Int) (k : Nat) : (metL l k).length = 256 := by unfold metL; rw [setAll_length, List.length_replicate]
theorem metL_at {l : List Int} {k n : Nat} (h : LsE n l k = 0) (hk : k ≤ l.length) (b : Nat) (hb : b < 256) : (metL l k).getD b false = decide (((b : Nat) : Int) ∈ l.take k) := by
  unfold metL
  have hin : ∀ x ∈ l.take k, 0 ≤ x := by
    intro x hx
    obtain ⟨p, hp, rfl⟩ := List.mem_iff_getElem.1 hx
    have hpk : p < k := by rw [List.length_take] at hp; omega
    have := (LsE_in h hpk).1
    rw [List.getD_eq_getElem?_getD, List.getElem?_eq_getElem (by omega)] at this
    simpa using this
  rw [List.getD_eq_getElem?_getD, setAll_val _ _ _ b (by rw [List.length_replicate]; exact hb) hin, List.getElem_replicate, Option.getD_some]
  by_cases hm : ((b : Nat) : Int) ∈ l.take k
  · rw [if_pos hm, decide_eq_true hm]
  · rw [if_neg hm, decide_eq_false hm]
theorem metL_step {l : List Int} {k : Nat} (hk : k < l.length) : metL l (k + 1) = (metL l k).set (l[k]).toNat true := setAll_snoc _ _ _ _ hk
/-- Is a block of a list used already, or free? -/
def hasAny (us : List Bool) (l : List Int) (u : Bool) : Bool := l.any fun b => us.getD b.toNat false == u

/-- The error of Take and Free. -/
def TnE (s j i : Int) (us : List Bool) (l : List Int) (u : Bool) (al : Int) : Int :=
  if CkE s j i us.length = 0 then (if LsE us.length l l.length = 0 then (if hasAny us l u = true then al else 0) else LsE us.length l l.length) else CkE s j i us.length
/-- The blocks that they return. -/
def TnU (s j i : Int) (us : List Bool) (l : List Int) (u : Bool) (al : Int) : List Bool := if TnE s j i us l u al = 0 then setAll us l u else us
theorem TnU_length (s j i : Int) (us : List Bool) (l : List Int) (u : Bool) (al : Int) : (TnU s j i us l u al).length = us.length := by
  unfold TnU; split
  · exact setAll_length _ _ _
  · rfl
def TnPost (s j i : Int) (A : Option Addr) (c : Nat) (us : List Bool) (l : List Int) (u : Bool) (al : Int) (w : World) (e : Ending) (w' : World) : Prop :=
  Below w.heap.size w w' ∧ ((TnE s j i us l u al ≠ 0 ∧ e = .returned (.tuple #[.agg #[.int .i64 s, .int .i64 j, .int .i64 i, .slice A us.length c], .int .i64 (TnE s j i us l u al)])) ∨
    (TnE s j i us l u al = 0 ∧ ∃ g cap, e = .returned (.tuple #[.agg #[.int .i64 s, .int .i64 j, .int .i64 i, .slice (some ⟨g, 0, none⟩) us.length cap], .int .i64 0]) ∧
      w'.ownsRow w.heap.size 4 1 (.slice (some ⟨g, 0, none⟩) us.length cap) us.length ((setAll us l u).map .bool)))
theorem TnPost.bad {s j i : Int} {us : List Bool} {l : List Int} {u : Bool} {al E : Int} {w w' : World} {A : Option Addr} {c : Nat} (hE : E ≠ 0) (h : TnE s j i us l u al = E) (hb : Below w.heap.size w w') :
    TnPost s j i A c us l u al w (.returned (.tuple #[.agg #[.int .i64 s, .int .i64 j, .int .i64 i, .slice A us.length c], .int .i64 E])) w' := by
  subst h
  exact ⟨hb, .inl ⟨hE, rfl⟩⟩
/-- .. as a slice that reads. -/
theorem TnPost.form {s j i : Int} {us : List Bool} {l : List Int} {u : Bool} {al : Int} {w w' : World} {A : Option Addr} {c : Nat} {e : Ending} (hR : Reads w A (us.map .bool)) (h : TnPost s j i A c us l u al w e w') :
    Below w.heap.size w w' ∧ ∃ A' c', e = .returned (.tuple #[.agg #[.int .i64 s, .int .i64 j, .int .i64 i, .slice A' (TnU s j i us l u al).length c'], .int .i64 (TnE s j i us l u al)]) ∧ Reads w' A' ((TnU s j i us l u al).map .bool) := by
  obtain ⟨hb, ⟨hE, he⟩ | ⟨hE, g, cap, he, ho⟩⟩ := h
  · refine ⟨hb, A, c, by rw [TnU_length]; exact he, ?_⟩
    unfold TnU
    rw [if_neg hE]
    exact hR.below hb
  · refine ⟨hb, some ⟨g, 0, none⟩, cap, by rw [TnU_length, hE]; exact he, ?_⟩
    unfold TnU
    rw [if_pos hE]
    exact Reads.of_own ho

end Go.Proofs.YtljmdcegcckblaaGreatDoor
/- slices.ContainsFunc with the closure of blocks.turn. -/
namespace Go.Proofs.YtljmdcegcckblaaGreatDoor
open Go.RowKit

set_option maxRecDepth 100000 in
set_option maxHeartbeats 1000000 in
/-- The closure: is block x used, or free? -/
theorem turn1_any (s j i : Int) (A : Option Addr) (c : Nat) (us : List Bool) (u : Bool) (S U x : Nat) (hx : x < us.length) (_hus : us.length ≤ 1000) (w : World) (hR : Reads w A (us.map .bool))
    (bS : Blk w S 57 #[.int .i64 s, .int .i64 j, .int .i64 i, .slice A us.length c]) (bU : Blk w U 4 #[.bool u]) :
    Calls Tryz.prog 155 #[.int .i64 (x : Int), .pointer (some ⟨S, 0, none⟩), .pointer (some ⟨U, 0, none⟩)] w fun e w' => e = .returned (.bool (us.getD x false == u)) ∧ Below w.heap.size w w' := by
  obtain ⟨b, off, rfl, hb, hc⟩ := hR.at_ (k := x) (by simpa using hx)
  rw [List.getElem_map] at hc
  have hg : us.getD x false = us[x] := by simp [List.getD_eq_getElem?_getD, hx]
  rw [hg]
  clear hg
  generalize us[x] = y at hc
  have cS := bS.cells
  have cU := bU.cells
  go_enter Tryz.func155, Tryz.ntmps155
  go_wp2
  go_quiet (fail)
  go_wp2
  go_ret
  exact ⟨rfl, by (repeat' (first | (with_reducible exact Below.refl _ _) | (with_reducible assumption) | (with_reducible refine Below.alloc ?_ ?_ _) | (with_reducible refine Below.drew ?_) | (with_reducible refine below_drewN' ?_ _) | (with_reducible refine Below.setCell ?_ ?_ _) | (with_reducible exact Nat.le_refl _) | omega | (simp; done) | (simp; omega)))⟩

def FinPost (us : List Bool) (l : List Int) (u : Bool) (w : World) (e : Ending) (w' : World) : Prop :=
  Below w.heap.size w w' ∧ ∃ r : Int, e = .returned (.int .i64 r) ∧ (decide (0 ≤ r) = hasAny us l u)

set_option maxRecDepth 100000 in
set_option maxHeartbeats 1000000 in
theorem indexFunc_any (s j i : Int) (A Bl : Option Addr) (c cb : Nat) (us : List Bool) (l : List Int) (u : Bool) (S U : Nat) (hin : ∀ b ∈ l, 0 ≤ b ∧ b < (us.length : Int)) (hus : us.length ≤ 1000) (hl : l.length ≤ 1000) (w : World) (hR : Reads w A (us.map .bool)) (hB : Reads w Bl (l.map (.int .i64)))
    (bS : Blk w S 57 #[.int .i64 s, .int .i64 j, .int .i64 i, .slice A us.length c]) (bU : Blk w U 4 #[.bool u]) :
    Calls Tryz.prog 159 #[.slice Bl l.length cb, .func (.func 155) #[] #[.pointer (some ⟨S, 0, none⟩), .pointer (some ⟨U, 0, none⟩)]] w (FinPost us l u w) := by
  have HIN := Lib.hid hin
  clear hin
  go_enter Tryz.func159, Tryz.ntmps159
  go_wp2_with fail
  go_loopw [5, 8] (fun _ q wr => ∃ k : Nat, k ≤ l.length ∧ q = .int .i64 k ∧ hasAny us (l.take k) u = false ∧ Below w.heap.size w wr) (fun _ q _ => l.length - (intOf q).toNat)
  case atStart => exact ⟨0, Nat.zero_le _, rfl, rfl, Below.refl _ _⟩
  case round =>
    obtain ⟨k, hk, rfl, hno, hnx⟩ := hrel
    by_cases hlt : k < l.length
    · obtain ⟨b, off, rfl, hb, hc⟩ := (hB.below hnx).at_ (k := k) (by simpa using hlt)
      rw [List.getElem_map] at hc
      have hx := HIN.out l[k] (List.getElem_mem hlt)
      have hst : hasAny us (l.take (k + 1)) u = (us.getD l[k].toNat false == u) := by
        rw [List.take_succ_eq_append_getElem hlt]
        unfold hasAny at hno ⊢
        rw [List.any_append, hno]; simp
      have hall : (us.getD l[k].toNat false == u) = true → hasAny us l u = true := fun h => by
        unfold hasAny
        exact List.any_eq_true.2 ⟨l[k], List.getElem_mem hlt, h⟩
      have HST := Lib.hid hst
      have HALL := Lib.hid hall
      clear hst hall hno
      generalize l[k] = x at hc hx HST HALL
      obtain ⟨xn, rfl⟩ := Int.eq_ofNat_of_zero_le hx.1
      simp only [Int.toNat_natCast] at HST HALL
      go_wp2_with fail
      refine (turn1_any s j i A c us u S U xn (by omega) hus _ (hR.below hnx) (bS.belowAll hnx) (bU.belowAll hnx)).mono ?_
      rintro e w2 ⟨rfl, hb2⟩
      have B2 := hnx.trans (hb2.mono hnx.size)
      cases hu : (us.getD xn false == u)
      · go_wp2_with fail
        go_roundw
        case rel => exact ⟨k + 1, by omega, by go_num, by rw [HST.out]; exact hu, B2⟩
        case measure => simp [intOf]; omega
      · go_wp2_with fail
        go_ret
        exact ⟨B2, _, rfl, by rw [HALL.out hu]; simp⟩
    · obtain rfl : k = l.length := by omega
      rw [List.take_length] at hno
      go_wp2_with fail
      go_ret
      exact ⟨hnx, _, rfl, by rw [hno]; rfl⟩

set_option maxHeartbeats 400000 in
theorem containsFunc_any (s j i : Int) (A Bl : Option Addr) (c cb : Nat) (us : List Bool) (l : List Int) (u : Bool) (S U : Nat) (hin : ∀ b ∈ l, 0 ≤ b ∧ b < (us.length : Int)) (hus : us.length ≤ 1000) (hl : l.length ≤ 1000) (w : World) (hR : Reads w A (us.map .bool)) (hB : Reads w Bl (l.map (.int .i64)))
    (bS : Blk w S 57 #[.int .i64 s, .int .i64 j, .int .i64 i, .slice A us.length c]) (bU : Blk w U 4 #[.bool u]) :
    Calls Tryz.prog 154 #[.slice Bl l.length cb, .func (.func 155) #[] #[.pointer (some ⟨S, 0, none⟩), .pointer (some ⟨U, 0, none⟩)]] w fun e w' => e = .returned (.bool (hasAny us l u)) ∧ Below w.heap.size w w' := by
  go_enter Tryz.func154, Tryz.ntmps154
  go_wp2_with fail
  refine (indexFunc_any s j i A Bl c cb us l u S U hin hus hl _ hR hB bS bU).mono ?_
  rintro e w2 ⟨hb2, r, rfl, hr⟩
  have HR := Lib.hid hr
  clear hr
  go_wp2_with fail
  go_ret
  exact ⟨by rw [← HR.out]; rfl, hb2⟩

end Go.Proofs.YtljmdcegcckblaaGreatDoor
