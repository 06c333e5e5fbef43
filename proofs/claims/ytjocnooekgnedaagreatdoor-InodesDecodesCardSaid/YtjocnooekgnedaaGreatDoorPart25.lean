/- Parts of the proof, put together by program: R3, T0, T1, T2, I0, I1, I2, I3. -/
import Derived.Test.YtjocnooekgnedaaGreatDoorPart24
import Derived.Test.YtjocnooekgnedaaGreatDoorPart23
import Derived.Test.YtjocnooekgnedaaGreatDoorPart03
import Derived.Test.YtjocnooekgnedaaGreatDoorPart04
set_option linter.unusedVariables false
set_option linter.unusedSimpArgs false
/- Alloc, whatever the arguments; Count. -/
namespace Go.Proofs.YtjocnooekgnedaaGreatDoor
open Go.RowKit Go.Shelf

attribute [local go_sem] Oper.semAt_some

def AlE (s j i : Int) (us : List Bool) (near many : Int) : Int :=
  if CkE s j i us.length = 0 then (if near < 0 ∨ (us.length : Int) - 1 < near ∨ many < 0 then 7 else if (frees us near.toNat).length < many.toNat then 11 else 0) else CkE s j i us.length

def AlPost (s j i : Int) (A : Option Addr) (c : Nat) (us : List Bool) (near many : Int) (w : World) (e : Ending) (w' : World) : Prop :=
  Below w.heap.size w w' ∧ ((AlE s j i us near many ≠ 0 ∧ e = .returned (.tuple #[.agg #[.int .i64 s, .int .i64 j, .int .i64 i, .slice A us.length c], .slice none 0 0, .int .i64 (AlE s j i us near many)])) ∨
    (AlE s j i us near many = 0 ∧ ∃ g cap av cv, e = .returned (.tuple #[.agg #[.int .i64 s, .int .i64 j, .int .i64 i, .slice (some ⟨g, 0, none⟩) us.length cap], .slice av (allocd us near.toNat many.toNat).length cv, .int .i64 0]) ∧
      w'.ownsRow w.heap.size 4 1 (.slice (some ⟨g, 0, none⟩) us.length cap) us.length ((setAll us (allocd us near.toNat many.toNat) true).map .bool) ∧
      w'.ownsRow w.heap.size 3 1 (.slice av (allocd us near.toNat many.toNat).length cv) (allocd us near.toNat many.toNat).length ((allocd us near.toNat many.toNat).map (.int .i64))))



end Go.Proofs.YtjocnooekgnedaaGreatDoor
/- Lists of blocks: their errors; plain lists. Which of them are used, or free, already. -/
namespace Go.Proofs.YtjocnooekgnedaaGreatDoor
open Go.RowKit

/-- The error at entry k of a list, where those before it had none. -/
def stepE (n : Nat) (l : List Int) (k : Nat) : Int := if l.getD k 0 < 0 ∨ (n : Int) - 1 < l.getD k 0 then 7 else if l.getD k 0 ∈ l.take k then 8 else 0
/-- The error of a list's first k entries. -/
def LsE (n : Nat) (l : List Int) : Nat → Int
  | 0 => 0
  | k + 1 => if LsE n l k = 0 then stepE n l k else LsE n l k
theorem LsE_step {n : Nat} {l : List Int} {k : Nat} (h : LsE n l k = 0) : LsE n l (k + 1) = stepE n l k := by
  show (if _ then _ else _) = _
  rw [if_pos h]
theorem LsE_stay {n : Nat} {l : List Int} {k m : Nat} (h : LsE n l k ≠ 0) (hm : k ≤ m) : LsE n l m = LsE n l k := by
  induction m with
  | zero => have : k = 0 := by omega
            subst this; rfl
  | succ m ih =>
    by_cases hk : k = m + 1
    · subst hk; rfl
    · have := ih (by omega)
      show (if LsE n l m = 0 then _ else _) = _
      rw [if_neg (by rw [this]; exact h), this]
theorem LsE_pre {n : Nat} {l : List Int} {k m : Nat} (h : LsE n l m = 0) (hm : k ≤ m) : LsE n l k = 0 := by
  by_cases h0 : LsE n l k = 0
  · exact h0
  · exact absurd ((LsE_stay h0 hm).symm.trans h) h0
theorem LsE_in {n : Nat} {l : List Int} {m : Nat} (h : LsE n l m = 0) {k : Nat} (hk : k < m) : 0 ≤ l.getD k 0 ∧ l.getD k 0 < n ∧ l.getD k 0 ∉ l.take k := by
  have h1 := LsE_pre h (show k + 1 ≤ m by omega)
  rw [LsE_step (LsE_pre h (show k ≤ m by omega))] at h1
  unfold stepE at h1
  split at h1
  · omega
  · split at h1
    · omega
    · exact ⟨by omega, by omega, by assumption⟩
theorem LsE_all {n : Nat} {l : List Int} (h : LsE n l l.length = 0) : ∀ b ∈ l, 0 ≤ b ∧ b < (n : Int) := by
  intro b hb
  obtain ⟨k, hk, rfl⟩ := List.mem_iff_getElem.1 hb
  have := LsE_in h hk
  rw [List.getD_eq_getElem?_getD, List.getElem?_eq_getElem hk] at this
  exact ⟨this.1, this.2.1⟩
theorem LsE_of {n : Nat} {l : List Int} (h : ∀ k, (hk : k < l.length) → 0 ≤ l[k] ∧ l[k] < (n : Int) ∧ l[k] ∉ l.take k) {m : Nat} (hm : m ≤ l.length) : LsE n l m = 0 := by
  induction m with
  | zero => rfl
  | succ m ih =>
    rw [LsE_step (ih (by omega))]
    obtain ⟨h1, h2, h3⟩ := h m (by omega)
    unfold stepE
    rw [List.getD_eq_getElem?_getD, List.getElem?_eq_getElem (by omega), Option.getD_some, if_neg (by omega), if_neg h3]
theorem setAll_val (us : List Bool) (bl : List Int) (v : Bool) (b : Nat) (hb : b < us.length) (hin : ∀ x ∈ bl, 0 ≤ x) : (setAll us bl v)[b]? = some (if ((b : Nat) : Int) ∈ bl then v else us[b]) := by
  induction bl generalizing us with
  | nil => simp [setAll, hb]
  | cons x bl ih =>
    have hx := hin x (by simp)
    have := ih (us.set x.toNat v) (by simpa using hb) (fun y hy => hin y (by simp [hy]))
    unfold setAll at this ⊢
    rw [List.foldl_cons, this]
    congr 1
    by_cases hm : ((b : Nat) : Int) ∈ bl
    · rw [if_pos hm, if_pos (by simp [hm])]
    · rw [if_neg hm]
      by_cases hxb : x = (b : Int)
      · subst hxb; simp
      · have hne : x.toNat ≠ b := by omega
        have hne2 : ¬ ((b : Int) = x) := fun h => hxb h.symm
        simp [hne, hne2, hm]
/-- The blocks that have been met when k entries have been looked at. -/
def metL (l : List Int) (k : Nat) : List Bool := setAll (List.replicate 256 false) (l.take k) true
theorem metL_length (l : List Int) (k : Nat) : (metL l k).length = 256 := by unfold metL; rw [setAll_length, List.length_replicate]
theorem metL_at {l : List Int} {k n : Nat} (h : LsE n l k = 0) (hk : k ≤ l.length) (b : Nat) (hb : b < 256) : (metL l k).getD b false = decide (((b : Nat) : Int) ∈ l.take k) := by
  unfold metL
  have hin : ∀ x ∈ l.take k, 0 ≤ x := by
    intro x hx
    obtain ⟨p, hp, rfl⟩ := List.mem_iff_getElem.1 hx
    have hpk : p < k := by rw [List.length_take] at hp; omega
    have := (LsE_in h hpk).1
    rw [List.getD_eq_getElem?_getD, List.getElem?_eq_getElem (by omega)] at this
    simpa using this
  rw [List.getD_eq_getElem?_getD, setAll_val _ _ _ b (by rw [List.length_replicate]; exact hb) hin, List.getElem_replicate, Option.getD_some]
  by_cases hm : ((b : Nat) : Int) ∈ l.take k
  · rw [if_pos hm, decide_eq_true hm]
  · rw [if_neg hm, decide_eq_false hm]
theorem metL_step {l : List Int} {k : Nat} (hk : k < l.length) : metL l (k + 1) = (metL l k).set (l[k]).toNat true := setAll_snoc _ _ _ _ hk
/-- Is a block of a list used already, or free? -/
def hasAny (us : List Bool) (l : List Int) (u : Bool) : Bool := l.any fun b => us.getD b.toNat false == u

/-- The error of Take and Free. -/
def TnE (s j i : Int) (us : List Bool) (l : List Int) (u : Bool) (al : Int) : Int :=
  if CkE s j i us.length = 0 then (if LsE us.length l l.length = 0 then (if hasAny us l u = true then al else 0) else LsE us.length l l.length) else CkE s j i us.length
/-- The blocks that they return. -/
def TnU (s j i : Int) (us : List Bool) (l : List Int) (u : Bool) (al : Int) : List Bool := if TnE s j i us l u al = 0 then setAll us l u else us
theorem TnU_length (s j i : Int) (us : List Bool) (l : List Int) (u : Bool) (al : Int) : (TnU s j i us l u al).length = us.length := by
  unfold TnU; split
  · exact setAll_length _ _ _
  · rfl
def TnPost (s j i : Int) (A : Option Addr) (c : Nat) (us : List Bool) (l : List Int) (u : Bool) (al : Int) (w : World) (e : Ending) (w' : World) : Prop :=
  Below w.heap.size w w' ∧ ((TnE s j i us l u al ≠ 0 ∧ e = .returned (.tuple #[.agg #[.int .i64 s, .int .i64 j, .int .i64 i, .slice A us.length c], .int .i64 (TnE s j i us l u al)])) ∨
    (TnE s j i us l u al = 0 ∧ ∃ g cap, e = .returned (.tuple #[.agg #[.int .i64 s, .int .i64 j, .int .i64 i, .slice (some ⟨g, 0, none⟩) us.length cap], .int .i64 0]) ∧
      w'.ownsRow w.heap.size 4 1 (.slice (some ⟨g, 0, none⟩) us.length cap) us.length ((setAll us l u).map .bool)))
theorem TnPost.bad {s j i : Int} {us : List Bool} {l : List Int} {u : Bool} {al E : Int} {w w' : World} {A : Option Addr} {c : Nat} (hE : E ≠ 0) (h : TnE s j i us l u al = E) (hb : Below w.heap.size w w') :
    TnPost s j i A c us l u al w (.returned (.tuple #[.agg #[.int .i64 s, .int .i64 j, .int .i64 i, .slice A us.length c], .int .i64 E])) w' := by
  subst h
  exact ⟨hb, .inl ⟨hE, rfl⟩⟩
/-- .. as a slice that reads. -/
theorem TnPost.form {s j i : Int} {us : List Bool} {l : List Int} {u : Bool} {al : Int} {w w' : World} {A : Option Addr} {c : Nat} {e : Ending} (hR : Reads w A (us.map .bool)) (h : TnPost s j i A c us l u al w e w') :
    Below w.heap.size w w' ∧ ∃ A' c', e = .returned (.tuple #[.agg #[.int .i64 s, .int .i64 j, .int .i64 i, .slice A' (TnU s j i us l u al).length c'], .int .i64 (TnE s j i us l u al)]) ∧ Reads w' A' ((TnU s j i us l u al).map .bool) := by
  obtain ⟨hb, ⟨hE, he⟩ | ⟨hE, g, cap, he, ho⟩⟩ := h
  · refine ⟨hb, A, c, by rw [TnU_length]; exact he, ?_⟩
    unfold TnU
    rw [if_neg hE]
    exact hR.below hb
  · refine ⟨hb, some ⟨g, 0, none⟩, cap, by rw [TnU_length, hE]; exact he, ?_⟩
    unfold TnU
    rw [if_pos hE]
    exact Reads.of_own ho

end Go.Proofs.YtjocnooekgnedaaGreatDoor
/- slices.ContainsFunc with the closure of blocks.turn. -/
namespace Go.Proofs.YtjocnooekgnedaaGreatDoor
open Go.RowKit


def FinPost (us : List Bool) (l : List Int) (u : Bool) (w : World) (e : Ending) (w' : World) : Prop :=
  Below w.heap.size w w' ∧ ∃ r : Int, e = .returned (.int .i64 r) ∧ (decide (0 ≤ r) = hasAny us l u)



end Go.Proofs.YtjocnooekgnedaaGreatDoor
/- turn, Take, Free. -/
namespace Go.Proofs.YtjocnooekgnedaaGreatDoor
open Go.RowKit





end Go.Proofs.YtjocnooekgnedaaGreatDoor
/- Layer 10: Read, Write, Take, Free of a transaction in plain words. No program in sight. -/
namespace Go.Proofs.YtjocnooekgnedaaGreatDoor
open Go.RowKit Go.Maps

/-- The record of a transaction for a sector. -/
def TxS.look (y : TxS) (a : Int) : Option Rec := if a = 1 + y.j ∧ y.changed = true then some ⟨1 + y.j, 5, mapS y.now⟩ else atRec y.writes a
def TxS.readR (y : TxS) (x : DevS) (a : Int) : Int × ByteArray × Int :=
  match y.look a with | some r => (r.kind, r.data, 0) | none => ((x.fr a).kind, (x.fr a).data, x.ge a)
def TxS.read (y : TxS) (x : DevS) (a : Int) : Int × ByteArray × Int :=
  if y.stateE ≠ 0 then (0, ⟨#[]⟩, y.stateE) else if a < 0 ∨ y.s ≤ a then (0, ⟨#[]⟩, 7) else y.readR x a

def TxS.writeE (y : TxS) (a k : Int) (n : Nat) : Int :=
  if (1 ≤ a ∧ a < 1 + y.j) ∨ a = 1 + y.j then 2 else if (a < 0 ∨ y.s ≤ a) ∨ k < 1 ∨ 255 < k then 7 else if 96 < n then 3 else if (atRec y.writes a).isNone = true ∧ y.left < 1 then 12 else 0
def TxS.brk (y : TxS) : TxS := { y with broken := true }
def TxS.write (y : TxS) (a k : Int) (d : ByteArray) : Int × TxS :=
  if y.stateE ≠ 0 then (y.stateE, y) else if y.writeE a k d.size ≠ 0 then (y.writeE a k d.size, y.brk) else (0, { y with writes := insRec y.writes ⟨a, k, d⟩ })

def orL (a b : List Bool) : List Bool := List.zipWith (· || ·) a b
def TxS.may (y : TxS) : List Bool := orL y.now y.was

/-- Take. -/
def TxS.takeE (y : TxS) (near many : Int) : Int :=
  if AlE y.s y.j y.i y.may near many ≠ 0 then AlE y.s y.j y.i y.may near many else y.changeE (allocd y.may near.toNat many.toNat).length
def TxS.take (y : TxS) (near many : Int) : Int × TxS :=
  if y.stateE ≠ 0 then (y.stateE, y) else if y.takeE near many ≠ 0 then (y.takeE near many, y.brk)
  else (0, y.change (setAll y.now (allocd y.may near.toNat many.toNat) true) (allocd y.may near.toNat many.toNat).length)
def TxS.takeL (y : TxS) (near many : Int) : List Int :=
  if y.stateE ≠ 0 then [] else if y.takeE near many ≠ 0 then [] else allocd y.may near.toNat many.toNat

/-- Free. -/
def TxS.freeE (y : TxS) (l : List Int) : Int :=
  if TnE y.s y.j y.i y.now l false 4 ≠ 0 then TnE y.s y.j y.i y.now l false 4 else y.changeE l.length
def TxS.free (y : TxS) (l : List Int) : Int × TxS :=
  if y.stateE ≠ 0 then (y.stateE, y) else if y.freeE l ≠ 0 then (y.freeE l, y.brk) else (0, y.change (setAll y.now l false) l.length)

end Go.Proofs.YtjocnooekgnedaaGreatDoor
/- Layer 8: what Alloc takes, in plain lists: different blocks that are free. No program in sight. -/
namespace Go.Proofs.YtjocnooekgnedaaGreatDoor
open Go.RowKit

theorem goRound_mem {us : List Bool} {near k : Nat} {x : Int} (h : x ∈ goRound us near k) : ∃ i, i < k ∧ us[(near + i) % us.length]? = some false ∧ x = (((near + i) % us.length : Nat) : Int) := by
  unfold goRound at h
  simp only [List.mem_map, List.mem_filter, List.mem_range, beq_iff_eq] at h
  obtain ⟨i, ⟨h1, h2⟩, rfl⟩ := h
  exact ⟨i, h1, h2, by simp⟩
theorem step_inj {n near i k : Nat} (hi : i < k) (hk : k < n) (hn : near < n) (h : (near + i) % n = (near + k) % n) : False := by
  have h1 : near + i < n ∨ n ≤ near + i := by omega
  have h2 : near + k < n ∨ n ≤ near + k := by omega
  rcases h1 with h1 | h1 <;> rcases h2 with h2 | h2
  · rw [Nat.mod_eq_of_lt h1, Nat.mod_eq_of_lt h2] at h; omega
  · rw [Nat.mod_eq_of_lt h1, Nat.mod_eq_sub_mod h2, Nat.mod_eq_of_lt (by omega)] at h; omega
  · rw [Nat.mod_eq_of_lt h2, Nat.mod_eq_sub_mod h1, Nat.mod_eq_of_lt (by omega)] at h; omega
  · rw [Nat.mod_eq_sub_mod h1, Nat.mod_eq_sub_mod h2, Nat.mod_eq_of_lt (by omega), Nat.mod_eq_of_lt (by omega)] at h; omega

theorem frees_nodup_aux {us : List Bool} {near : Nat} (hn : near < us.length) : ∀ k, k ≤ us.length → ∀ p, (hp : p < (goRound us near k).length) → (goRound us near k)[p] ∉ (goRound us near k).take p := by
  intro k
  induction k with
  | zero => intro _ p hp; rw [goRound_0] at hp; simp at hp
  | succ k ih =>
    intro hk p hp
    have ih := ih (by omega)
    have hm : (near + k) % us.length < us.length := Nat.mod_lt _ (by omega)
    cases hu : us[(near + k) % us.length]
    · have hh := goRound_hit (us := us) (near := near) (k := k) (by rw [List.getElem?_eq_getElem hm, hu])
      have hcast : ((near : Int) + (k : Int)) % (us.length : Int) = (((near + k) % us.length : Nat) : Int) := by simp
      simp only [hh, List.length_append, List.length_singleton] at hp ⊢
      by_cases hp2 : p < (goRound us near k).length
      · rw [List.getElem_append_left hp2, List.take_append_of_le_length (by omega)]
        exact ih p hp2
      · have : p = (goRound us near k).length := by omega
        subst this
        rw [List.getElem_append_right (by omega), List.take_append_of_le_length (by omega), List.take_length]
        simp only [Nat.sub_self, List.getElem_singleton]
        rw [hcast]
        intro hmem
        obtain ⟨i, hi, _, he⟩ := goRound_mem hmem
        have : (near + k) % us.length = (near + i) % us.length := by exact_mod_cast he
        exact step_inj hi (by omega) hn this.symm
    · have hh := goRound_miss (us := us) (near := near) (k := k) (by rw [List.getElem?_eq_getElem hm, hu])
      simp only [hh] at hp ⊢
      exact ih p hp

theorem allocd_LsE {us : List Bool} {f mn : Nat} (hf : f < us.length) : LsE us.length (allocd us f mn) (allocd us f mn).length = 0 := by
  refine LsE_of (fun k hk => ?_) (Nat.le_refl _)
  have hin := allocd_in (us := us) (near := f) (many := mn) (by omega) _ (List.getElem_mem hk)
  refine ⟨hin.1, hin.2, ?_⟩
  have hk2 : k < (frees us f).length := by unfold allocd at hk; rw [List.length_take] at hk; omega
  have h := frees_nodup_aux hf us.length (Nat.le_refl _) k hk2
  have hkm : k < mn := by unfold allocd at hk; rw [List.length_take] at hk; omega
  have hval : (allocd us f mn)[k] = (frees us f)[k] := by
    have : (allocd us f mn)[k]? = (frees us f)[k]? := by unfold allocd; rw [List.getElem?_take, if_pos hkm]
    rw [List.getElem?_eq_getElem hk, List.getElem?_eq_getElem hk2] at this
    exact Option.some.inj this
  have htk : (allocd us f mn).take k = (frees us f).take k := by unfold allocd; rw [List.take_take, Nat.min_eq_left (by omega)]
  rw [hval, htk]
  exact h
theorem allocd_free {us : List Bool} {f mn : Nat} {b : Int} (h : b ∈ allocd us f mn) : us.getD b.toNat false = false := by
  obtain ⟨i, _, hu, rfl⟩ := goRound_mem (List.mem_of_mem_take h)
  rw [List.getD_eq_getElem?_getD, Int.toNat_natCast, hu]; rfl
theorem allocd_nonneg {us : List Bool} {f mn : Nat} (hf : f < us.length) : ∀ x ∈ allocd us f mn, 0 ≤ x := fun x hx => (allocd_in (by omega) x hx).1


theorem orL_length {a b : List Bool} (h : a.length = b.length) : (orL a b).length = a.length := by unfold orL; rw [List.length_zipWith, h, Nat.min_self]
theorem orL_getD {a b : List Bool} (h : a.length = b.length) (k : Nat) : (orL a b).getD k false = (a.getD k false || b.getD k false) := by
  unfold orL
  rw [List.getD_eq_getElem?_getD, List.getD_eq_getElem?_getD, List.getD_eq_getElem?_getD, List.getElem?_zipWith]
  by_cases hk : k < a.length
  · rw [List.getElem?_eq_getElem hk, List.getElem?_eq_getElem (h ▸ hk)]; rfl
  · rw [List.getElem?_eq_none (by omega), List.getElem?_eq_none (by omega)]; rfl

/-- Take of what Alloc took of the blocks that may be taken. -/
theorem take_may {s j i : Int} {us ws : List Bool} {f mn : Nat} (hl : us.length = ws.length) (hE : CkE s j i us.length = 0) (hf : f < us.length) : TnE s j i us (allocd (orL us ws) f mn) true 9 = 0 := by
  unfold TnE
  rw [if_pos hE]
  have h1 := allocd_LsE (us := orL us ws) (f := f) (mn := mn) (by rw [orL_length hl]; exact hf)
  rw [orL_length hl] at h1
  rw [if_pos h1, if_neg]
  intro h
  obtain ⟨b, hb, he⟩ := List.any_eq_true.1 h
  have h2 := allocd_free hb
  rw [orL_getD hl] at h2
  have h3 : us.getD b.toNat false = false := by cases h : us.getD b.toNat false <;> simp_all
  rw [h3] at he
  exact absurd he (by decide)

end Go.Proofs.YtjocnooekgnedaaGreatDoor
/- Layer 10: Read. -/
namespace Go.Proofs.YtjocnooekgnedaaGreatDoor
open Go.RowKit Go.Maps

def zRec : Rec := ⟨0, 0, ⟨#[]⟩⟩
theorem zeroRec (w : World) : (zeroValue 122).run Tryz.prog w = .ok (.agg (recC zRec)) w := by
  obtain ⟨i0, hi, hz, hs, hb⟩ := info_parts Tryz.infoRec
  unfold zeroValue
  simp [Sem.run_bind, typeInfo, hi, hz, go_sem, Result.andThen]
  rfl
theorem lookR {w : World} {M : Nat} {l : List Rec} {E : DataW Unit} (hE : RecMap E l) (hO : w.ownsMap Tryz.prog 3 recR M l.length E) {a : Int} (ha : -9223372036854775808 ≤ a ∧ a ≤ 9223372036854775807) :
    (Instr.lookup 59 (.map (some M)) (.int .i64 a) true).run Tryz.prog w = .ok (.tuple #[.agg (recC ((atRec l a).getD zRec)), .bool (atRec l a).isSome]) w := by
  obtain ⟨v, ps, hrun, hv⟩ := hO.look_ok keyInt Tryz.underlying59 (zeroRec w) (recR_mk zRec) (keyOf_int_mk Tryz.underlying3 (wf_i64 ha))
  rw [hrun, hE.has_]
  rw [hE.at_] at hv
  cases h : atRec l a with
  | none => rw [h] at hv; rw [recR_inv hv]; rfl
  | some r => rw [h] at hv; rw [recR_inv hv]; rfl

theorem readE_bad {y : TxS} {x : DevS} {a : Int} (h : y.stateE ≠ 0) : y.read x a = (0, ⟨#[]⟩, y.stateE) := by unfold TxS.read; rw [if_pos h]

set_option maxRecDepth 100000 in
set_option maxHeartbeats 2000000 in
theorem txread_bad (tv : Value) (E : Int) (a : Int) (w : World) (h : StE w tv E) (hE : E ≠ 0) :
    Calls Tryz.prog 81 #[tv, .int .i64 a] w fun e w' => e = .returned (.tuple #[.int .i64 0, .string ⟨#[]⟩, .int .i64 E]) ∧ Below w.heap.size w w' := by
  have hst := state_any tv E w h
  have hE' : (E != 0) = true := by simpa using hE
  clear hE
  go_enter Tryz.func81, Tryz.ntmps81
  go_wp2_with fail
  refine hst.mono ?_
  rintro e w1 ⟨rfl, hb1⟩
  go_wp2_with fail
  refine bodyPost_ret (v := .tuple #[.int .i64 0, .string ⟨#[]⟩, .int .i64 E]) (by simp [results, Tryz.results81, go_sem]) rfl ?_
  exact ⟨rfl, hb1⟩

set_option maxRecDepth 100000 in
set_option maxHeartbeats 2000000 in
theorem txread_range (T : Nat) (F : List Nat) (D : Nat) (y : TxS) (a : Int) (w : World) (h : TxAt w T F D y) (hE : y.stateE = 0) (ha : a < 0 ∨ y.s ≤ a) :
    Calls Tryz.prog 81 #[.pointer (some ⟨T, 0, none⟩), .int .i64 a] w fun e w' => e = .returned (.tuple #[.int .i64 0, .string ⟨#[]⟩, .int .i64 7]) ∧ Below w.heap.size w w' := by
  have hst := state_any _ _ w h.st
  rw [hE] at hst
  rcases Int.lt_or_le a 0 with h0 | h0
  · have hd : decide (a < 0) = true := by simpa using h0
    clear ha h0 h
    go_enter Tryz.func81, Tryz.ntmps81
    go_wp2_with fail
    refine hst.mono ?_
    rintro e w1 ⟨rfl, hb1⟩
    go_wp2_with fail
    refine bodyPost_ret (v := .tuple #[.int .i64 0, .string ⟨#[]⟩, .int .i64 7]) (by simp [results, Tryz.results81, go_sem]) rfl ?_
    exact ⟨rfl, hb1⟩
  · have hd : decide (a < 0) = false := by simpa using h0
    have hd2 : decide (y.s ≤ a) = true := by simp; omega
    clear ha
    go_enter Tryz.func81, Tryz.ntmps81
    go_wp2_with fail
    refine hst.mono ?_
    rintro e w1 ⟨rfl, hb1⟩
    obtain ⟨ok, ⟨M, wv, nv, bT, -⟩, lt⟩ := h.below hb1
    have c1 : w1.cell? ⟨T, 1, none⟩ = some (.int .i64 y.s) := (bT.cells 1).trans rfl
    have lT := bT.lt
    clear bT ok lt h
    go_wp2_with fail
    refine bodyPost_ret (v := .tuple #[.int .i64 0, .string ⟨#[]⟩, .int .i64 7]) (by simp [results, Tryz.results81, go_sem]) rfl ?_
    exact ⟨rfl, hb1⟩

end Go.Proofs.YtjocnooekgnedaaGreatDoor
/- Layer 10: Read, as a whole. -/
namespace Go.Proofs.YtjocnooekgnedaaGreatDoor
open Go.RowKit Go.Maps

set_option maxRecDepth 100000 in
set_option maxHeartbeats 2000000 in
theorem txread_in (T : Nat) (F : List Nat) (D : Nat) (y : TxS) (B : List Nat) (x : DevS) (a : Int) (w : World) (h : TxAt w T F D y) (hd : DevAt w D B x) (hE : y.stateE = 0) (ha : 0 ≤ a ∧ a < y.s) :
    Calls Tryz.prog 81 #[.pointer (some ⟨T, 0, none⟩), .int .i64 a] w fun e w' => e = .returned (.tuple #[.int .i64 (y.readR x a).1, .string (y.readR x a).2.1, .int .i64 (y.readR x a).2.2]) ∧ Below w.heap.size w w' := by
  have hst := state_any _ _ w h.st
  rw [hE] at hst
  obtain ⟨ha0, ha1⟩ := ha
  have hd1 : decide (a < 0) = false := by simpa using ha0
  have hd2 : decide (y.s ≤ a) = false := by simpa using ha1
  have hbd := h.ok.bds
  have HR : Hid (y.readR x a = match y.look a with | some r => (r.kind, r.data, 0) | none => ((x.fr a).kind, (x.fr a).data, x.ge a)) := Lib.hid rfl
  have HC : Hid (y.look a = if a = 1 + y.j ∧ y.changed = true then some ⟨1 + y.j, 5, mapS y.now⟩ else atRec y.writes a) := Lib.hid rfl
  go_enter Tryz.func81, Tryz.ntmps81
  go_wp2_with fail
  refine hst.mono ?_
  rintro e w1 ⟨rfl, hb1⟩
  have hD1 := hd.below hb1
  have hT1 := h.below hb1
  clear hst
  obtain ⟨ok, ⟨M, wv, nv, bT, hT, hM, hMT, ⟨E, hEm, hO⟩, hw, ⟨A, c, rfl, hn, hnF⟩⟩, lt⟩ := h.below hb1
  have lk := lookR hEm hO (a := a) (by omega)
  have cT := bT.cells
  have lT := bT.lt
  have c1 : w1.cell? ⟨T, 1, none⟩ = some (.int .i64 y.s) := (cT 1).trans rfl
  have c5 : w1.cell? ⟨T, 5, none⟩ = some (.int .i64 (1 + y.j)) := (cT 5).trans rfl
  have c17 : w1.cell? ⟨T, 17, none⟩ = some (.map (some M)) := (cT 17).trans rfl
  have c18 : w1.cell? ⟨T, 18, none⟩ = some (.bool y.changed) := (cT 18).trans rfl
  have c0 : w1.cell? ⟨T, 0, none⟩ = some (.pointer (some ⟨D, 0, none⟩)) := (cT 0).trans rfl
  clear cT hO hw hEm hd h
  generalize hr : (atRec y.writes a).getD zRec = r at lk
  obtain ⟨ra, rk, rd⟩ := r
  unfold recC at lk
  simp only at lk
  have HCK : Hid (CkE y.s y.j y.i y.now.length = 0) := Lib.hid (by rw [ok.now]; exact ckE_rgB ok.rg)
  have HNL : Hid (y.now.length ≤ 1000) := Lib.hid (by omega)
  have HT := Lib.hid bT
  obtain ⟨W, hW⟩ : ∃ W, W = w1.alloc (.cells #[.int .i64 ra, .int .i64 rk, .string rd] 122) := ⟨_, rfl⟩
  have bX : Blk W w1.heap.size 122 #[.int .i64 ra, .int .i64 rk, .string rd] := by rw [hW]; exact Blk.new _ _ _
  have bTW : Blk W T 61 (txC D y.s y.j y.i wv (.slice A y.now.length c) M y.changed y.broken y.ended) := by rw [hW]; exact bT.alloc _
  have BW : Below w.heap.size w W := by rw [hW]; exact hb1.alloc hb1.size _
  have hDW : DevAt W D B x := by rw [hW]; exact hD1.alloc _
  have hnW : Reads W A (y.now.map .bool) := by rw [hW]; exact hn.alloc _
  have hzW : W.heap.size = w1.heap.size + 1 := by rw [hW]; simp
  have HZ := Lib.hid hzW
  clear hzW
  clear bT ok hn hM hMT hnF lt hT
  by_cases hA : a = 1 + y.j ∧ y.changed = true
  · obtain ⟨hA1, hA2⟩ := hA
    have HX : Hid (y.readR x a = (5, mapS y.now, 0)) := Lib.hid (by rw [HR.out, HC.out, if_pos ⟨hA1, hA2⟩])
    rw [hA2] at c18
    have hq : (a == 1 + y.j) = true := by simpa using hA1
    have d13 : W.drew.cell? ⟨T, 13, none⟩ = some (.int .i64 y.s) := (bTW.drew.cells 13).trans rfl
    have d14 : W.drew.cell? ⟨T, 14, none⟩ = some (.int .i64 y.j) := (bTW.drew.cells 14).trans rfl
    have d15 : W.drew.cell? ⟨T, 15, none⟩ = some (.int .i64 y.i) := (bTW.drew.cells 15).trans rfl
    have d16 : W.drew.cell? ⟨T, 16, none⟩ = some (.slice A y.now.length c) := (bTW.drew.cells 16).trans rfl
    have HD := Lib.hid (And.intro d13 (And.intro d14 (And.intro d15 d16)))
    clear d13 d14 d15 d16 hr hA1
    go_wp2_with fail
    rw [← hW]
    clear hW lk c1 c5 c17 c18 c0 lT
    refine wp_region_mix [.take 0, .take 1, .take 2, .take 3, .take 4, .take 5, .take 6, .one 7, .one 8, .one 9] 8 (fun w' => w'.cell? ⟨T, 13, none⟩ = some (.int .i64 y.s) ∧ w'.cell? ⟨T, 14, none⟩ = some (.int .i64 y.j) ∧ w'.cell? ⟨T, 15, none⟩ = some (.int .i64 y.i) ∧ w'.cell? ⟨T, 16, none⟩ = some (.slice A y.now.length c)) (by kernel_rfl) (by kernel_rfl) (fun _ _ _ _ _ h => h) HD.out ?_
    simp only [List.map_cons, List.map_nil, Ms.fill, List.getD_cons_zero, List.getD_cons_succ]
    iterate 7 (refine mixT_take (by rfl) ?_ (fun w' hw' => ?_) ?_; rotate_left; (focus (go_simp; (try with_reducible rfl))); (try simp only [Act.put, List.setIfInBounds_toArray, List.set_cons_zero, List.set_cons_succ]))
    refine mixT_step (by rfl) fun K hK => ?_
    go_simp
    refine (bitmap_any T 61 _ (1 + y.j) y.s y.j y.i A c y.now HNL.out HCK.out W.drew bTW.drew rfl (hnW.below (Below.refl _ _).drew)).mono ?_
    rintro e w2 ⟨rfl, hb2⟩
    have B12 : Below W.heap.size W w2 := (Below.refl _ _).drew.trans hb2
    have lTW := bTW.lt
    refine hK _ _ (fun _ => ⟨?_, ?_, ?_, ?_⟩) ?_
    focus (exact (B12.cell (p := ⟨T, 13, none⟩) lTW).trans HD.out.1)
    focus (exact (B12.cell (p := ⟨T, 14, none⟩) lTW).trans HD.out.2.1)
    focus (exact (B12.cell (p := ⟨T, 15, none⟩) lTW).trans HD.out.2.2.1)
    focus (exact (B12.cell (p := ⟨T, 16, none⟩) lTW).trans HD.out.2.2.2)
    clear hK K
    have bX2 := bX.belowAll B12
    refine mixT_step (by rfl) fun K hK => ?_
    have hst := storeRow (ty := 122) (vs := #[.int .i64 (1 + y.j), .int .i64 5, .string (mapS y.now)]) bX2 rfl (by simp [Value.oneCell']) (by kernel_rfl)
    obtain ⟨w3, hw3⟩ : ∃ w3, w3 = w2.setRow w1.heap.size #[.int .i64 (1 + y.j), .int .i64 5, .string (mapS y.now)] := ⟨_, rfl⟩
    rw [← hw3] at hst
    have HW3 := Lib.hid hw3
    clear hw3
    refine op_storeBy _ _ _ rfl _ _ rfl rfl hst ?_
    refine hK _ _ (fun h => absurd h (by decide)) ?_
    clear hK K
    refine mixT_step (by rfl) fun K hK => ?_
    go_simp
    refine hK _ _ (fun h => absurd h (by decide)) ?_
    clear hK K
    refine mixT_nil ?_
    have bX3 : Blk w3 w1.heap.size 122 #[.int .i64 (1 + y.j), .int .i64 5, .string (mapS y.now)] := by rw [HW3.out]; exact bX2.setRow
    have B3 : Below w.heap.size w w3 := by rw [HW3.out]; exact Below.setRow (BW.trans (B12.mono BW.size)) hb1.size _
    clear hst
    have cX := bX3.cells
    have lX := bX3.lt
    have e1 : w3.cell? ⟨w1.heap.size, 1, none⟩ = some (.int .i64 5) := (cX 1).trans rfl
    have e2 : w3.cell? ⟨w1.heap.size, 2, none⟩ = some (.string (mapS y.now)) := (cX 2).trans rfl
    clear cX
    go_wp2_with fail
    go_quiet (fail)
    go_wp2_with fail
    rw [HX.out]
    refine bodyPost_ret (v := .tuple #[.int .i64 5, .string (mapS y.now), .int .i64 0]) (by simp [results, Tryz.results81, go_sem]) rfl ?_
    exact ⟨rfl, below_drewN' B3 _⟩
  have HX : Hid (y.look a = atRec y.writes a) := Lib.hid (by rw [HC.out, if_neg hA])
  have hq : (a == 1 + y.j) = false ∨ ((a == 1 + y.j) = true ∧ y.changed = false) := by
    by_cases h1 : a = 1 + y.j
    · exact .inr ⟨by simpa using h1, by cases hc : y.changed; rfl; exact absurd ⟨h1, hc⟩ hA⟩
    · exact .inl (by simpa using h1)
  clear hA
  cases hs : atRec y.writes a with
  | some r =>
    have HV : Hid (y.readR x a = (rk, rd, 0)) := Lib.hid (by rw [HR.out, HX.out, hs]; rw [hs] at hr; cases hr; rfl)
    rw [hs] at lk
    clear hr hs
    have lk := lk
    simp only [Option.isSome_some] at lk
    have cX := bX.cells
    have lX := bX.lt
    have e1 : W.cell? ⟨w1.heap.size, 1, none⟩ = some (.int .i64 rk) := (cX 1).trans rfl
    have e2 : W.cell? ⟨w1.heap.size, 2, none⟩ = some (.string rd) := (cX 2).trans rfl
    clear cX
    have W18 : W.cell? ⟨T, 18, none⟩ = some (.bool y.changed) := (bTW.cells 18).trans rfl
    rcases hq with hq | ⟨hq, hch⟩
    rotate_left
    focus
      rw [hch] at c18
      rw [hch] at W18
      rw [hW] at W18
    all_goals
      go_wp2_with fail
      rw [← hW]
      go_wp2_with fail
      go_quiet (fail)
      go_wp2_with fail
      rw [HV.out]
      refine bodyPost_ret (v := .tuple #[.int .i64 rk, .string rd, .int .i64 0]) (by simp [results, Tryz.results81, go_sem]) rfl ?_
      exact ⟨rfl, below_drewN' BW _⟩
  | none =>
    have HV : Hid (y.readR x a = ((x.fr a).kind, (x.fr a).data, x.ge a)) := Lib.hid (by rw [HR.out, HX.out, hs])
    rw [hs] at lk
    clear hr hs
    have lk := lk
    simp only [Option.isSome_none] at lk
    have W18 : W.cell? ⟨T, 18, none⟩ = some (.bool y.changed) := (bTW.cells 18).trans rfl
    have W0 : W.cell? ⟨T, 0, none⟩ = some (.pointer (some ⟨D, 0, none⟩)) := (bTW.cells 0).trans rfl
    rcases hq with hq | ⟨hq, hch⟩
    rotate_left
    focus
      rw [hch] at c18
      rw [hch] at W18
    all_goals
      have lTW := bTW.lt
      rw [hW] at W18 W0 lTW
      go_wp2_with fail
      rw [← hW]
      clear hW W18 W0 lTW lk c1 c5 c17 c18 c0 lT
      refine (getF_dev D B x a W hDW).mono ?_
      rintro e w2 ⟨hb2, rfl⟩
      have B2 := BW.trans (hb2.mono BW.size)
      generalize x.ge a = GE at *
      generalize x.fr a = f at *
      obtain ⟨fk, fs, fd⟩ := f
      obtain ⟨w3, hw3⟩ : ∃ w3, w3 = w2.alloc (.cells #[.int .i64 fk, .int .u32 fs, .string fd] 163) := ⟨_, rfl⟩
      have bF : Blk w3 w2.heap.size 163 #[.int .i64 fk, .int .u32 fs, .string fd] := by rw [hw3]; exact Blk.new _ _ _
      have B3 : Below w.heap.size w w3 := by rw [hw3]; exact B2.alloc B2.size _
      have e0 : w3.cell? ⟨w2.heap.size, 0, none⟩ = some (.int .i64 fk) := (bF.cells 0).trans rfl
      have e2 : w3.cell? ⟨w2.heap.size, 2, none⟩ = some (.string fd) := (bF.cells 2).trans rfl
      have lF := bF.lt
      go_wp2_with fail
      rw [← hw3]
      clear hw3
      go_quiet (fail)
      go_wp2_with fail
      rw [HV.out]
      refine bodyPost_ret (v := .tuple #[.int .i64 fk, .string fd, .int .i64 GE]) (by simp [results, Tryz.results81, go_sem]) rfl ?_
      exact ⟨rfl, below_drewN' B3 _⟩

theorem read_tx (T : Nat) (F : List Nat) (D : Nat) (y : TxS) (B : List Nat) (x : DevS) (a : Int) (w : World) (h : TxAt w T F D y) (hd : DevAt w D B x) :
    Calls Tryz.prog 81 #[.pointer (some ⟨T, 0, none⟩), .int .i64 a] w fun e w' => e = .returned (.tuple #[.int .i64 (y.read x a).1, .string (y.read x a).2.1, .int .i64 (y.read x a).2.2]) ∧ Below w.heap.size w w' := by
  unfold TxS.read
  by_cases hE : y.stateE = 0
  · rw [if_neg (by simpa using hE)]
    by_cases ha : a < 0 ∨ y.s ≤ a
    · rw [if_pos ha]; exact txread_range T F D y a w h hE ha
    · rw [if_neg ha]; exact txread_in T F D y B x a w h hd hE (by omega)
  · rw [if_pos (by simpa using hE)]; exact txread_bad _ _ a w h.st hE

end Go.Proofs.YtjocnooekgnedaaGreatDoor
