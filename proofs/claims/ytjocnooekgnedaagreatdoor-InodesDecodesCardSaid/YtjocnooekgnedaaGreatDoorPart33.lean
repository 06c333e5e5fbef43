/- Parts of the proof, put together by program: ZG, KC, KE, KF. -/
import Derived.Test.YtjocnooekgnedaaGreatDoorPart32
import Derived.Test.YtjocnooekgnedaaGreatDoorPart21
import Derived.Test.YtjocnooekgnedaaGreatDoorPart13
import Derived.Test.YtjocnooekgnedaaGreatDoorPart03
import Derived.Test.YtjocnooekgnedaaGreatDoorPart01
import Derived.Test.YtjocnooekgnedaaGreatDoorPart31
import Derived.BigQuiet
import Derived.Deep.CutRange
import Derived.Deep.CutBlock
import Derived.Test.YtjocnooekgnedaaGreatDoorPart25
set_option linter.unusedVariables false
set_option linter.unusedSimpArgs false
/- Layers 9 and 10 in plain words: Commit on a device that has power; a device that was formatted; Begin on it. No program in sight. -/
namespace Go.Proofs.YtjocnooekgnedaaGreatDoor
open Go.RowKit Go.Maps

theorem lookTo_log {z : DevS} {F Z q : Int} {l : List Rec} (hF : 0 ≤ F) (hs : z.stable.length ≤ 256) (hv : ValidL z.stable.length F Z l) (hl : LogAt z F q l) : ∀ k, k ≤ l.length → z.lookTo F Z q k = ⟨false, 0, l.take k, false⟩ := by
  intro k
  induction k with
  | zero => intro _; rfl
  | succ k ih =>
    intro hk
    have ih := ih (by omega)
    have hkl : k < l.length := by omega
    obtain ⟨g, f⟩ := hl.recs k hkl
    have h9 := hv.rec_ k hkl
    have hro := recOf_log (r := l[k]) (q := next q) ⟨h9.2.1, by omega⟩ (by omega) h9.2.2.2.2.2.1
    show (if (z.lookTo F Z q k).stop then z.lookTo F Z q k else _) = _
    rw [ih, g, f, hro]
    have h1 : recIs z.stable.length F Z ⟨2, next q, logS l[k]⟩ = true := by
      unfold recIs
      rw [if_neg (by simp only [logS_size]; omega), hro]
      simp only [insideB, Bool.and_eq_true, decide_eq_true_eq, Bool.not_eq_true', decide_eq_false_iff_not]
      exact ⟨⟨h9.2.2.1, h9.1⟩, by omega⟩
    have h2 : decide (l[k].at_ ∈ (l.take k).map (·.at_)) = false := decide_eq_false h9.2.2.2.2.2.2
    have h3 : decide (((l.take k).length : Int) = mostN Z) = false := decide_eq_false (by have := hv.len; rw [List.length_take]; omega)
    rw [h1]
    simp only [h2, h3]
    rw [if_neg (by simp), if_neg (by simp [brokenB]), if_neg (by simp), List.take_succ_eq_append_getElem hkl]
theorem lookTo_end {z : DevS} {F Z q : Int} {l : List Rec} (hF : 0 ≤ F) (hs : z.stable.length ≤ 256) (hv : ValidL z.stable.length F Z l) (hl : LogAt z F q l) : ∀ k, l.length < k → z.lookTo F Z q k = ⟨true, 0, l, true⟩ := by
  intro k hk
  induction k with
  | zero => omega
  | succ k ih =>
    by_cases e : l.length < k
    · show (if (z.lookTo F Z q k).stop then z.lookTo F Z q k else _) = _
      rw [ih e]; rfl
    · obtain rfl : k = l.length := by omega
      obtain ⟨g, f⟩ := hl.mark
      show (if (z.lookTo F Z q l.length).stop then z.lookTo F Z q l.length else _) = _
      rw [lookTo_log hF hs hv hl _ (Nat.le_refl _), g, f, List.take_length]
      have h1 : recIs z.stable.length F Z ⟨3, next q, shortS l.length⟩ = false := by
        unfold recIs; rw [if_pos (by left; simp)]
      rw [h1]
      simp [brokenB]
theorem look_log {z : DevS} {F Z q : Int} {l : List Rec} (hc : checkE F Z = 0) (hs : z.stable.length ≤ 256) (hh : HeadAt z F q) (hv : ValidL z.stable.length F Z l) (hl : LogAt z F q l) : z.look F Z = (0, q, l, true) := by
  have hz := checkE_zero hc
  have h1 := lookTo_end (by omega) hs hv hl (Z - 1).toNat (by have := hv.len; unfold mostN at this; omega)
  unfold DevS.look
  rw [hh.head hc]
  simp only
  rw [if_neg (by simp), h1, if_neg (by simp)]
theorem appL_nodup {q : Int} {l : List Rec} (h : (l.map (·.at_)).Nodup) : ((appL q l).map (·.1)).Nodup := by
  have e : (appL q l).map (·.1) = l.map (·.at_) := by unfold appL; rw [List.map_map]; rfl
  rw [e]; exact h
theorem apply_runs {z : DevS} {F Z q : Int} {n : Nat} {l : List Rec} (hc : checkE F Z = 0) (hF : F + Z ≤ z.stable.length) (hh : HeadAt z F q) (hv : ValidL z.stable.length F Z l) (hl : LogAt z F q l) (h : z.Runs (n + l.length)) :
    ∃ y, (z.apply F Z).2 = (0, y) ∧ y.Runs n ∧ y.stable.length = z.stable.length ∧ HeadAt y F q ∧ (∀ r ∈ l, y.ge r.at_ = 0 ∧ y.fr r.at_ = ⟨r.kind, next q, r.data⟩) ∧ (∀ b : Int, 0 ≤ b → b < z.stable.length → b ∉ l.map (·.at_) → sameFr z y b) := by
  have hz := checkE_zero hc
  have hnx := next_bds q
  have hr : ∀ r ∈ l, ¬ (F ≤ r.at_ ∧ r.at_ < F + Z) ∧ 0 ≤ r.at_ ∧ r.at_ < z.stable.length ∧ 1 ≤ r.kind ∧ r.kind ≤ 255 ∧ r.data.size ≤ 96 := fun r hm => by
    obtain ⟨k, hk, rfl⟩ := List.mem_iff_getElem.1 hm
    have h9 := hv.rec_ k hk
    exact ⟨h9.1, h9.2.1, h9.2.2.1, h9.2.2.2.1, h9.2.2.2.2.1, h9.2.2.2.2.2.1⟩
  have hlen : (appL (next q) l).length = l.length := by unfold appL; simp
  obtain ⟨i1, i2, i3, i4, i5⟩ := puts_runs (appL_nodup (q := next q) hv.nodup) l.length (x := z) (n := n) (fun p hp => by
    unfold appL at hp
    obtain ⟨r, hm, rfl⟩ := List.mem_map.1 hp
    have h9 := hr r hm
    exact ⟨h9.2.1, h9.2.2.1, h9.2.2.2.1, h9.2.2.2.2.1, by show r.data.size ≤ 112; omega, hnx.1, hnx.2⟩) (by omega) h
  have htk : (appL (next q) l).take l.length = appL (next q) l := List.take_of_length_le (by omega)
  rw [htk] at i4 i5
  have hmap : (appL (next q) l).map (·.1) = l.map (·.at_) := by unfold appL; rw [List.map_map]; rfl
  obtain ⟨f1, f2, f3⟩ := flush_same i2
  have e : z.applies q l = (0, (z.puts (appL (next q) l) l.length).2.flushed) := by
    unfold DevS.applies
    rw [show z.puts (appL (next q) l) l.length = (0, (z.puts (appL (next q) l) l.length).2) from Prod.ext i1 rfl]
    exact done_runs i2
  have hnF : F ∉ l.map (·.at_) := fun hm => by
    obtain ⟨r, hm, he⟩ := List.mem_map.1 hm
    have := (hr r hm).1
    omega
  refine ⟨(z.puts (appL (next q) l) l.length).2.flushed, ?_, f1, f2.trans i3, ?_, fun r hm => ?_, fun b h1 h2 h3 => ?_⟩
  · unfold DevS.apply
    rw [look_log hc h.ok.hi hh hv hl]
    rw [if_neg (by simp), if_neg (by simp), e]
    rw [if_neg (by simp)]
  · exact (hh.same (i5 F (by omega) (by omega) (by rw [hmap]; exact hnF))).same (f3 F (by omega) (by rw [i3]; omega))
  · have h4 := i4 (r.at_, ⟨r.kind, next q, r.data⟩) (List.mem_map.2 ⟨r, hm, rfl⟩)
    have h5 := f3 r.at_ (hr r hm).2.1 (by rw [i3]; exact (hr r hm).2.2.1)
    exact ⟨h5.1.trans h4.1, h5.2.trans h4.2⟩
  · exact (i5 b h1 h2 (by rw [hmap]; exact h3)).trans (f3 b h1 (by rw [i3]; exact h2))
/-- Commit on a device that has power. -/
theorem commit_runs {x : DevS} {F Z q : Int} {n : Nat} {l : List Rec} (hc : checkE F Z = 0) (hF : F + Z ≤ x.stable.length) (hh : HeadAt x F q) (hv0 : validE x.stable.length F Z l = 0) (h : x.Runs (n + 1 + l.length + 1 + l.length)) :
    ∃ y, x.commit F Z l = (0, y) ∧ y.Runs n ∧ y.stable.length = x.stable.length ∧ HeadAt y F (next q) ∧ (∀ r ∈ l, y.ge r.at_ = 0 ∧ y.fr r.at_ = ⟨r.kind, next q, r.data⟩) ∧ (∀ b : Int, 0 ≤ b → b < x.stable.length → (b < F ∨ F + Z ≤ b) → b ∉ l.map (·.at_) → sameFr x y b) := by
  have hz := checkE_zero hc
  have hv := validL hv0
  have hnx := next_bds q
  obtain ⟨z, ez, z1, z2, z3, z4, z5⟩ := log_runs (n := n + 1 + l.length) hc hF hh hv hv0 h
  obtain ⟨y, ey, y1, y2, y3, y4, y5⟩ := apply_runs (n := n + 1) hc (by rw [z2]; exact hF) z3 (by rw [z2]; exact hv) z4 z1
  obtain ⟨j1, j2⟩ := put_runs y1 (a := F) (kind := 1) (seq := next q) (s := ⟨#[]⟩) (by rw [y2, z2]; omega) (by omega) (Nat.zero_le _) hnx
  obtain ⟨f1, f2, f3⟩ := flush_same j2.runs
  have hsz : y.stable.length = x.stable.length := y2.trans z2
  have hall : ∀ b : Int, 0 ≤ b → b < x.stable.length → b ≠ F → sameFr y (y.put F 1 (next q) ⟨#[]⟩).2.flushed b := fun b h1 h2 h3 => (j2.old b h1 (by rw [hsz]; exact h2) h3).trans (f3 b h1 (by rw [j2.size, hsz]; exact h2))
  have hr : ∀ r ∈ l, 0 ≤ r.at_ ∧ r.at_ < x.stable.length ∧ r.at_ ≠ F := fun r hm => by
    obtain ⟨k, hk, rfl⟩ := List.mem_iff_getElem.1 hm
    have h9 := hv.rec_ k hk
    exact ⟨h9.2.1, h9.2.2.1, fun e => h9.1 (by omega)⟩
  refine ⟨(y.put F 1 (next q) ⟨#[]⟩).2.flushed, ?_, f1, f2.trans (j2.size.trans hsz), ?_, fun r hm => ?_, fun b h1 h2 h3 h4 => ?_⟩
  · unfold DevS.commit
    rw [ez]
    simp only
    rw [if_neg (by simp), ey]
    simp only
    rw [if_neg (by simp)]
    unfold DevS.clear
    rw [y3.head hc]
    simp only
    rw [if_neg (by simp), show y.put F 1 (next q) ⟨#[]⟩ = (0, (y.put F 1 (next q) ⟨#[]⟩).2) from Prod.ext j1 rfl]
    exact done_runs j2.runs
  · have h5 := f3 F (by omega) (by rw [j2.size, hsz]; omega)
    exact ⟨h5.1.trans j2.new.1, h5.2.trans j2.new.2⟩
  · have h5 := hall r.at_ (hr r hm).1 (hr r hm).2.1 (hr r hm).2.2
    have h6 := y4 r hm
    exact ⟨h5.1.trans h6.1, h5.2.trans h6.2⟩
  · exact ((z5 b h1 h2 h3).trans (y5 b h1 (by rw [z2]; exact h2) h4)).trans (hall b h1 h2 (by omega))

/-! A device that was formatted. -/
theorem newDev_runs {n : Nat} (hn : 64 ≤ n ∧ n ≤ 256) (N : Nat) (hN : N ≤ 1000000000000) : (newDev n).Runs N := ⟨newDev_ok hn, rfl, rfl, by show (0 : Int) + N ≤ _; omega⟩
theorem freeRec_valid {s j i : Int} (h : rgE s j i = 0) : validE s 1 j [freeRec s j i] = 0 := by
  have hb := rg_bds h
  have hr : recE s 1 j [] (freeRec s j i) = 0 := by
    unfold recE freeRec
    rw [if_neg (by show ¬ (1 ≤ 1 + j ∧ 1 + j < 1 + j); omega), if_neg (by show ¬ (1 + j < 0 ∨ s ≤ 1 + j ∨ (5 : Int) < 1 ∨ 255 < (5 : Int)); omega), if_neg (by simp only [mapS_size]; omega), if_neg (by simp)]
  unfold validE
  rw [if_neg (by show ¬ mostN j < ((1 : Nat) : Int); unfold mostN; omega)]
  show (if validTo s 1 j [freeRec s j i] 0 ≠ 0 then _ else recE s 1 j [] (freeRec s j i)) = 0
  rw [if_neg (by show ¬ ((0 : Int) ≠ 0); simp), hr]

/-- The device behind New and Format. -/
structure Fresh (y : DevS) (s j i : Int) (N : Nat) : Prop where
  runs : y.Runs N
  size : (y.stable.length : Int) = s
  head : HeadAt y 1 1
  map_ : y.ge (1 + j) = 0 ∧ y.fr (1 + j) = ⟨5, 1, mapS (List.replicate (rgB s j i).toNat false)⟩
  blank : ∀ a : Int, (a = 0 ∨ 2 + j ≤ a) → a < s → y.ge a = 70
theorem format_fresh {s j i : Int} (h : rgE s j i = 0) (N : Nat) (hN : N ≤ 100000000000) : ∃ y, (newDev s.toNat).tfmt s j i = (0, y) ∧ Fresh y s j i N := by
  have hb := rg_bds h
  have hsz : ((newDev s.toNat).stable.length : Int) = s := by show ((List.replicate s.toNat zsec).length : Int) = s; rw [List.length_replicate]; omega
  have hck : checkE 1 j = 0 := by unfold checkE; rw [if_neg (by omega)]
  obtain ⟨x1, e1, r1, s1, h1, -, o1⟩ := jfmt_runs (x := newDev s.toNat) (F := 1) (Z := j) (n := N + 1 + 1 + 1 + 1) hck (by rw [hsz]; omega) (newDev_runs (by omega) _ (by omega))
  have s1' : (x1.stable.length : Int) = s := by rw [s1]; exact hsz
  obtain ⟨y, e2, r2, s2, h2, w2, o2⟩ := commit_runs (x := x1) (F := 1) (Z := j) (q := 0) (n := N) (l := [freeRec s j i]) hck (by rw [s1']; omega) h1 (by rw [s1']; exact freeRec_valid h) r1
  refine ⟨y, ?_, ⟨r2, by rw [s2]; exact s1', h2, w2 (freeRec s j i) (by simp), fun a ha1 ha2 => ?_⟩⟩
  · unfold DevS.tfmt
    have hf : findE (newDev s.toNat).stable.length s j i = 0 := by
      unfold findE; rw [if_neg (by simpa using h), if_neg (by omega), if_neg (by rw [hsz]; simp)]
    rw [if_neg (by simpa using hf), e1]
    simp only
    rw [if_neg (by simp), e2]
  · have hg : (newDev s.toNat).ge a = 70 := newDev_ge (by omega) (by omega)
    have h3 := o1 a (by omega) (by rw [hsz]; exact ha2) (by omega)
    have h4 := o2 a (by omega) (by rw [s1']; exact ha2) (by omega) (by
      intro hm
      simp only [List.map_cons, List.map_nil, List.mem_cons, List.mem_nil_iff, or_false] at hm
      have : a = 1 + j := hm
      omega)
    exact h4.1.trans (h3.1.trans hg)
/-- A transaction that has begun on it. -/
def freeTx (s j i : Int) : TxS := ⟨s, j, i, List.replicate (rgB s j i).toNat false, List.replicate (rgB s j i).toNat false, [], false, false, false⟩
theorem begin_fresh {y : DevS} {s j i : Int} {N : Nat} (h : rgE s j i = 0) (hy : Fresh y s j i N) : (∀ E, y.beginE s j i E ↔ E = 0) ∧ y.begins s j i = freeTx s j i ∧ (y.fr (1 + j)).data.size ≤ 1000 := by
  have hb := rg_bds h
  have hB : rgB s j i = s - (2 + j + i) := (rg_ok h).2.2.2.2
  have hl : (List.replicate (rgB s j i).toNat false).length = (rgB s j i).toNat := List.length_replicate ..
  have hst : strL (mapS (List.replicate (rgB s j i).toNat false)) = encL (List.replicate (rgB s j i).toNat false) (List.replicate (rgB s j i).toNat false).length := strL_str (encL_bytes _ _)
  have hde := dec_enc (us := List.replicate (rgB s j i).toNat false) (by rw [hl]; omega)
  rw [← hst, hl] at hde
  have hmo : mapOk (y.fr (1 + j)).data (rgB s j i).toNat := by
    rw [hy.map_.2]
    exact ⟨by rw [hst, encL_length], hde.2⟩
  have hf : findE y.stable.length s j i = 0 := by
    unfold findE; rw [if_neg (by simpa using h), if_neg (by have := hy.size; omega), if_neg (by have := hy.size; omega)]
  refine ⟨fun E => ⟨fun hE => ?_, fun hE => ?_⟩, ?_, ?_⟩
  · rcases hE with ⟨h1, -⟩ | ⟨-, h1, -⟩ | ⟨-, -, h1, -⟩ | ⟨-, -, -, -, h1⟩
    · exact absurd hf h1
    · exact absurd hy.map_.1 h1
    · exact absurd ⟨hmo, by rw [hy.map_.2]⟩ h1
    · exact h1
  · exact .inr (.inr (.inr ⟨hf, hy.map_.1, hmo, by rw [hy.map_.2], hE⟩))
  · unfold DevS.begins freeTx
    rw [hy.map_.2]
    simp only
    rw [hde.1]
  · rw [hy.map_.2]
    show (mapS _).size ≤ 1000
    rw [mapS_size]; omega

end Go.Proofs.YtjocnooekgnedaaGreatDoor
/- Layer 11 in plain words: the whole table; Alloc. No program in sight. -/
namespace Go.Proofs.YtjocnooekgnedaaGreatDoor
open Go.RowKit Go.Maps

/-- The inodes of a transaction, by their numbers from 1 on. -/
structure Tab (y : TxS) (x : DevS) (vs : List Ino) : Prop where
  len : (vs.length : Int) = y.i
  get : ∀ k, k < vs.length → y.iget x ((k : Int) + 1) = (vs.getD k ino0, 0)
theorem tab_put {y : TxS} {x : DevS} {vs : List Ino} (ok : y.Ok) (hs : y.stateE = 0) (h : Tab y x vs) {n : Int} {v : Ino} (h0 : (y.iput n v).1 = 0) : (1 ≤ n ∧ n ≤ vs.length) ∧ Tab (y.iput n v).2 x (vs.set (n - 1).toNat v) := by
  obtain ⟨hn, -, hp⟩ := iput_good (x := x) ok hs h0
  have hl := h.len
  refine ⟨by omega, ⟨by rw [List.length_set, hp.same.2.2]; exact hl, fun k hk => ?_⟩⟩
  rw [List.length_set] at hk
  by_cases e : (k : Int) + 1 = n
  · subst e
    rw [hp.mine, show ((k : Int) + 1 - 1).toNat = k by omega, List.getD_eq_getElem?_getD, List.getElem?_set_self hk]
    rfl
  · rw [hp.far _ (by omega) (by omega) e, h.get k hk, List.getD_eq_getElem?_getD, List.getD_eq_getElem?_getD, List.getElem?_set_ne (by omega)]
theorem tab_fresh {x : DevS} {s j i : Int} {N : Nat} (hr : rgE s j i = 0) (hF : Fresh x s j i N) : Tab (freeTx s j i) x (List.replicate i.toNat ino0) := by
  have hb := rg_bds hr
  refine ⟨by rw [List.length_replicate]; show ((i.toNat : Nat) : Int) = i; omega, fun k hk => ?_⟩
  rw [List.length_replicate] at hk
  have hrd := read_tab (y := freeTx s j i) (x := x) (show (0 : Int) ≤ j by omega) rfl (n := (k : Int) + 1) (by show 1 + j < 2 + j + ((k : Int) + 1) - 1 ∧ 2 + j + ((k : Int) + 1) - 1 < s; omega)
  have hbl : x.ge (tabAt (freeTx s j i) ((k : Int) + 1)) = 70 := hF.blank _ (.inr (by show 2 + j ≤ 2 + j + ((k : Int) + 1) - 1; omega)) (by show 2 + j + ((k : Int) + 1) - 1 < s; omega)
  rw [show atRec (freeTx s j i).writes (tabAt (freeTx s j i) ((k : Int) + 1)) = none from rfl] at hrd
  simp only at hrd
  unfold TxS.iget
  rw [hrd]
  simp only
  rw [if_pos hbl, List.getD_eq_getElem?_getD, List.getElem?_replicate, if_pos hk]
  rfl

/-- Alloc, from a number on: its number, its error, the transaction. -/
def TxS.ialTo (y : TxS) (x : DevS) (v : Ino) (m : Nat) : Nat → Int × Int × TxS
  | 0 => (0, 11, y)
  | k + 1 =>
    if (y.iget x ((m - (k + 1) : Nat) + 1)).2 ≠ 0 then (0, (y.iget x ((m - (k + 1) : Nat) + 1)).2, y)
    else if (y.iget x ((m - (k + 1) : Nat) + 1)).1.kind = 0 then
      (if (y.iput ((m - (k + 1) : Nat) + 1) v).1 ≠ 0 then (0, (y.iput ((m - (k + 1) : Nat) + 1) v).1, (y.iput ((m - (k + 1) : Nat) + 1) v).2) else ((m - (k + 1) : Nat) + 1, 0, (y.iput ((m - (k + 1) : Nat) + 1) v).2))
    else y.ialTo x v m k
def TxS.ialloc (y : TxS) (x : DevS) (v : Ino) : Int × Int × TxS :=
  if y.stateE ≠ 0 then (0, y.stateE, y) else if inoE y.s y.j y.i v ≠ 0 then (0, inoE y.s y.j y.i v, y) else if v.kind = 0 then (0, 14, y)
  else y.ialTo x v y.i.toNat y.i.toNat
/-- Alloc takes the first number that is free. -/
theorem ialTo_first {y : TxS} {x : DevS} {vs : List Ino} (h : Tab y x vs) (v : Ino) : ∀ k, k ≤ vs.length → ∀ f, vs.length - k ≤ f → f < vs.length → (vs.getD f ino0).kind = 0 → (∀ g, vs.length - k ≤ g → g < f → (vs.getD g ino0).kind ≠ 0) →
    y.ialTo x v vs.length k = if (y.iput ((f : Int) + 1) v).1 ≠ 0 then (0, (y.iput ((f : Int) + 1) v).1, (y.iput ((f : Int) + 1) v).2) else ((f : Int) + 1, 0, (y.iput ((f : Int) + 1) v).2) := by
  intro k
  induction k with
  | zero => intro _ f h1 h2; omega
  | succ k ih =>
    intro hk f h1 h2 h3 h4
    unfold TxS.ialTo
    have hg := h.get (vs.length - (k + 1)) (by omega)
    rw [hg]
    simp only
    rw [if_neg (by simp)]
    by_cases e : vs.length - (k + 1) = f
    · rw [e, if_pos h3]
    · rw [if_neg (h4 _ (Nat.le_refl _) (by omega))]
      exact ih (by omega) f (by omega) h2 h3 (fun g g1 g2 => h4 g (by omega) g2)
theorem ialTo_none {y : TxS} {x : DevS} {vs : List Ino} (h : Tab y x vs) (v : Ino) : ∀ k, k ≤ vs.length → (∀ g, vs.length - k ≤ g → g < vs.length → (vs.getD g ino0).kind ≠ 0) → y.ialTo x v vs.length k = (0, 11, y) := by
  intro k
  induction k with
  | zero => intro _ _; rfl
  | succ k ih =>
    intro hk h4
    unfold TxS.ialTo
    have hg := h.get (vs.length - (k + 1)) (by omega)
    rw [hg]
    simp only
    rw [if_neg (by simp), if_neg (h4 _ (Nat.le_refl _) (by omega))]
    exact ih (by omega) (fun g g1 g2 => h4 g (by omega) g2)
end Go.Proofs.YtjocnooekgnedaaGreatDoor
/- Layer 11: open. -/
namespace Go.Proofs.YtjocnooekgnedaaGreatDoor
open Go.RowKit Go.Maps

abbrev inoC (v : Ino) (bv av : Value) : Array Value := #[.int .i64 v.kind, .int .i64 v.links, .int .i64 v.size, .int .i64 v.major, .int .i64 v.minor, .int .i64 v.parent, bv, av]
abbrev layC (y : TxS) : Array Value := #[.int .i64 y.s, .int .i64 y.j, .int .i64 y.i]

abbrev lay0 : Array Value := #[.int .i64 0, .int .i64 0, .int .i64 0]
set_option maxRecDepth 100000 in
set_option maxHeartbeats 2000000 in
theorem iopen_bad (tv : Value) (E : Int) (w : World) (h : StE w tv E) (hE : E ≠ 0) :
    Calls Tryz.prog 49 #[tv] w fun e w' => e = .returned (.tuple #[.agg lay0, .int .i64 0, .int .i64 E]) ∧ Below w.heap.size w w' := by
  obtain ⟨wA, hA⟩ : ∃ wA, wA = w.alloc (.cells lay0 23) := ⟨_, rfl⟩
  have bR : Blk wA w.heap.size 23 lay0 := by rw [hA]; exact (by (repeat' (first | (with_reducible assumption) | exact Blk.new' (by simp) | refine Blk.alloc ?_ _)))
  have BA : Below w.heap.size w wA := by rw [hA]; (repeat' (first | (with_reducible exact Below.refl _ _) | (with_reducible assumption) | (with_reducible refine Below.alloc ?_ ?_ _) | (with_reducible refine Below.drew ?_) | (with_reducible refine below_drewN' ?_ _) | (with_reducible refine Below.setCell ?_ ?_ _) | (with_reducible exact Nat.le_refl _) | omega | (simp; done) | (simp; omega)))
  have hbl := blocks_bad tv E wA (h.below BA) hE
  have hE' : (E != 0) = true := by simpa using hE
  clear hE h
  go_enter Tryz.func49, Tryz.ntmps49
  go_wp2_with fail
  rw [← hA]
  clear hA
  go_wp2_with fail
  refine hbl.mono ?_
  rintro e w1 ⟨rfl, hb1⟩
  obtain ⟨w2, hw2⟩ : ∃ w2, w1.alloc (.cells #[.int .i64 0, .int .i64 0, .int .i64 0, .slice none 0 0] 58) = w2 := ⟨_, rfl⟩
  have b12 : Below w1.heap.size w1 w2 := by rw [← hw2]; exact (Below.refl _ _).alloc (Nat.le_refl _) _
  have bR2 : Blk w2 w.heap.size 23 lay0 := (bR.belowAll hb1).belowAll b12
  have B1 := BA.trans (hb1.mono BA.size)
  have B2 := B1.trans (b12.mono B1.size)
  have hst := storeRow (ty := 23) (vs := lay0) bR2 rfl (by simp [Value.oneCell']) (by kernel_rfl)
  have HW := Lib.hid hw2
  clear hw2 b12 hbl bR BA hb1 B1
  go_upto_region 2 with fail
  rw [HW.out]
  go_wp2_with (refine wpList_storeBy rfl _ _ _ rfl _ _ rfl rfl hst ?_)
  have cF := (bR2.setRow (cs' := lay0)).cells
  refine bodyPost_ret (v := .tuple #[.agg lay0, .int .i64 0, .int .i64 E]) (by simp [results, Tryz.results49, go_sem, cF]) rfl ?_
  exact ⟨rfl, Below.setRow B2 (Nat.le_refl _) _⟩
set_option maxRecDepth 100000 in
set_option maxHeartbeats 2000000 in
theorem iopen_tx (T : Nat) (F : List Nat) (D : Nat) (y : TxS) (w : World) (h : TxAt w T F D y) (hE : y.stateE = 0) :
    Calls Tryz.prog 49 #[.pointer (some ⟨T, 0, none⟩)] w fun e w' => e = .returned (.tuple #[.agg (layC y), .int .i64 (2 + y.j), .int .i64 0]) ∧ Below w.heap.size w w' := by
  have hrg := h.ok.rg
  obtain ⟨wA, hA⟩ : ∃ wA, wA = w.alloc (.cells lay0 23) := ⟨_, rfl⟩
  have bR : Blk wA w.heap.size 23 lay0 := by rw [hA]; exact (by (repeat' (first | (with_reducible assumption) | exact Blk.new' (by simp) | refine Blk.alloc ?_ _)))
  have BA : Below w.heap.size w wA := by rw [hA]; (repeat' (first | (with_reducible exact Below.refl _ _) | (with_reducible assumption) | (with_reducible refine Below.alloc ?_ ?_ _) | (with_reducible refine Below.drew ?_) | (with_reducible refine below_drewN' ?_ _) | (with_reducible refine Below.setCell ?_ ?_ _) | (with_reducible exact Nat.le_refl _) | omega | (simp; done) | (simp; omega)))
  have hbl := blocks_tx T F D y wA (h.below BA) hE
  clear hE h
  go_enter Tryz.func49, Tryz.ntmps49
  go_wp2_with fail
  rw [← hA]
  clear hA
  go_wp2_with fail
  refine hbl.mono ?_
  rintro e w1 ⟨v, rfl, ho, hb1⟩
  obtain ⟨g, cg, rfl⟩ := own_slice ho
  obtain ⟨w2, hw2⟩ : ∃ w2, w1.alloc (.cells #[.int .i64 y.s, .int .i64 y.j, .int .i64 y.i, .slice g y.now.length cg] 58) = w2 := ⟨_, rfl⟩
  obtain ⟨N2, hN2⟩ : ∃ N2, w1.heap.size = N2 := ⟨_, rfl⟩
  have b12 : Below w1.heap.size w1 w2 := by rw [← hw2]; exact (Below.refl _ _).alloc (Nat.le_refl _) _
  have bS2 : Blk w2 N2 58 #[.int .i64 y.s, .int .i64 y.j, .int .i64 y.i, .slice g y.now.length cg] := by rw [← hw2, ← hN2]; exact Blk.new _ _ _
  have bR2 : Blk w2 w.heap.size 23 lay0 := (bR.belowAll hb1).belowAll b12
  have B1 := BA.trans (hb1.mono BA.size)
  have B2 := B1.trans (b12.mono B1.size)
  have BA0 : Hid (w.heap.size < N2) := Lib.hid (by have := bR.lt; have := hb1.size; omega)
  have hrc := regions_any y.s y.j y.i w2
  unfold RgPost rgV at hrc
  obtain ⟨r1, r2, r3, r4, r5⟩ := rg_ok hrg
  rw [hrg, r1, r2, r3, r4, r5] at hrc
  have HW := Lib.hid hw2
  have HN := Lib.hid hN2
  clear hw2 b12 hbl bR BA hb1 B1 ho hN2 r1 r2 r3 r4 r5 hrg
  go_upto_region 2 with fail
  rw [HW.out, HN.out]
  have cS := bS2.cells
  have lS := bS2.lt
  go_wp2_with fail
  refine hrc.mono ?_
  rintro e w3 ⟨rfl, hb3⟩
  obtain ⟨w4, hw4⟩ : ∃ w4, w3.alloc (.cells #[.int .i64 1, .int .i64 (1 + y.j), .int .i64 (2 + y.j), .int .i64 (2 + y.j + y.i), .int .i64 (y.s - (2 + y.j + y.i))] 53) = w4 := ⟨_, rfl⟩
  obtain ⟨N4, hN4⟩ : ∃ N4, w3.heap.size = N4 := ⟨_, rfl⟩
  have b34 : Below w3.heap.size w3 w4 := by rw [← hw4]; exact (Below.refl _ _).alloc (Nat.le_refl _) _
  have bG : Blk w4 N4 53 #[.int .i64 1, .int .i64 (1 + y.j), .int .i64 (2 + y.j), .int .i64 (2 + y.j + y.i), .int .i64 (y.s - (2 + y.j + y.i))] := by rw [← hw4, ← hN4]; exact Blk.new _ _ _
  have b24 : Below w2.heap.size w2 w4 := hb3.trans (b34.mono hb3.size)
  have bS4 := bS2.belowAll b24
  have bR4 := bR2.belowAll b24
  have B4 := B2.trans (b24.mono B2.size)
  have hNR : N2 ≠ w.heap.size := by have := BA0.out; omega
  have hN4R : N4 ≠ w.heap.size := by have := B2.size; have := hb3.size; have := bS2.lt; have := BA0.out; omega
  have HW4 := Lib.hid hw4
  have HN4 := Lib.hid hN4
  clear cS lS hrc hb3 b34 hw4 hN4 b24 bS2 bR2 B2
  go_upto_region 5 with fail
  rw [HW4.out, HN4.out]
  have hs : ∀ V, Blk V N2 58 #[.int .i64 y.s, .int .i64 y.j, .int .i64 y.i, .slice g y.now.length cg] → Blk V N4 53 #[.int .i64 1, .int .i64 (1 + y.j), .int .i64 (2 + y.j), .int .i64 (2 + y.j + y.i), .int .i64 (y.s - (2 + y.j + y.i))] → (fun V => V.cell? ⟨N2, 0, none⟩ = some (.int .i64 y.s) ∧ V.cell? ⟨N2, 1, none⟩ = some (.int .i64 y.j) ∧ V.cell? ⟨N2, 2, none⟩ = some (.int .i64 y.i) ∧ V.cell? ⟨N4, 2, none⟩ = some (.int .i64 (2 + y.j))) V := fun V b1 b2 => ⟨(b1.cells 0).trans rfl, (b1.cells 1).trans rfl, (b1.cells 2).trans rfl, (b2.cells 2).trans rfl⟩
  refine wp_region_mix [.take 0, .take 1, .take 2, .take 3, .take 4, .one 5, .one 6, .one 7] 8 (fun V => V.cell? ⟨N2, 0, none⟩ = some (.int .i64 y.s) ∧ V.cell? ⟨N2, 1, none⟩ = some (.int .i64 y.j) ∧ V.cell? ⟨N2, 2, none⟩ = some (.int .i64 y.i) ∧ V.cell? ⟨N4, 2, none⟩ = some (.int .i64 (2 + y.j))) (by kernel_rfl) (by kernel_rfl) (fun _ _ _ _ _ h => h) (hs _ bS4.drew bG.drew) ?_
  simp only [List.map_cons, List.map_nil, Ms.fill, List.getD_cons_zero, List.getD_cons_succ]
  iterate 5 (refine mixT_take (by rfl) ?_ (fun w' hw' => ?_) ?_; rotate_left; (focus (go_simp; (try with_reducible rfl))); (try simp only [Act.put, List.setIfInBounds_toArray, List.set_cons_zero, List.set_cons_succ]))
  refine mixT_step (by rfl) fun K hK => ?_
  have hst := storeRow (ty := 23) (vs := layC y) bR4.drew rfl (by simp [Value.oneCell']) (by kernel_rfl)
  refine op_storeBy _ _ _ rfl _ _ rfl rfl hst ?_
  have hs5 := hs (w4.drew.setRow w.heap.size (layC y)) ((setRow_other _ _ _ _ hNR).trans bS4.drew) ((setRow_other _ _ _ _ hN4R).trans bG.drew)
  refine hK _ _ (fun _ => hs5) ?_
  clear hK K
  refine mixT_step (by rfl) fun K hK => ?_
  go_simp
  refine hK _ _ (fun _ => hs5) ?_
  clear hK K
  refine mixT_step (by rfl) fun K hK => ?_
  go_simp
  refine hK _ _ (fun _ => hs5) ?_
  clear hK K
  refine mixT_nil ?_
  have cF := (bR4.drew.setRow (cs' := layC y)).cells
  go_wp2_with fail
  refine bodyPost_ret (v := .tuple #[.agg (layC y), .int .i64 (2 + y.j), .int .i64 0]) (by simp [results, Tryz.results49, go_sem, cF]) rfl ?_
  exact ⟨rfl, Below.setRow B4.drew (Nat.le_refl _) _⟩
end Go.Proofs.YtjocnooekgnedaaGreatDoor
/- Layer 11: get, given what Decode returns. -/
namespace Go.Proofs.YtjocnooekgnedaaGreatDoor
open Go.RowKit Go.Maps

theorem fr_small {x : DevS} (ok : x.Ok) (a : Int) : (x.fr a).data.size ≤ 1000 := by
  unfold DevS.fr
  split
  · rename_i h
    have hat : Go.Proofs.YtjocnooekgnedaaGreatDoor.atE x.off x.stable.length a = 0 := by
      have h2 : getE x.off x.stable.length a (x.reads a) = 0 := h
      unfold getE at h2
      split at h2
      · assumption
      · exact h2
    have hr := ok.reads (atE_zero hat)
    show (openStr _).size ≤ 1000
    unfold openStr
    rw [strOfNums_size, List.length_drop, List.length_take]
    have := hr.1
    omega
  · exact (by decide : (⟨#[]⟩ : ByteArray).size ≤ 1000)
theorem read_small {y : TxS} {x : DevS} (ok : y.Ok) (okx : x.Ok) (a : Int) : (y.read x a).2.1.size ≤ 1000 := by
  unfold TxS.read
  split
  · exact (by decide : (⟨#[]⟩ : ByteArray).size ≤ 1000)
  · split
    · exact (by decide : (⟨#[]⟩ : ByteArray).size ≤ 1000)
    · unfold TxS.readR TxS.look
      split
      · rename_i r hr
        split at hr
        · cases hr
          show (mapS _).size ≤ 1000
          rw [mapS_size]; omega
        · have h := (ok.recs r (atRec_mem hr).1).2.2.2.2
          have e : r.data.size = r.data.data.size := rfl
          show r.data.size ≤ 1000
          omega
      · exact fr_small okx a
abbrev inoZ : Array Value := #[.int .i64 0, .int .i64 0, .int .i64 0, .int .i64 0, .int .i64 0, .int .i64 0, .slice none 0 0, .slice none 0 0]
/-- An inode that is handed back, with its error. -/
def InoPost (w : World) (r : Ino × Int) (e : Ending) (w' : World) : Prop :=
  ∃ bv av, e = .returned (.tuple #[.agg (inoC r.1 bv av), .int .i64 r.2]) ∧ w'.ownsRow w.heap.size 3 1 bv r.1.blocks.length (r.1.blocks.map (.int .i64)) ∧ w'.ownsRow w.heap.size 3 1 av r.1.attrs.length (r.1.attrs.map (.int .i64)) ∧ Below w.heap.size w w'
/-- The contract of Decode. -/
def DecodeAll : Prop := ∀ (s j i : Int) (A : Option Addr) (c : Nat) (b : List Int) (w : World), rgE s j i = 0 → b.length ≤ 1000 → b.length ≤ c → (∀ n ∈ b, 0 ≤ n ∧ n < 256) → Reads w A (b.map (.int .u8)) →
  Calls Tryz.prog 16 #[.agg #[.int .i64 s, .int .i64 j, .int .i64 i], .slice A b.length c] w (InoPost w (decE s j i b))
theorem own_none (w : World) (base : Nat) : w.ownsRow base 3 1 (.slice none 0 0) 0 [] := ⟨rfl, .inl ⟨rfl, rfl⟩⟩
theorem ino_none {w w' : World} (E : Int) (hb : Below w.heap.size w w') : InoPost w (ino0, E) (.returned (.tuple #[.agg inoZ, .int .i64 E])) w' := ⟨.slice none 0 0, .slice none 0 0, rfl, own_none _ _, own_none _ _, hb⟩

set_option maxRecDepth 100000 in
set_option maxHeartbeats 4000000 in
theorem get_tx (hD : DecodeAll) (T : Nat) (F : List Nat) (D : Nat) (y : TxS) (B : List Nat) (x : DevS) (n : Int) (w : World) (h : TxAt w T F D y) (hd : DevAt w D B x) (hs : y.stateE = 0) (hn : 1 ≤ n ∧ n ≤ y.i) :
    Calls Tryz.prog 52 #[.pointer (some ⟨T, 0, none⟩), .agg (layC y), .int .i64 (2 + y.j), .int .i64 n] w (InoPost w (y.iget x n)) := by
  have hbd := h.ok.bds
  have hrg := h.ok.rg
  obtain ⟨wA, hA⟩ : ∃ wA, wA = (w.alloc (.cells (layC y) 23)).alloc (.cells inoZ 26) := ⟨_, rfl⟩
  have bL : Blk wA w.heap.size 23 (layC y) := by rw [hA]; exact (Blk.new _ _ _).alloc _
  have bR : Blk wA (w.heap.size + 1) 26 inoZ := by rw [hA]; exact Blk.new' (by simp)
  have BA : Below w.heap.size w wA := by rw [hA]; (repeat' (first | (with_reducible exact Below.refl _ _) | (with_reducible assumption) | (with_reducible refine Below.alloc ?_ ?_ _) | (with_reducible refine Below.drew ?_) | (with_reducible refine below_drewN' ?_ _) | (with_reducible refine Below.setCell ?_ ?_ _) | (with_reducible exact Nat.le_refl _) | omega | (simp; done) | (simp; omega)))
  have hrd := read_tx T F D y B x (tabAt y n) wA (h.below BA) (hd.below BA)
  have HG : Hid (y.iget x n = if (y.read x (tabAt y n)).2.2 = 70 then (ino0, 0) else if (y.read x (tabAt y n)).2.2 ≠ 0 then (ino0, (y.read x (tabAt y n)).2.2) else if (y.read x (tabAt y n)).1 ≠ 6 then (ino0, 6) else decE y.s y.j y.i (strL (y.read x (tabAt y n)).2.1)) := Lib.hid rfl
  have m1 : IntKind.i64.wrap (2 + y.j + n) = 2 + y.j + n := by rw [IntKind.wrap_i64]; omega
  have m2 : IntKind.i64.wrap (2 + y.j + n - 1) = 2 + y.j + n - 1 := by rw [IntKind.wrap_i64]; omega
  have hsz : (y.read x (tabAt y n)).2.1.size ≤ 1000 := read_small h.ok hd.ok _
  generalize y.iget x n = res at *
  generalize y.read x (tabAt y n) = r at *
  obtain ⟨rk, rdt, rE⟩ := r
  simp only at HG hrd hsz
  unfold tabAt at hrd
  have HRG := Lib.hid hrg
  clear h hd hs hn hbd hrg
  go_enter Tryz.func52, Tryz.ntmps52
  go_wp2_with fail
  rw [← hA]
  clear hA
  go_wp2_with fail
  refine hrd.mono ?_
  rintro e w1 ⟨rfl, hb1⟩
  have bL1 := bL.belowAll hb1
  have bR1 := bR.belowAll hb1
  have B1 := BA.trans (hb1.mono BA.size)
  have lR := bR1.lt
  have hst := storeRow (ty := 26) (vs := inoZ) bR1 rfl (by simp [Value.oneCell']) (by kernel_rfl)
  have cF := (bR1.setRow (cs' := inoZ)).cells
  have CF := Lib.hid cF
  have B2 := Below.setRow (cs := inoZ) B1 (show w.heap.size ≤ w.heap.size + 1 by omega)
  have HB2 := Lib.hid B2
  clear hrd hb1 bL bR BA m1 m2 cF B2
  by_cases e70 : rE = 70
  · subst e70
    rw [if_pos rfl] at HG
    go_wp2_with (refine wpList_storeBy rfl _ _ _ rfl _ _ rfl rfl hst ?_)
    have cF := CF.out
    refine bodyPost_ret (v := .tuple #[.agg inoZ, .int .i64 0]) (by simp [results, Tryz.results52, go_sem, cF]) rfl ?_
    rw [HG.out]
    exact ino_none 0 HB2.out
  · have d70 : (rE == 70) = false := by simpa using e70
    rw [if_neg e70] at HG
    by_cases e0 : rE = 0
    rotate_left
    · have d0 : (rE != 0) = true := by simpa using e0
      rw [if_pos e0] at HG
      clear e0 e70
      go_wp2_with (refine wpList_storeBy rfl _ _ _ rfl _ _ rfl rfl hst ?_)
      have cF := CF.out
      refine bodyPost_ret (v := .tuple #[.agg inoZ, .int .i64 rE]) (by simp [results, Tryz.results52, go_sem, cF]) rfl ?_
      rw [HG.out]
      exact ino_none rE HB2.out
    · subst e0
      rw [if_neg (by simp)] at HG
      by_cases e6 : rk = 6
      rotate_left
      · have d6 : (rk != 6) = true := by simpa using e6
        rw [if_pos e6] at HG
        clear e6 e70
        go_wp2_with (refine wpList_storeBy rfl _ _ _ rfl _ _ rfl rfl hst ?_)
        have cF := CF.out
        refine bodyPost_ret (v := .tuple #[.agg inoZ, .int .i64 6]) (by simp [results, Tryz.results52, go_sem, cF]) rfl ?_
        rw [HG.out]
        exact ino_none 6 HB2.out
      · subst e6
        rw [if_neg (by simp)] at HG
        obtain ⟨wv, cv, hcv, hbv, hrv⟩ := conv_str w1 rdt
        have hlen : (strL rdt).length = rdt.size := strL_length rdt
        have hcc : (strL rdt).length ≤ cv := by
          have h1 := run_bytes_of_string w1 9 29 5 rdt Tryz.underlying9 Tryz.underlying29 Tryz.underlying5
          rw [hcv] at h1
          injection h1 with h1 _
          injection h1 with _ _ h1
          rw [h1, strL_length]
          exact grownCap_ge w1 rdt.size 0 5
        have hdc := hD y.s y.j y.i (some ⟨w1.heap.size, 0, none⟩) cv (strL rdt) wv HRG.out (by omega) hcc (strL_bytes rdt) hrv
        clear hcc
        rw [hlen] at hdc
        have cL := bL1.cells
        have lL := bL1.lt
        clear hst lR hlen
        go_wp2_with fail
        refine hdc.mono ?_
        rintro e w2 ⟨bv, av, rfl, o1, o2, hb2⟩
        obtain ⟨Ab, cb, rfl⟩ := own_slice o1
        obtain ⟨Aa, ca, rfl⟩ := own_slice o2
        have hres := HG.out
        subst hres
        have bRv := bR1.belowAll hbv
        have bR2 := bRv.belowAll hb2
        have Bv := B1.trans (hbv.mono B1.size)
        have B3 := Bv.trans (hb2.mono Bv.size)
        have hst := storeRow (ty := 26) (vs := inoC (decE y.s y.j y.i (strL rdt)).1 (.slice Ab (decE y.s y.j y.i (strL rdt)).1.blocks.length cb) (.slice Aa (decE y.s y.j y.i (strL rdt)).1.attrs.length ca)) bR2 rfl (by simp [Value.oneCell']) (by kernel_rfl)
        have lR := bR2.lt
        have cF := (bR2.setRow (cs' := inoC (decE y.s y.j y.i (strL rdt)).1 (.slice Ab (decE y.s y.j y.i (strL rdt)).1.blocks.length cb) (.slice Aa (decE y.s y.j y.i (strL rdt)).1.attrs.length ca))).cells
        have CF2 := Lib.hid cF
        have hRv : w.heap.size + 1 < wv.heap.size := bRv.lt
        clear hdc cL lL cF
        go_wp2_with (refine wpList_storeBy rfl _ _ _ rfl _ _ rfl rfl hst ?_)
        have cF := CF2.out
        refine bodyPost_ret (v := .tuple #[.agg (inoC (decE y.s y.j y.i (strL rdt)).1 (.slice Ab (decE y.s y.j y.i (strL rdt)).1.blocks.length cb) (.slice Aa (decE y.s y.j y.i (strL rdt)).1.attrs.length ca)), .int .i64 (decE y.s y.j y.i (strL rdt)).2]) (by simp [results, Tryz.results52, go_sem, cF]) rfl ?_
        exact ⟨_, _, rfl, own_base (own_block o1 fun q hq => setRow_other _ _ _ _ (fun e => by have := (own_lt o1 q hq).1; omega)) (by omega), own_base (own_block o2 fun q hq => setRow_other _ _ _ _ (fun e => by have := (own_lt o2 q hq).1; omega)) (by omega), Below.setRow B3 (by omega) _⟩
end Go.Proofs.YtjocnooekgnedaaGreatDoor
