/- Parts of the proof, put together by program: ZG, IJ, IM, B0, B1. -/
import Derived.Test.YtloddiipepiocaaGreatDoorPart26
import Derived.Test.YtloddiipepiocaaGreatDoorPart22
import Derived.Test.YtloddiipepiocaaGreatDoorPart40
import Derived.Test.YtloddiipepiocaaGreatDoorPart32
set_option linter.unusedVariables false
set_option linter.unusedSimpArgs false
/- Layers 9 and 10 in plain words: Commit on a device that has power; a device that was formatted; Begin on it. No program in sight. -/
namespace Go.Proofs.YtloddiipepiocaaGreatDoor
open Go.RowKit Go.Maps

theorem lookTo_log {z : DevS} {F Z q : Int} {l : List Rec} (hF : 0 ≤ F) (hs : z.stable.length ≤ 256) (hv : ValidL z.stable.length F Z l) (hl : LogAt z F q l) : ∀ k, k ≤ l.length → z.lookTo F Z q k = ⟨false, 0, l.take k, false⟩ := by
  intro k
  induction k with
  | zero => intro _; rfl
  | succ k ih =>
    intro hk
    have ih := ih (by omega)
    have hkl : k < l.length := by omega
    obtain ⟨g, f⟩ := hl.recs k hkl
    have h9 := hv.rec_ k hkl
    have hro := recOf_log (r := l[k]) (q := next q) ⟨h9.2.1, by omega⟩ (by omega) h9.2.2.2.2.2.1
    show (if (z.lookTo F Z q k).stop then z.lookTo F Z q k else _) = _
    rw [ih, g, f, hro]
    have h1 : recIs z.stable.length F Z ⟨2, next q, logS l[k]⟩ = true := by
      unfold recIs
      rw [if_neg (by simp only [logS_size]; omega), hro]
      simp only [insideB, Bool.and_eq_true, decide_eq_true_eq, Bool.not_eq_true', decide_eq_false_iff_not]
      exact ⟨⟨h9.2.2.1, h9.1⟩, by omega⟩
    have h2 : decide (l[k].at_ ∈ (l.take k).map (·.at_)) = false := decide_eq_false h9.2.2.2.2.2.2
    have h3 : decide (((l.take k).length : Int) = mostN Z) = false := decide_eq_false (by have := hv.len; rw [List.length_take]; omega)
    rw [h1]
    simp only [h2, h3]
    rw [if_neg (by simp), if_neg (by simp [brokenB]), if_neg (by simp), List.take_succ_eq_append_getElem hkl]
theorem lookTo_end {z : DevS} {F Z q : Int} {l : List Rec} (hF : 0 ≤ F) (hs : z.stable.length ≤ 256) (hv : ValidL z.stable.length F Z l) (hl : LogAt z F q l) : ∀ k, l.length < k → z.lookTo F Z q k = ⟨true, 0, l, true⟩ := by
  intro k hk
  induction k with
  | zero => omega
  | succ k ih =>
    by_cases e : l.length < k
    · show (if (z.lookTo F Z q k).stop then z.lookTo F Z q k else _) = _
      rw [ih e]; rfl
    · obtain rfl : k = l.length := by omega
      obtain ⟨g, f⟩ := hl.mark
      show (if (z.lookTo F Z q l.length).stop then z.lookTo F Z q l.length else _) = _
      rw [lookTo_log hF hs hv hl _ (Nat.le_refl _), g, f, List.take_length]
      have h1 : recIs z.stable.length F Z ⟨3, next q, shortS l.length⟩ = false := by
        unfold recIs; rw [if_pos (by left; simp)]
      rw [h1]
      simp [brokenB]
theorem look_log {z : DevS} {F Z q : Int} {l : List Rec} (hc : checkE F Z = 0) (hs : z.stable.length ≤ 256) (hh : HeadAt z F q) (hv : ValidL z.stable.length F Z l) (hl : LogAt z F q l) : z.look F Z = (0, q, l, true) := by
  have hz := checkE_zero hc
  have h1 := lookTo_end (by omega) hs hv hl (Z - 1).toNat (by have := hv.len; unfold mostN at this; omega)
  unfold DevS.look
  rw [hh.head hc]
  simp only
  rw [if_neg (by simp), h1, if_neg (by simp)]
theorem appL_nodup {q : Int} {l : List Rec} (h : (l.map (·.at_)).Nodup) : ((appL q l).map (·.1)).Nodup := by
  have e : (appL q l).map (·.1) = l.map (·.at_) := by unfold appL; rw [List.map_map]; rfl
  rw [e]; exact h
theorem apply_runs {z : DevS} {F Z q : Int} {n : Nat} {l : List Rec} (hc : checkE F Z = 0) (hF : F + Z ≤ z.stable.length) (hh : HeadAt z F q) (hv : ValidL z.stable.length F Z l) (hl : LogAt z F q l) (h : z.Runs (n + l.length)) :
    ∃ y, (z.apply F Z).2 = (0, y) ∧ y.Runs n ∧ y.stable.length = z.stable.length ∧ HeadAt y F q ∧ (∀ r ∈ l, y.ge r.at_ = 0 ∧ y.fr r.at_ = ⟨r.kind, next q, r.data⟩) ∧ (∀ b : Int, 0 ≤ b → b < z.stable.length → b ∉ l.map (·.at_) → sameFr z y b) := by
  have hz := checkE_zero hc
  have hnx := next_bds q
  have hr : ∀ r ∈ l, ¬ (F ≤ r.at_ ∧ r.at_ < F + Z) ∧ 0 ≤ r.at_ ∧ r.at_ < z.stable.length ∧ 1 ≤ r.kind ∧ r.kind ≤ 255 ∧ r.data.size ≤ 96 := fun r hm => by
    obtain ⟨k, hk, rfl⟩ := List.mem_iff_getElem.1 hm
    have h9 := hv.rec_ k hk
    exact ⟨h9.1, h9.2.1, h9.2.2.1, h9.2.2.2.1, h9.2.2.2.2.1, h9.2.2.2.2.2.1⟩
  have hlen : (appL (next q) l).length = l.length := by unfold appL; simp
  obtain ⟨i1, i2, i3, i4, i5⟩ := puts_runs (appL_nodup (q := next q) hv.nodup) l.length (x := z) (n := n) (fun p hp => by
    unfold appL at hp
    obtain ⟨r, hm, rfl⟩ := List.mem_map.1 hp
    have h9 := hr r hm
    exact ⟨h9.2.1, h9.2.2.1, h9.2.2.2.1, h9.2.2.2.2.1, by show r.data.size ≤ 112; omega, hnx.1, hnx.2⟩) (by omega) h
  have htk : (appL (next q) l).take l.length = appL (next q) l := List.take_of_length_le (by omega)
  rw [htk] at i4 i5
  have hmap : (appL (next q) l).map (·.1) = l.map (·.at_) := by unfold appL; rw [List.map_map]; rfl
  obtain ⟨f1, f2, f3⟩ := flush_same i2
  have e : z.applies q l = (0, (z.puts (appL (next q) l) l.length).2.flushed) := by
    unfold DevS.applies
    rw [show z.puts (appL (next q) l) l.length = (0, (z.puts (appL (next q) l) l.length).2) from Prod.ext i1 rfl]
    exact done_runs i2
  have hnF : F ∉ l.map (·.at_) := fun hm => by
    obtain ⟨r, hm, he⟩ := List.mem_map.1 hm
    have := (hr r hm).1
    omega
  refine ⟨(z.puts (appL (next q) l) l.length).2.flushed, ?_, f1, f2.trans i3, ?_, fun r hm => ?_, fun b h1 h2 h3 => ?_⟩
  · unfold DevS.apply
    rw [look_log hc h.ok.hi hh hv hl]
    rw [if_neg (by simp), if_neg (by simp), e]
    rw [if_neg (by simp)]
  · exact (hh.same (i5 F (by omega) (by omega) (by rw [hmap]; exact hnF))).same (f3 F (by omega) (by rw [i3]; omega))
  · have h4 := i4 (r.at_, ⟨r.kind, next q, r.data⟩) (List.mem_map.2 ⟨r, hm, rfl⟩)
    have h5 := f3 r.at_ (hr r hm).2.1 (by rw [i3]; exact (hr r hm).2.2.1)
    exact ⟨h5.1.trans h4.1, h5.2.trans h4.2⟩
  · exact (i5 b h1 h2 (by rw [hmap]; exact h3)).trans (f3 b h1 (by rw [i3]; exact h2))
/-- Commit on a device that has power. -/
theorem commit_runs {x : DevS} {F Z q : Int} {n : Nat} {l : List Rec} (hc : checkE F Z = 0) (hF : F + Z ≤ x.stable.length) (hh : HeadAt x F q) (hv0 : validE x.stable.length F Z l = 0) (h : x.Runs (n + 1 + l.length + 1 + l.length)) :
    ∃ y, x.commit F Z l = (0, y) ∧ y.Runs n ∧ y.stable.length = x.stable.length ∧ HeadAt y F (next q) ∧ (∀ r ∈ l, y.ge r.at_ = 0 ∧ y.fr r.at_ = ⟨r.kind, next q, r.data⟩) ∧ (∀ b : Int, 0 ≤ b → b < x.stable.length → (b < F ∨ F + Z ≤ b) → b ∉ l.map (·.at_) → sameFr x y b) := by
  have hz := checkE_zero hc
  have hv := validL hv0
  have hnx := next_bds q
  obtain ⟨z, ez, z1, z2, z3, z4, z5⟩ := log_runs (n := n + 1 + l.length) hc hF hh hv hv0 h
  obtain ⟨y, ey, y1, y2, y3, y4, y5⟩ := apply_runs (n := n + 1) hc (by rw [z2]; exact hF) z3 (by rw [z2]; exact hv) z4 z1
  obtain ⟨j1, j2⟩ := put_runs y1 (a := F) (kind := 1) (seq := next q) (s := ⟨#[]⟩) (by rw [y2, z2]; omega) (by omega) (Nat.zero_le _) hnx
  obtain ⟨f1, f2, f3⟩ := flush_same j2.runs
  have hsz : y.stable.length = x.stable.length := y2.trans z2
  have hall : ∀ b : Int, 0 ≤ b → b < x.stable.length → b ≠ F → sameFr y (y.put F 1 (next q) ⟨#[]⟩).2.flushed b := fun b h1 h2 h3 => (j2.old b h1 (by rw [hsz]; exact h2) h3).trans (f3 b h1 (by rw [j2.size, hsz]; exact h2))
  have hr : ∀ r ∈ l, 0 ≤ r.at_ ∧ r.at_ < x.stable.length ∧ r.at_ ≠ F := fun r hm => by
    obtain ⟨k, hk, rfl⟩ := List.mem_iff_getElem.1 hm
    have h9 := hv.rec_ k hk
    exact ⟨h9.2.1, h9.2.2.1, fun e => h9.1 (by omega)⟩
  refine ⟨(y.put F 1 (next q) ⟨#[]⟩).2.flushed, ?_, f1, f2.trans (j2.size.trans hsz), ?_, fun r hm => ?_, fun b h1 h2 h3 h4 => ?_⟩
  · unfold DevS.commit
    rw [ez]
    simp only
    rw [if_neg (by simp), ey]
    simp only
    rw [if_neg (by simp)]
    unfold DevS.clear
    rw [y3.head hc]
    simp only
    rw [if_neg (by simp), show y.put F 1 (next q) ⟨#[]⟩ = (0, (y.put F 1 (next q) ⟨#[]⟩).2) from Prod.ext j1 rfl]
    exact done_runs j2.runs
  · have h5 := f3 F (by omega) (by rw [j2.size, hsz]; omega)
    exact ⟨h5.1.trans j2.new.1, h5.2.trans j2.new.2⟩
  · have h5 := hall r.at_ (hr r hm).1 (hr r hm).2.1 (hr r hm).2.2
    have h6 := y4 r hm
    exact ⟨h5.1.trans h6.1, h5.2.trans h6.2⟩
  · exact ((z5 b h1 h2 h3).trans (y5 b h1 (by rw [z2]; exact h2) h4)).trans (hall b h1 h2 (by omega))

/-! A device that was formatted. -/
theorem newDev_runs {n : Nat} (hn : 64 ≤ n ∧ n ≤ 256) (N : Nat) (hN : N ≤ 1000000000000) : (newDev n).Runs N := ⟨newDev_ok hn, rfl, rfl, by show (0 : Int) + N ≤ _; omega⟩
theorem freeRec_valid {s j i : Int} (h : rgE s j i = 0) : validE s 1 j [freeRec s j i] = 0 := by
  have hb := rg_bds h
  have hr : recE s 1 j [] (freeRec s j i) = 0 := by
    unfold recE freeRec
    rw [if_neg (by show ¬ (1 ≤ 1 + j ∧ 1 + j < 1 + j); omega), if_neg (by show ¬ (1 + j < 0 ∨ s ≤ 1 + j ∨ (5 : Int) < 1 ∨ 255 < (5 : Int)); omega), if_neg (by simp only [mapS_size]; omega), if_neg (by simp)]
  unfold validE
  rw [if_neg (by show ¬ mostN j < ((1 : Nat) : Int); unfold mostN; omega)]
  show (if validTo s 1 j [freeRec s j i] 0 ≠ 0 then _ else recE s 1 j [] (freeRec s j i)) = 0
  rw [if_neg (by show ¬ ((0 : Int) ≠ 0); simp), hr]

/-- The device behind New and Format. -/
structure Fresh (y : DevS) (s j i : Int) (N : Nat) : Prop where
  runs : y.Runs N
  size : (y.stable.length : Int) = s
  head : HeadAt y 1 1
  map_ : y.ge (1 + j) = 0 ∧ y.fr (1 + j) = ⟨5, 1, mapS (List.replicate (rgB s j i).toNat false)⟩
  blank : ∀ a : Int, (a = 0 ∨ 2 + j ≤ a) → a < s → y.ge a = 70
theorem format_fresh {s j i : Int} (h : rgE s j i = 0) (N : Nat) (hN : N ≤ 100000000000) : ∃ y, (newDev s.toNat).tfmt s j i = (0, y) ∧ Fresh y s j i N := by
  have hb := rg_bds h
  have hsz : ((newDev s.toNat).stable.length : Int) = s := by show ((List.replicate s.toNat zsec).length : Int) = s; rw [List.length_replicate]; omega
  have hck : checkE 1 j = 0 := by unfold checkE; rw [if_neg (by omega)]
  obtain ⟨x1, e1, r1, s1, h1, -, o1⟩ := jfmt_runs (x := newDev s.toNat) (F := 1) (Z := j) (n := N + 1 + 1 + 1 + 1) hck (by rw [hsz]; omega) (newDev_runs (by omega) _ (by omega))
  have s1' : (x1.stable.length : Int) = s := by rw [s1]; exact hsz
  obtain ⟨y, e2, r2, s2, h2, w2, o2⟩ := commit_runs (x := x1) (F := 1) (Z := j) (q := 0) (n := N) (l := [freeRec s j i]) hck (by rw [s1']; omega) h1 (by rw [s1']; exact freeRec_valid h) r1
  refine ⟨y, ?_, ⟨r2, by rw [s2]; exact s1', h2, w2 (freeRec s j i) (by simp), fun a ha1 ha2 => ?_⟩⟩
  · unfold DevS.tfmt
    have hf : findE (newDev s.toNat).stable.length s j i = 0 := by
      unfold findE; rw [if_neg (by simpa using h), if_neg (by omega), if_neg (by rw [hsz]; simp)]
    rw [if_neg (by simpa using hf), e1]
    simp only
    rw [if_neg (by simp), e2]
  · have hg : (newDev s.toNat).ge a = 70 := newDev_ge (by omega) (by omega)
    have h3 := o1 a (by omega) (by rw [hsz]; exact ha2) (by omega)
    have h4 := o2 a (by omega) (by rw [s1']; exact ha2) (by omega) (by
      intro hm
      simp only [List.map_cons, List.map_nil, List.mem_cons, List.mem_nil_iff, or_false] at hm
      have : a = 1 + j := hm
      omega)
    exact h4.1.trans (h3.1.trans hg)
/-- A transaction that has begun on it. -/
def freeTx (s j i : Int) : TxS := ⟨s, j, i, List.replicate (rgB s j i).toNat false, List.replicate (rgB s j i).toNat false, [], false, false, false⟩
theorem begin_fresh {y : DevS} {s j i : Int} {N : Nat} (h : rgE s j i = 0) (hy : Fresh y s j i N) : (∀ E, y.beginE s j i E ↔ E = 0) ∧ y.begins s j i = freeTx s j i ∧ (y.fr (1 + j)).data.size ≤ 1000 := by
  have hb := rg_bds h
  have hB : rgB s j i = s - (2 + j + i) := (rg_ok h).2.2.2.2
  have hl : (List.replicate (rgB s j i).toNat false).length = (rgB s j i).toNat := List.length_replicate ..
  have hst : strL (mapS (List.replicate (rgB s j i).toNat false)) = encL (List.replicate (rgB s j i).toNat false) (List.replicate (rgB s j i).toNat false).length := strL_str (encL_bytes _ _)
  have hde := dec_enc (us := List.replicate (rgB s j i).toNat false) (by rw [hl]; omega)
  rw [← hst, hl] at hde
  have hmo : mapOk (y.fr (1 + j)).data (rgB s j i).toNat := by
    rw [hy.map_.2]
    exact ⟨by rw [hst, encL_length], hde.2⟩
  have hf : findE y.stable.length s j i = 0 := by
    unfold findE; rw [if_neg (by simpa using h), if_neg (by have := hy.size; omega), if_neg (by have := hy.size; omega)]
  refine ⟨fun E => ⟨fun hE => ?_, fun hE => ?_⟩, ?_, ?_⟩
  · rcases hE with ⟨h1, -⟩ | ⟨-, h1, -⟩ | ⟨-, -, h1, -⟩ | ⟨-, -, -, -, h1⟩
    · exact absurd hf h1
    · exact absurd hy.map_.1 h1
    · exact absurd ⟨hmo, by rw [hy.map_.2]⟩ h1
    · exact h1
  · exact .inr (.inr (.inr ⟨hf, hy.map_.1, hmo, by rw [hy.map_.2], hE⟩))
  · unfold DevS.begins freeTx
    rw [hy.map_.2]
    simp only
    rw [hde.1]
  · rw [hy.map_.2]
    show (mapS _).size ≤ 1000
    rw [mapS_size]; omega

end Go.Proofs.YtloddiipepiocaaGreatDoor
/- Layer 10 in plain words: a device that transactions live on: Commit of one, Begin of the next. No program in sight. -/
namespace Go.Proofs.YtloddiipepiocaaGreatDoor
open Go.RowKit Go.Maps

/-- A device with a layout, the blocks of us being used. -/
structure Live (x : DevS) (s j i : Int) (us : List Bool) (N : Nat) : Prop where
  runs : x.Runs N
  size : (x.stable.length : Int) = s
  head : ∃ q, HeadAt x 1 q
  map_ : x.ge (1 + j) = 0 ∧ ∃ q, x.fr (1 + j) = ⟨5, q, mapS us⟩
  len : us.length = (rgB s j i).toNat
theorem Live.mono {x : DevS} {s j i : Int} {us : List Bool} {N M : Nat} (h : Live x s j i us N) (hm : M ≤ N) : Live x s j i us M := ⟨h.runs.mono hm, h.size, h.head, h.map_, h.len⟩
theorem Fresh.live {y : DevS} {s j i : Int} {N : Nat} (h : Fresh y s j i N) : Live y s j i (List.replicate (rgB s j i).toNat false) N := ⟨h.runs, h.size, ⟨1, h.head⟩, ⟨h.map_.1, 1, h.map_.2⟩, List.length_replicate ..⟩
/-- A transaction that has begun. -/
def begTx (s j i : Int) (us : List Bool) : TxS := ⟨s, j, i, us, us, [], false, false, false⟩
theorem begTx_clean {s j i : Int} (hj : 0 ≤ j) (us : List Bool) : (begTx s j i us).Clean := ⟨List.Pairwise.nil, fun _ h => (by cases h), fun _ h => (by cases h), hj⟩
theorem freeTx_beg (s j i : Int) : freeTx s j i = begTx s j i (List.replicate (rgB s j i).toNat false) := rfl

theorem begin_live {y : DevS} {s j i : Int} {us : List Bool} {N : Nat} (h : rgE s j i = 0) (hy : Live y s j i us N) : (∀ E, y.beginE s j i E ↔ E = 0) ∧ y.begins s j i = begTx s j i us ∧ (y.fr (1 + j)).data.size ≤ 1000 := by
  have hb := rg_bds h
  have hB : rgB s j i = s - (2 + j + i) := (rg_ok h).2.2.2.2
  obtain ⟨hg, q, hf0⟩ := hy.map_
  have hl := hy.len
  have hst : strL (mapS us) = encL us us.length := strL_str (encL_bytes _ _)
  have hde := dec_enc (us := us) (by rw [hl]; omega)
  rw [← hst, hl] at hde
  have hmo : mapOk (y.fr (1 + j)).data (rgB s j i).toNat := by
    rw [hf0]
    exact ⟨by rw [hst, encL_length], hde.2⟩
  have hf : findE y.stable.length s j i = 0 := by
    unfold findE; rw [if_neg (by simpa using h), if_neg (by have := hy.size; omega), if_neg (by have := hy.size; omega)]
  refine ⟨fun E => ⟨fun hE => ?_, fun hE => ?_⟩, ?_, ?_⟩
  · rcases hE with ⟨h1, -⟩ | ⟨-, h1, -⟩ | ⟨-, -, h1, -⟩ | ⟨-, -, -, -, h1⟩
    · exact absurd hf h1
    · exact absurd hg h1
    · exact absurd ⟨hmo, by rw [hf0]⟩ h1
    · exact h1
  · exact .inr (.inr (.inr ⟨hf, hg, hmo, by rw [hf0], hE⟩))
  · unfold DevS.begins begTx
    rw [hf0]
    simp only
    rw [hde.1]
  · rw [hf0]
    show (mapS _).size ≤ 1000
    rw [mapS_size]; omega

theorem recE_good {y : TxS} (ok : y.Ok) (hc : y.Clean) {r : Rec} (hr : r ∈ y.recs) {l : List Rec} (hl : r.at_ ∉ l.map (·.at_)) : recE y.s 1 y.j l r = 0 := by
  have hbd := rg_bds ok.rg
  have h := (recs_perm hc).mem_iff.1 hr
  have h9 : ¬ (1 ≤ r.at_ ∧ r.at_ < 1 + y.j) ∧ 0 ≤ r.at_ ∧ r.at_ < y.s ∧ 1 ≤ r.kind ∧ r.kind ≤ 255 ∧ r.data.size ≤ 96 := by
    rcases List.mem_append.1 h with h | h
    · have h1 := ok.recs r h
      have h2 := hc.out r h
      have h3 := hc.small r h
      omega
    · split at h
      · simp at h; subst h
        refine ⟨by show ¬ (1 ≤ 1 + y.j ∧ 1 + y.j < 1 + y.j); omega, by show 0 ≤ 1 + y.j; omega, by show 1 + y.j < y.s; omega, by show (1 : Int) ≤ 5; omega, by show (5 : Int) ≤ 255; omega, by show (mapS _).size ≤ 96; rw [mapS_size]; omega⟩
      · cases h
  unfold recE
  rw [if_neg h9.1, if_neg (by omega), if_neg (by omega), if_neg hl]
theorem recs_valid {y : TxS} (ok : y.Ok) (hc : y.Clean) : validE y.s 1 y.j y.recs = 0 := by
  have hbd := rg_bds ok.rg
  have hlen : (y.recs.length : Int) ≤ mostN y.j := by
    rw [recs_length hc]
    have := ok.len
    unfold TxS.left TxS.most at this
    unfold mostN
    split at this <;> simp_all <;> omega
  have hA := recs_asc hc
  have hk : ∀ k, k ≤ y.recs.length → validTo y.s 1 y.j y.recs k = 0 := by
    intro k
    induction k with
    | zero => intro _; rfl
    | succ k ih =>
      intro hk
      rw [valid_step (ih (by omega)) (by omega)]
      refine recE_good ok hc (List.getElem_mem _) fun hm => ?_
      obtain ⟨r, hr, he⟩ := List.mem_map.1 hm
      obtain ⟨i, hi, rfl⟩ := List.mem_iff_getElem.1 hr
      rw [List.getElem_take] at he
      have h1 : i < k := by rw [List.length_take] at hi; omega
      have := List.pairwise_iff_getElem.1 hA i k (by omega) (by omega) h1
      omega
  unfold validE
  rw [if_neg (by omega)]
  exact hk _ (Nat.le_refl _)

theorem commit_live {x : DevS} {y : TxS} {us : List Bool} {N : Nat} (ok : y.Ok) (hc : y.Clean) (hx : Live x y.s y.j y.i us (N + 200)) (hn : y.changed = false → y.now = us) :
    ∃ x', y.commit x = (0, x') ∧ Live x' y.s y.j y.i y.now N ∧ (∀ r ∈ y.writes, x'.ge r.at_ = 0 ∧ ∃ q, x'.fr r.at_ = ⟨r.kind, q, r.data⟩) ∧ (∀ b : Int, 0 ≤ b → b < y.s → (b < 1 ∨ 1 + y.j < b) → b ∉ y.writes.map (·.at_) → sameFr x x' b) := by
  have hbd := rg_bds ok.rg
  by_cases h0 : y.recs = []
  · have hw : y.writes = [] ∧ y.changed = false := by
      have := recs_length hc
      rw [h0] at this
      cases hch : y.changed
      · rw [hch] at this
        exact ⟨List.eq_nil_of_length_eq_zero (by simpa using this.symm), rfl⟩
      · rw [hch] at this
        simp at this
    refine ⟨x, by unfold TxS.commit; rw [if_pos h0], ?_, ?_, fun b _ _ _ _ => sameFr.refl _ _⟩
    · rw [hn hw.2]; exact hx.mono (by omega)
    · rw [hw.1]; exact fun _ h => (by cases h)
  · obtain ⟨q, hq⟩ := hx.head
    have hlen : y.recs.length ≤ 80 := by
      rw [recs_length hc]
      have := ok.len
      unfold TxS.left TxS.most at this
      split at this <;> simp_all <;> omega
    have hck : checkE 1 y.j = 0 := by unfold checkE; rw [if_neg (by omega)]
    obtain ⟨x', e, r, sz, hh, hw, ho⟩ := commit_runs (x := x) (F := 1) (Z := y.j) (q := q) (n := N) (l := y.recs) hck (by rw [hx.size]; omega) hq (by rw [hx.size]; exact recs_valid ok hc) (hx.runs.mono (by omega))
    have hmem : ∀ r ∈ y.writes, r ∈ y.recs := fun r hr => (recs_perm hc).mem_iff.2 (List.mem_append_left _ hr)
    refine ⟨x', by unfold TxS.commit; rw [if_neg h0, e], ⟨r, by rw [sz]; exact hx.size, ⟨_, hh⟩, ?_, ok.now⟩, fun r hr => ⟨(hw r (hmem r hr)).1, _, (hw r (hmem r hr)).2⟩, fun b h1 h2 h3 h4 => ?_⟩
    · cases hch : y.changed
      · have hnr : 1 + y.j ∉ y.recs.map (·.at_) := fun hm => by
          obtain ⟨r, hr, he⟩ := List.mem_map.1 hm
          unfold TxS.recs at hr
          rw [hch] at hr
          have := hc.out r (by simpa using hr)
          omega
        have hs := ho (1 + y.j) (by omega) (by rw [hx.size]; omega) (by omega) hnr
        obtain ⟨g1, q1, f1⟩ := hx.map_
        exact ⟨hs.1.trans g1, q1, by rw [hs.2, f1, hn hch]⟩
      · have hm : y.bmap ∈ y.recs := (recs_perm hc).mem_iff.2 (List.mem_append_right _ (by rw [hch]; simp))
        exact ⟨(hw _ hm).1, _, (hw _ hm).2⟩
    · refine ho b h1 (by rw [hx.size]; exact h2) (by omega) fun hm => h4 ?_
      obtain ⟨r, hr, he⟩ := List.mem_map.1 hm
      rcases List.mem_append.1 ((recs_perm hc).mem_iff.1 hr) with hr | hr
      · exact List.mem_map.2 ⟨r, hr, he⟩
      · split at hr
        · simp at hr; subst hr
          have : 1 + y.j = b := he
          omega
        · cases hr

end Go.Proofs.YtloddiipepiocaaGreatDoor
/- Layers 6, 9 and 10 in plain words: how many writes a Commit takes; its cache is empty. No program in sight. -/
namespace Go.Proofs.YtloddiipepiocaaGreatDoor
open Go.RowKit Go.Maps

theorem write_taken {x : DevS} {a : Int} {s : List Int} (h : (x.write a s).1 = 0) : (x.write a s).2.taken = x.taken + 1 := by
  unfold DevS.write at h ⊢
  split
  · rename_i h1
    rw [if_pos h1] at h
    exact absurd h h1
  · rename_i h1
    rw [if_neg h1] at h
    split
    · rename_i h2
      rw [if_pos h2] at h
      exact absurd (show (13 : Int) = 0 from h) (by decide)
    · unfold DevS.added DevS.room
      split <;> rfl
theorem put_taken {x : DevS} {a k q : Int} {s : ByteArray} (h : (x.put a k q s).1 = 0) : (x.put a k q s).2.taken = x.taken + 1 := by
  unfold DevS.put at h ⊢
  split
  · rename_i h1
    rw [if_pos h1] at h
    exact write_taken h
  · rename_i h1
    rw [if_neg h1] at h
    exact absurd h h1
theorem puts_taken {x : DevS} {l : List (Int × Fr)} : ∀ k : Nat, (x.puts l k).1 = 0 → (x.puts l k).2.taken = x.taken + k
  | 0, _ => by show x.taken = x.taken + 0; omega
  | k + 1, h => by
    have e : x.puts l (k + 1) = if (x.puts l k).1 ≠ 0 then x.puts l k else (x.puts l k).2.put (l.getD k default).1 (l.getD k default).2.kind (l.getD k default).2.seq (l.getD k default).2.data := rfl
    rw [e] at h ⊢
    by_cases h1 : (x.puts l k).1 ≠ 0
    · rw [if_pos h1] at h; exact absurd h h1
    · rw [if_neg h1] at h ⊢
      have h2 := put_taken h
      have h3 := puts_taken k (by simpa using h1)
      omega
theorem doneE_zero {p : Int × DevS} (h : (DevS.done p).1 = 0) : p.1 = 0 ∧ (DevS.done p).2 = p.2.flushed := by
  unfold DevS.done at h ⊢
  by_cases h1 : p.1 ≠ 0
  · rw [if_pos h1] at h; exact absurd h h1
  · rw [if_neg h1] at h ⊢
    unfold DevS.flush readyE at h ⊢
    cases ho : p.2.off
    · exact ⟨by simpa using h1, by simp⟩
    · rw [ho] at h; exact absurd (show (13 : Int) = 0 from h) (by decide)
theorem log_taken {x : DevS} {F Z : Int} {l : List Rec} (h : (x.log F Z l).1 = 0) : (x.log F Z l).2.taken = x.taken + l.length + 1 := by
  unfold DevS.log at h ⊢
  split
  · rename_i h1; rw [if_pos h1] at h; exact absurd h h1
  · rename_i h1
    rw [if_neg h1] at h
    split
    · rename_i h2; rw [if_pos h2] at h; exact absurd h h2
    · rename_i h2
      rw [if_neg h2] at h
      split
      · rename_i h3; rw [if_pos h3] at h; exact absurd h h3
      · rename_i h3
        rw [if_neg h3] at h
        obtain ⟨d1, d2⟩ := doneE_zero h
        have h4 := put_taken d1
        have h5 := puts_taken l.length (by simpa using h3)
        rw [d2]
        show DevS.taken _ = _
        rw [show (DevS.flushed ((x.puts (logL F (next (x.head F Z).2) l) l.length).2.put (F + 1 + l.length) 3 (next (x.head F Z).2) (shortS l.length)).2).taken = ((x.puts (logL F (next (x.head F Z).2) l) l.length).2.put (F + 1 + l.length) 3 (next (x.head F Z).2) (shortS l.length)).2.taken from rfl, h4, h5]
theorem clear_taken {x : DevS} {F Z : Int} (h : (x.clear F Z).1 = 0) : (x.clear F Z).2.taken = x.taken + 1 ∧ (x.clear F Z).2.cache = [] := by
  unfold DevS.clear at h ⊢
  split
  · rename_i h1; rw [if_pos h1] at h; exact absurd h h1
  · rename_i h1
    rw [if_neg h1] at h
    obtain ⟨d1, d2⟩ := doneE_zero h
    have h4 := put_taken d1
    rw [d2]
    exact ⟨h4, rfl⟩
theorem apply_taken {x : DevS} {F Z : Int} (h : (x.apply F Z).2.1 = 0) : (x.apply F Z).2.2.taken = x.taken + (x.look F Z).2.2.1.length := by
  unfold DevS.apply at h ⊢
  split
  · rename_i h1; rw [if_pos h1] at h; exact absurd h h1
  · rename_i h1
    rw [if_neg h1] at h
    split
    · rename_i h2; rw [if_pos h2] at h; exact absurd (show (9 : Int) = 0 from h) (by decide)
    · rename_i h2
      rw [if_neg h2] at h
      have key : (x.applies (x.look F Z).2.1 (x.look F Z).2.2.1).1 = 0 → (x.applies (x.look F Z).2.1 (x.look F Z).2.2.1).2.taken = x.taken + (x.look F Z).2.2.1.length := fun h0 => by
        unfold DevS.applies at h0 ⊢
        obtain ⟨d1, d2⟩ := doneE_zero h0
        rw [d2]
        exact puts_taken _ d1
      split
      · rename_i h3; rw [if_pos h3] at h; exact absurd h h3
      · rename_i h3; exact key (by simpa using h3)
theorem commit_taken {x : DevS} {F Z q : Int} {n : Nat} {l : List Rec} (hc : checkE F Z = 0) (hF : F + Z ≤ x.stable.length) (hh : HeadAt x F q) (hv0 : validE x.stable.length F Z l = 0) (h : x.Runs (n + 1 + l.length + 1 + l.length)) :
    (x.commit F Z l).2.taken = x.taken + 2 * l.length + 2 ∧ (x.commit F Z l).2.cache = [] := by
  obtain ⟨y, e, -⟩ := commit_runs hc hF hh hv0 h
  obtain ⟨z, ez, z1, z2, z3, z4, z5⟩ := log_runs (n := n + 1 + l.length) hc hF hh (validL hv0) hv0 h
  have h1 := log_taken (x := x) (F := F) (Z := Z) (l := l) (by rw [ez])
  have hlk := look_log hc z1.ok.hi z3 (by rw [z2]; exact validL hv0) z4
  have e0 : (x.commit F Z l).1 = 0 := by rw [e]
  unfold DevS.commit at e0 ⊢
  rw [ez] at e0 h1 ⊢
  simp only at e0 h1 ⊢
  rw [if_neg (by simp)] at e0 ⊢
  by_cases h2 : (z.apply F Z).2.1 ≠ 0
  · rw [if_pos h2] at e0; exact absurd e0 h2
  · rw [if_neg h2] at e0 ⊢
    have h3 := apply_taken (x := z) (F := F) (Z := Z) (by simpa using h2)
    have h4 := clear_taken e0
    rw [hlk] at h3
    simp only at h3
    exact ⟨by rw [h4.1, h3, h1]; omega, h4.2⟩

end Go.Proofs.YtloddiipepiocaaGreatDoor
/- The laws of layer 10: general words (as for the laws of layer 12). -/
namespace Go.Proofs.YtloddiipepiocaaGreatDoor
open Go.RowKit Go.Maps

set_option maxRecDepth 100000 in
set_option maxHeartbeats 2000000 in
theorem sameInts_any (A Bl : Option Addr) (c d : Nat) (la lb : List Int) (hla : la.length ≤ 100000) (hlb : lb.length ≤ 100000) (w : World) (hA : Reads w A (la.map (.int .i64))) (hB : Reads w Bl (lb.map (.int .i64))) :
    Calls Tryz.prog 60 #[.slice A la.length c, .slice Bl lb.length d] w fun e w' => e = .returned (.bool (decide (la = lb))) ∧ Below w.heap.size w w' := by
  by_cases hl : la.length = lb.length
  rotate_left
  · have hd : decide (la = lb) = false := decide_eq_false fun e => hl (by rw [e])
    have HD := Lib.hid hd
    have hq : ((la.length : Int) != (lb.length : Int)) = true := by simp; omega
    clear hd hl
    go_enter Tryz.func60, Tryz.ntmps60
    go_wp2_with fail
    go_ret
    exact ⟨by rw [HD.out]; rfl, Below.refl _ _⟩
  · have hq : ((la.length : Int) != (lb.length : Int)) = false := by simp; omega
    have HL := Lib.hid hl
    clear hl
    go_enter Tryz.func60, Tryz.ntmps60
    go_wp2_with fail
    go_loopw [5] (fun q wr => ∃ k : Nat, k ≤ la.length ∧ q = .int .i64 k ∧ la.take k = lb.take k ∧ Below w.heap.size w wr) (fun q _ => la.length - (RowKit.intOf q).toNat)
    case atStart => exact ⟨0, Nat.zero_le _, rfl, by simp, Below.refl _ _⟩
    case round =>
      obtain ⟨k, hk, rfl, ht, hb⟩ := hrel
      by_cases hlt : k < la.length
      · have hlt2 : k < lb.length := by have := HL.out; omega
        obtain ⟨b1, o1, rfl, hb1, hc1⟩ := (hA.below hb).at_ (k := k) (by simpa using hlt)
        obtain ⟨b2, o2, rfl, hb2, hc2⟩ := (hB.below hb).at_ (k := k) (by simpa using hlt2)
        rw [List.getElem_map] at hc1 hc2
        have hta : la.take (k + 1) = la.take k ++ [la[k]] := by rw [List.take_succ_eq_append_getElem hlt]
        have htb : lb.take (k + 1) = lb.take k ++ [lb[k]] := by rw [List.take_succ_eq_append_getElem hlt2]
        have HNE : Hid (la[k] ≠ lb[k] → decide (la = lb) = false) := Lib.hid fun hne => decide_eq_false fun e => hne (by subst e; rfl)
        have HT := Lib.hid ht
        have HA' := Lib.hid hA
        have HB' := Lib.hid hB
        have HTA := Lib.hid hta
        have HTB := Lib.hid htb
        generalize la[k] = x at *
        generalize lb[k] = z at *
        clear hta htb ht hA hB
        by_cases he : x = z
        · subst he
          go_wp2_with fail
          go_quiet (fail)
          go_wp2_with fail
          go_roundw
          case rel => exact ⟨k + 1, by omega, by go_num, by rw [HTA.out, HTB.out, HT.out], below_drewN' hb _⟩
          case measure => simp [RowKit.intOf]; omega
        · have hn : (x != z) = true := by simpa using he
          have HF := Lib.hid (HNE.out he)
          clear he
          go_wp2_with fail
          go_quiet (fail)
          go_wp2_with fail
          go_ret
          exact ⟨by rw [HF.out]; rfl, below_drewN' hb _⟩
      · obtain rfl : k = la.length := by omega
        have HD : Hid (decide (la = lb) = true) := Lib.hid (decide_eq_true (by rw [List.take_length, HL.out, List.take_length] at ht; exact ht))
        clear ht
        go_wp2_with fail
        go_ret
        exact ⟨by rw [HD.out]; rfl, hb⟩

/-- What begun hands back. -/
def BegunPost (w : World) (s j i : Int) (e : Ending) (w' : World) : Prop :=
  ∃ D T F B y, e = .returned (.tuple #[.pointer (some ⟨D, 0, none⟩), .pointer (some ⟨T, 0, none⟩)]) ∧ Fresh y s j i 1000000 ∧ TD w' T F D (freeTx s j i) B y ∧ Below w.heap.size w w' ∧ (∀ b ∈ F, w.heap.size ≤ b) ∧ ∀ b ∈ B, w.heap.size ≤ b

/-- A list which the transaction does not touch. -/
structure Keeps (w : World) (F : List Nat) (A : Option Addr) (c : Nat) (l : List Int) : Prop where
  sl : SlI w A c l
  out : ∀ a, A = some a → a.block ∉ F ∧ a.block < w.heap.size
theorem Keeps.grow {w w' : World} {F F' : List Nat} {A : Option Addr} {c : Nat} {l : List Int} (h : Keeps w F A c l) (g : Grow w F w' F') : Keeps w' F' A c l :=
  ⟨⟨h.sl.reads.growF g fun a e => (h.out a e).1, h.sl.nil, h.sl.cap⟩, fun a e => ⟨g.notin (h.out a e).1 (h.out a e).2, Nat.lt_of_lt_of_le (h.out a e).2 g.keep.size⟩⟩
theorem Keeps.below {w w' : World} {F : List Nat} {A : Option Addr} {c : Nat} {l : List Int} (h : Keeps w F A c l) (hb : Below w.heap.size w w') : Keeps w' F A c l :=
  ⟨h.sl.below hb, fun a e => ⟨(h.out a e).1, Nat.lt_of_lt_of_le (h.out a e).2 hb.size⟩⟩
theorem Keeps.of_did {w' : World} {base : Nat} {F' : List Nat} {v : Value} {l : List Int} (ho : w'.ownsRow base 3 1 v l.length (l.map (.int .i64))) (hf : ∀ q, v.ownBlock = some q → q ∉ F') : ∃ A c, v = .slice A l.length c ∧ Keeps w' F' A c l := by
  obtain ⟨A, c, rfl, hs⟩ := SlI.of_own ho
  exact ⟨A, c, rfl, hs, fun a e => by subst e; exact ⟨hf a.block rfl, (own_lt ho a.block rfl).2⟩⟩
theorem Grow.lo {w w' : World} {F F' : List Nat} {n : Nat} (g : Grow w F w' F') (hn : n ≤ w.heap.size) (hF : ∀ b ∈ F, n ≤ b) : ∀ b ∈ F', n ≤ b := fun b hb => by
  rcases g.new b hb with h | h
  · exact hF b h
  · omega
theorem slI_nil (w : World) : SlI w none 0 [] := ⟨.inl rfl, by simp, by simp⟩
end Go.Proofs.YtloddiipepiocaaGreatDoor
/- The laws of layer 10: their examples in plain words. No program in sight. -/
namespace Go.Proofs.YtloddiipepiocaaGreatDoor
open Go.RowKit Go.Maps

def kT1 : TxS := (yA.take 12 3).2
def kT2 : TxS := (kT1.write 50 8 ⟨#[97, 98]⟩).2
def kU : TxS := begTx 64 8 40 kT2.now
def freeN (us : List Bool) : Nat := (us.filter (fun b => !b)).length
theorem awk_plain : (yA.take 12 3).1 = 0 ∧ yA.takeL 12 3 = [12, 13, 0] ∧ (kT1.write 50 8 ⟨#[97, 98]⟩).1 = 0 ∧ kT2.look 50 = some ⟨50, 8, ⟨#[97, 98]⟩⟩ ∧ kT2.writes = [⟨50, 8, ⟨#[97, 98]⟩⟩] ∧ kT2.changed = true ∧ kT2.stateE = 0 ∧ yA.left = 6 ∧ kT2.left = 4 ∧ freeN yA.may = 14 ∧ freeN kT2.may = 11 ∧
    (kU.write 3 8 ⟨#[]⟩).1 = 2 ∧ ((kU.write 3 8 ⟨#[]⟩).2.free []).1 = 9 := by decide +kernel

def kT3 : TxS := (kT2.free [13]).2
def kT4 : TxS := (kT3.take 13 1).2
def kT5 : TxS := (kT4.write 50 8 ⟨#[99]⟩).2
def kV : TxS := begTx 64 8 40 kT5.now
def kV1 : TxS := (kV.free [12]).2
theorem known_plain : (kT2.free [13]).1 = 0 ∧ (kT3.take 13 1).1 = 0 ∧ kT3.takeL 13 1 = [13] ∧ (kT4.write 50 8 ⟨#[99]⟩).1 = 0 ∧ kT5.left = 4 ∧ freeN kT5.may = 11 ∧ kT5.stateE = 0 ∧ kT5.changed = true ∧
    kT5.recs = [⟨9, 5, mapS kT5.now⟩, ⟨50, 8, ⟨#[99]⟩⟩] ∧ (mapS kT5.now).size = 96 ∧ (mapS kT5.now).extract 0 2 = ⟨#[1, 48]⟩ ∧ (kV.free [12]).1 = 0 ∧ (kV1.take 12 1).1 = 0 ∧ kV1.takeL 12 1 = [1] := by decide +kernel

end Go.Proofs.YtloddiipepiocaaGreatDoor
