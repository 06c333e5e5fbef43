/- Parts of the proof, put together by program: ZG, IJ, B3. -/
import Derived.Test.YtljmdcegcckblaaGreatDoorQuart36
import Derived.Test.YtljmdcegcckblaaGreatDoorQuart20
/- Layers 9 and 10 in plain words: Commit on a device that has power; a device that was formatted; Begin on it. No program in sight. -/
namespace Go.Proofs.YtljmdcegcckblaaGreatDoor
open Go.RowKit Go.Maps

theorem lookTo_log {z : DevS} {F Z q : Int} {l : List Rec} (_hF : 0 ≤ F) (hs : z.stable.length ≤ 256) (hv : ValidL z.stable.length F Z l) (hl : LogAt z F q l) : ∀ k, k ≤ l.length → z.lookTo F Z q k = ⟨false, 0, l.take k, false⟩ := by
  intro k
  induction k with
  | zero => intro _; rfl
  | succ k ih =>
    intro hk
    have ih := ih (by omega)
    have hkl : k < l.length := by omega
    obtain ⟨g, f⟩ := hl.recs k hkl
    have h9 := hv.rec_ k hkl
    have hro := recOf_log (r := l[k]) (q := next q) ⟨h9.2.1, by omega⟩ (by omega) h9.2.2.2.2.2.1
    show (if (z.lookTo F Z q k).stop then z.lookTo F Z q k else _) = _
    rw [ih, g, f, hro]
    have h1 : recIs z.stable.length F Z ⟨2, next q, logS l[k]⟩ = true := by
      unfold recIs
      rw [if_neg (by simp only [logS_size]; omega), hro]
      simp only [insideB, Bool.and_eq_true, decide_eq_true_eq, Bool.not_eq_true', decide_eq_false_iff_not]
      exact ⟨⟨h9.2.2.1, h9.1⟩, by omega⟩
    have h2 : decide (l[k].at_ ∈ (l.take k).map (·.at_)) = false := decide_eq_false h9.2.2.2.2.2.2
    have h3 : decide (((l.take k).length : Int) = mostN Z) = false := decide_eq_false (by have := hv.len; rw [List.length_take]; omega)
    rw [h1]
    simp only [h2, h3]
    rw [if_neg (by simp), if_neg (by simp [brokenB]), if_neg (by simp), List.take_succ_eq_append_getElem hkl]
theorem lookTo_end {z : DevS} {F Z q : Int} {l : List Rec} (hF : 0 ≤ F) (hs : z.stable.length ≤ 256) (hv : ValidL z.stable.length F Z l) (hl : LogAt z F q l) : ∀ k, l.length < k → z.lookTo F Z q k = ⟨true, 0, l, true⟩ := by
  intro k hk
  induction k with
  | zero => omega
  | succ k ih =>
    by_cases e : l.length < k
    · show (if (z.lookTo F Z q k).stop then z.lookTo F Z q k else _) = _
      rw [ih e]; rfl
    · obtain rfl : k = l.length := by omega
      obtain ⟨g, f⟩ := hl.mark
      show (if (z.lookTo F Z q l.length).stop then z.lookTo F Z q l.length else _) = _
      rw [lookTo_log hF hs hv hl _ (Nat.le_refl _), g, f, List.take_length]
      have h1 : recIs z.stable.length F Z ⟨3, next q, shortS l.length⟩ = false := by
        unfold recIs; rw [if_pos (by left; simp)]
      rw [h1]
      simp [brokenB]
theorem look_log {z : DevS} {F Z q : Int} {l : List Rec} (hc : checkE F Z = 0) (hs : z.stable.length ≤ 256) (hh : HeadAt z F q) (hv : ValidL z.stable.length F Z l) (hl : LogAt z F q l) : z.look F Z = (0, q, l, true) := by
  have hz := checkE_zero hc
  have h1 := lookTo_end (by omega) hs hv hl (Z - 1).toNat (by have := hv.len; unfold mostN at this; omega)
  unfold DevS.look
  rw [hh.head hc]
  simp only
  rw [if_neg (by simp), h1, if_neg (by simp)]
theorem appL_nodup {q : Int} {l : List Rec} (h : (l.map (·.at_)).Nodup) : ((appL q l).map (·.1)).Nodup := by
  have e : (appL q l).map (·.1) = l.map (·.at_) := by unfold appL; rw [List.map_map]; rfl
  rw [e]; exact h
theorem apply_runs {z : DevS} {F Z q : Int} {n : Nat} {l : List Rec} (hc : checkE F Z = 0) (hF : F + Z ≤ z.stable.length) (hh : HeadAt z F q) (hv : ValidL z.stable.length F Z l) (hl : LogAt z F q l) (h : z.Runs (n + l.length)) :
    ∃ y, (z.apply F Z).2 = (0, y) ∧ y.Runs n ∧ y.stable.length = z.stable.length ∧ HeadAt y F q ∧ (∀ r ∈ l, y.ge r.at_ = 0 ∧ y.fr r.at_ = ⟨r.kind, next q, r.data⟩) ∧ (∀ b : Int, 0 ≤ b → b < z.stable.length → b ∉ l.map (·.at_) → sameFr z y b) := by
  have hz := checkE_zero hc
  have hnx := next_bds q
  have hr : ∀ r ∈ l, ¬ (F ≤ r.at_ ∧ r.at_ < F + Z) ∧ 0 ≤ r.at_ ∧ r.at_ < z.stable.length ∧ 1 ≤ r.kind ∧ r.kind ≤ 255 ∧ r.data.size ≤ 96 := fun r hm => by
    obtain ⟨k, hk, rfl⟩ := List.mem_iff_getElem.1 hm
    have h9 := hv.rec_ k hk
    exact ⟨h9.1, h9.2.1, h9.2.2.1, h9.2.2.2.1, h9.2.2.2.2.1, h9.2.2.2.2.2.1⟩
  have hlen : (appL (next q) l).length = l.length := by unfold appL; simp
  obtain ⟨i1, i2, i3, i4, i5⟩ := puts_runs (appL_nodup (q := next q) hv.nodup) l.length (x := z) (n := n) (fun p hp => by
    unfold appL at hp
    obtain ⟨r, hm, rfl⟩ := List.mem_map.1 hp
    have h9 := hr r hm
    exact ⟨h9.2.1, h9.2.2.1, h9.2.2.2.1, h9.2.2.2.2.1, by show r.data.size ≤ 112; omega, hnx.1, hnx.2⟩) (by omega) h
  have htk : (appL (next q) l).take l.length = appL (next q) l := List.take_of_length_le (by omega)
  rw [htk] at i4 i5
  have hmap : (appL (next q) l).map (·.1) = l.map (·.at_) := by unfold appL; rw [List.map_map]; rfl
  obtain ⟨f1, f2, f3⟩ := flush_same i2
  have e : z.applies q l = (0, (z.puts (appL (next q) l) l.length).2.flushed) := by
    unfold DevS.applies
    rw [show z.puts (appL (next q) l) l.length = (0, (z.puts (appL (next q) l) l.length).2) from Prod.ext i1 rfl]
    exact done_runs i2
  have hnF : F ∉ l.map (·.at_) := fun hm => by
    obtain ⟨r, hm, he⟩ := List.mem_map.1 hm
    have := (hr r hm).1
    omega
  refine ⟨(z.puts (appL (next q) l) l.length).2.flushed, ?_, f1, f2.trans i3, ?_, fun r hm => ?_, fun b h1 h2 h3 => ?_⟩
  · unfold DevS.apply
    rw [look_log hc h.ok.hi hh hv hl]
    rw [if_neg (by simp), if_neg (by simp), e]
    rw [if_neg (by simp)]
  · exact (hh.same (i5 F (by omega) (by omega) (by rw [hmap]; exact hnF))).same (f3 F (by omega) (by rw [i3]; omega))
  · have h4 := i4 (r.at_, ⟨r.kind, next q, r.data⟩) (List.mem_map.2 ⟨r, hm, rfl⟩)
    have h5 := f3 r.at_ (hr r hm).2.1 (by rw [i3]; exact (hr r hm).2.2.1)
    exact ⟨h5.1.trans h4.1, h5.2.trans h4.2⟩
  · exact (i5 b h1 h2 (by rw [hmap]; exact h3)).trans (f3 b h1 (by rw [i3]; exact h2))
/-- Commit on a device that has power. -/
theorem commit_runs {x : DevS} {F Z q : Int} {n : Nat} {l : List Rec} (hc : checkE F Z = 0) (hF : F + Z ≤ x.stable.length) (hh : HeadAt x F q) (hv0 : validE x.stable.length F Z l = 0) (h : x.Runs (n + 1 + l.length + 1 + l.length)) :
    ∃ y, x.commit F Z l = (0, y) ∧ y.Runs n ∧ y.stable.length = x.stable.length ∧ HeadAt y F (next q) ∧ (∀ r ∈ l, y.ge r.at_ = 0 ∧ y.fr r.at_ = ⟨r.kind, next q, r.data⟩) ∧ (∀ b : Int, 0 ≤ b → b < x.stable.length → (b < F ∨ F + Z ≤ b) → b ∉ l.map (·.at_) → sameFr x y b) := by
  have hz := checkE_zero hc
  have hv := validL hv0
  have hnx := next_bds q
  obtain ⟨z, ez, z1, z2, z3, z4, z5⟩ := log_runs (n := n + 1 + l.length) hc hF hh hv hv0 h
  obtain ⟨y, ey, y1, y2, y3, y4, y5⟩ := apply_runs (n := n + 1) hc (by rw [z2]; exact hF) z3 (by rw [z2]; exact hv) z4 z1
  obtain ⟨j1, j2⟩ := put_runs y1 (a := F) (kind := 1) (seq := next q) (s := ⟨#[]⟩) (by rw [y2, z2]; omega) (by omega) (Nat.zero_le _) hnx
  obtain ⟨f1, f2, f3⟩ := flush_same j2.runs
  have hsz : y.stable.length = x.stable.length := y2.trans z2
  have hall : ∀ b : Int, 0 ≤ b → b < x.stable.length → b ≠ F → sameFr y (y.put F 1 (next q) ⟨#[]⟩).2.flushed b := fun b h1 h2 h3 => (j2.old b h1 (by rw [hsz]; exact h2) h3).trans (f3 b h1 (by rw [j2.size, hsz]; exact h2))
  have hr : ∀ r ∈ l, 0 ≤ r.at_ ∧ r.at_ < x.stable.length ∧ r.at_ ≠ F := fun r hm => by
    obtain ⟨k, hk, rfl⟩ := List.mem_iff_getElem.1 hm
    have h9 := hv.rec_ k hk
    exact ⟨h9.2.1, h9.2.2.1, fun e => h9.1 (by omega)⟩
  refine ⟨(y.put F 1 (next q) ⟨#[]⟩).2.flushed, ?_, f1, f2.trans (j2.size.trans hsz), ?_, fun r hm => ?_, fun b h1 h2 h3 h4 => ?_⟩
  · unfold DevS.commit
    rw [ez]
    simp only
    rw [if_neg (by simp), ey]
    simp only
    rw [if_neg (by simp)]
    unfold DevS.clear
    rw [y3.head hc]
    simp only
    rw [if_neg (by simp), show y.put F 1 (next q) ⟨#[]⟩ = (0, (y.put F 1 (next q) ⟨#[]⟩).2) from Prod.ext j1 rfl]
    exact done_runs j2.runs
  · have h5 := f3 F (by omega) (by rw [j2.size, hsz]; omega)
    exact ⟨h5.1.trans j2.new.1, h5.2.trans j2.new.2⟩
  · have h5 := hall r.at_ (hr r hm).1 (hr r hm).2.1 (hr r hm).2.2
    have h6 := y4 r hm
    exact ⟨h5.1.trans h6.1, h5.2.trans h6.2⟩
  · exact ((z5 b h1 h2 h3).trans (y5 b h1 (by rw [z2]; exact h2) h4)).trans (hall b h1 h2 (by omega))

/-! A device that was formatted. -/
theorem newDev_runs {n : Nat} (hn : 64 ≤ n ∧ n ≤ 256) (N : Nat) (hN : N ≤ 1000000000000) : (newDev n).Runs N := ⟨newDev_ok hn, rfl, rfl, by show (0 : Int) + N ≤ _; omega⟩
theorem freeRec_valid {s j i : Int} (h : rgE s j i = 0) : validE s 1 j [freeRec s j i] = 0 := by
  have hb := rg_bds h
  have hr : recE s 1 j [] (freeRec s j i) = 0 := by
    unfold recE freeRec
    rw [if_neg (by show ¬ (1 ≤ 1 + j ∧ 1 + j < 1 + j); omega), if_neg (by show ¬ (1 + j < 0 ∨ s ≤ 1 + j ∨ (5 : Int) < 1 ∨ 255 < (5 : Int)); omega), if_neg (by simp only [mapS_size]; omega), if_neg (by simp)]
  unfold validE
  rw [if_neg (by show ¬ mostN j < ((1 : Nat) : Int); unfold mostN; omega)]
  show (if validTo s 1 j [freeRec s j i] 0 ≠ 0 then _ else recE s 1 j [] (freeRec s j i)) = 0
  rw [if_neg (by show ¬ ((0 : Int) ≠ 0); simp), hr]

/-- The device behind New and Format. -/
structure Fresh (y : DevS) (s j i : Int) (N : Nat) : Prop where
  runs : y.Runs N
  size : (y.stable.length : Int) = s
  head : HeadAt y 1 1
  map_ : y.ge (1 + j) = 0 ∧ y.fr (1 + j) = ⟨5, 1, mapS (List.replicate (rgB s j i).toNat false)⟩
  blank : ∀ a : Int, (a = 0 ∨ 2 + j ≤ a) → a < s → y.ge a = 70
theorem format_fresh {s j i : Int} (h : rgE s j i = 0) (N : Nat) (hN : N ≤ 100000000000) : ∃ y, (newDev s.toNat).tfmt s j i = (0, y) ∧ Fresh y s j i N := by
  have hb := rg_bds h
  have hsz : ((newDev s.toNat).stable.length : Int) = s := by show ((List.replicate s.toNat zsec).length : Int) = s; rw [List.length_replicate]; omega
  have hck : checkE 1 j = 0 := by unfold checkE; rw [if_neg (by omega)]
  obtain ⟨x1, e1, r1, s1, h1, -, o1⟩ := jfmt_runs (x := newDev s.toNat) (F := 1) (Z := j) (n := N + 1 + 1 + 1 + 1) hck (by rw [hsz]; omega) (newDev_runs (by omega) _ (by omega))
  have s1' : (x1.stable.length : Int) = s := by rw [s1]; exact hsz
  obtain ⟨y, e2, r2, s2, h2, w2, o2⟩ := commit_runs (x := x1) (F := 1) (Z := j) (q := 0) (n := N) (l := [freeRec s j i]) hck (by rw [s1']; omega) h1 (by rw [s1']; exact freeRec_valid h) r1
  refine ⟨y, ?_, ⟨r2, by rw [s2]; exact s1', h2, w2 (freeRec s j i) (by simp), fun a ha1 ha2 => ?_⟩⟩
  · unfold DevS.tfmt
    have hf : findE (newDev s.toNat).stable.length s j i = 0 := by
      unfold findE; rw [if_neg (by simpa using h), if_neg (by omega), if_neg (by rw [hsz]; simp)]
    rw [if_neg (by simpa using hf), e1]
    simp only
    rw [if_neg (by simp), e2]
  · have hg : (newDev s.toNat).ge a = 70 := newDev_ge (by omega) (by omega)
    have h3 := o1 a (by omega) (by rw [hsz]; exact ha2) (by omega)
    have h4 := o2 a (by omega) (by rw [s1']; exact ha2) (by omega) (by
      intro hm
      simp only [List.map_cons, List.map_nil, List.mem_cons, List.mem_nil_iff, or_false] at hm
      have : a = 1 + j := hm
      omega)
    exact h4.1.trans (h3.1.trans hg)
/-- A transaction that has begun on it. -/
def freeTx (s j i : Int) : TxS := ⟨s, j, i, List.replicate (rgB s j i).toNat false, List.replicate (rgB s j i).toNat false, [], false, false, false⟩
theorem begin_fresh {y : DevS} {s j i : Int} {N : Nat} (h : rgE s j i = 0) (hy : Fresh y s j i N) : (∀ E, y.beginE s j i E ↔ E = 0) ∧ y.begins s j i = freeTx s j i ∧ (y.fr (1 + j)).data.size ≤ 1000 := by
  have hb := rg_bds h
  have hB : rgB s j i = s - (2 + j + i) := (rg_ok h).2.2.2.2
  have hl : (List.replicate (rgB s j i).toNat false).length = (rgB s j i).toNat := List.length_replicate ..
  have hst : strL (mapS (List.replicate (rgB s j i).toNat false)) = encL (List.replicate (rgB s j i).toNat false) (List.replicate (rgB s j i).toNat false).length := strL_str (encL_bytes _ _)
  have hde := dec_enc (us := List.replicate (rgB s j i).toNat false) (by rw [hl]; omega)
  rw [← hst, hl] at hde
  have hmo : mapOk (y.fr (1 + j)).data (rgB s j i).toNat := by
    rw [hy.map_.2]
    exact ⟨by rw [hst, encL_length], hde.2⟩
  have hf : findE y.stable.length s j i = 0 := by
    unfold findE; rw [if_neg (by simpa using h), if_neg (by have := hy.size; omega), if_neg (by have := hy.size; omega)]
  refine ⟨fun E => ⟨fun hE => ?_, fun hE => ?_⟩, ?_, ?_⟩
  · rcases hE with ⟨h1, -⟩ | ⟨-, h1, -⟩ | ⟨-, -, h1, -⟩ | ⟨-, -, -, -, h1⟩
    · exact absurd hf h1
    · exact absurd hy.map_.1 h1
    · exact absurd ⟨hmo, by rw [hy.map_.2]⟩ h1
    · exact h1
  · exact .inr (.inr (.inr ⟨hf, hy.map_.1, hmo, by rw [hy.map_.2], hE⟩))
  · unfold DevS.begins freeTx
    rw [hy.map_.2]
    simp only
    rw [hde.1]
  · rw [hy.map_.2]
    show (mapS _).size ≤ 1000
    rw [mapS_size]; omega

end Go.Proofs.YtljmdcegcckblaaGreatDoor
/- Layer 10 in plain words: a device that transactions live on: Commit of one, Begin of the next. No program in sight. -/
namespace Go.Proofs.YtljmdcegcckblaaGreatDoor
open Go.RowKit Go.Maps

/-- A device with a layout, the blocks of us being used. -/
structure Live (x : DevS) (s j i : Int) (us : List Bool) (N : Nat) : Prop where
  runs : x.Runs N
  size : (x.stable.length : Int) = s
  head : ∃ q, HeadAt x 1 q
  map_ : x.ge (1 + j) = 0 ∧ ∃ q, x.fr (1 + j) = ⟨5, q, mapS us⟩
  len : us.length = (rgB s j i).toNat
theorem Live.mono {x : DevS} {s j i : Int} {us : List Bool} {N M : Nat} (h : Live x s j i us N) (hm : M ≤ N) : Live x s j i us M := ⟨h.runs.mono hm, h.size, h.head, h.map_, h.len⟩
theorem Fresh.live {y : DevS} {s j i : Int} {N : Nat} (h : Fresh y s j i N) : Live y s j i (List.replicate (rgB s j i).toNat false) N := ⟨h.runs, h.size, ⟨1, h.head⟩, ⟨h.map_.1, 1, h.map_.2⟩, List.length_replicate ..⟩
/-- A transaction that has begun. -/
def begTx (s j i : Int) (us : List Bool) : TxS := ⟨s, j, i, us, us, [], false, false, false⟩
theorem begTx_clean {s j i : Int} (hj : 0 ≤ j) (us : List Bool) : (begTx s j i us).Clean := ⟨List.Pairwise.nil, fun _ h => (by cases h), fun _ h => (by cases h), hj⟩
theorem freeTx_beg (s j i : Int) : freeTx s j i = begTx s j i (List.replicate (rgB s j i).toNat false) := rfl

theorem begin_live {y : DevS} {s j i : Int} {us : List Bool} {N : Nat} (h : rgE s j i = 0) (hy : Live y s j i us N) : (∀ E, y.beginE s j i E ↔ E = 0) ∧ y.begins s j i = begTx s j i us ∧ (y.fr (1 + j)).data.size ≤ 1000 := by
  have hb := rg_bds h
  have hB : rgB s j i = s - (2 + j + i) := (rg_ok h).2.2.2.2
  obtain ⟨hg, q, hf0⟩ := hy.map_
  have hl := hy.len
  have hst : strL (mapS us) = encL us us.length := strL_str (encL_bytes _ _)
  have hde := dec_enc (us := us) (by rw [hl]; omega)
  rw [← hst, hl] at hde
  have hmo : mapOk (y.fr (1 + j)).data (rgB s j i).toNat := by
    rw [hf0]
    exact ⟨by rw [hst, encL_length], hde.2⟩
  have hf : findE y.stable.length s j i = 0 := by
    unfold findE; rw [if_neg (by simpa using h), if_neg (by have := hy.size; omega), if_neg (by have := hy.size; omega)]
  refine ⟨fun E => ⟨fun hE => ?_, fun hE => ?_⟩, ?_, ?_⟩
  · rcases hE with ⟨h1, -⟩ | ⟨-, h1, -⟩ | ⟨-, -, h1, -⟩ | ⟨-, -, -, -, h1⟩
    · exact absurd hf h1
    · exact absurd hg h1
    · exact absurd ⟨hmo, by rw [hf0]⟩ h1
    · exact h1
  · exact .inr (.inr (.inr ⟨hf, hg, hmo, by rw [hf0], hE⟩))
  · unfold DevS.begins begTx
    rw [hf0]
    simp only
    rw [hde.1]
  · rw [hf0]
    show (mapS _).size ≤ 1000
    rw [mapS_size]; omega

theorem recE_good {y : TxS} (ok : y.Ok) (hc : y.Clean) {r : Rec} (hr : r ∈ y.recs) {l : List Rec} (hl : r.at_ ∉ l.map (·.at_)) : recE y.s 1 y.j l r = 0 := by
  have hbd := rg_bds ok.rg
  have h := (recs_perm hc).mem_iff.1 hr
  have h9 : ¬ (1 ≤ r.at_ ∧ r.at_ < 1 + y.j) ∧ 0 ≤ r.at_ ∧ r.at_ < y.s ∧ 1 ≤ r.kind ∧ r.kind ≤ 255 ∧ r.data.size ≤ 96 := by
    rcases List.mem_append.1 h with h | h
    · have h1 := ok.recs r h
      have h2 := hc.out r h
      have h3 := hc.small r h
      omega
    · split at h
      · simp at h; subst h
        refine ⟨by show ¬ (1 ≤ 1 + y.j ∧ 1 + y.j < 1 + y.j); omega, by show 0 ≤ 1 + y.j; omega, by show 1 + y.j < y.s; omega, by show (1 : Int) ≤ 5; omega, by show (5 : Int) ≤ 255; omega, by show (mapS _).size ≤ 96; rw [mapS_size]; omega⟩
      · cases h
  unfold recE
  rw [if_neg h9.1, if_neg (by omega), if_neg (by omega), if_neg hl]
theorem recs_valid {y : TxS} (ok : y.Ok) (hc : y.Clean) : validE y.s 1 y.j y.recs = 0 := by
  have hbd := rg_bds ok.rg
  have hlen : (y.recs.length : Int) ≤ mostN y.j := by
    rw [recs_length hc]
    have := ok.len
    unfold TxS.left TxS.most at this
    unfold mostN
    split at this <;> simp_all <;> omega
  have hA := recs_asc hc
  have hk : ∀ k, k ≤ y.recs.length → validTo y.s 1 y.j y.recs k = 0 := by
    intro k
    induction k with
    | zero => intro _; rfl
    | succ k ih =>
      intro hk
      rw [valid_step (ih (by omega)) (by omega)]
      refine recE_good ok hc (List.getElem_mem _) fun hm => ?_
      obtain ⟨r, hr, he⟩ := List.mem_map.1 hm
      obtain ⟨i, hi, rfl⟩ := List.mem_iff_getElem.1 hr
      rw [List.getElem_take] at he
      have h1 : i < k := by rw [List.length_take] at hi; omega
      have := List.pairwise_iff_getElem.1 hA i k (by omega) (by omega) h1
      omega
  unfold validE
  rw [if_neg (by omega)]
  exact hk _ (Nat.le_refl _)

theorem commit_live {x : DevS} {y : TxS} {us : List Bool} {N : Nat} (ok : y.Ok) (hc : y.Clean) (hx : Live x y.s y.j y.i us (N + 200)) (hn : y.changed = false → y.now = us) :
    ∃ x', y.commit x = (0, x') ∧ Live x' y.s y.j y.i y.now N ∧ (∀ r ∈ y.writes, x'.ge r.at_ = 0 ∧ ∃ q, x'.fr r.at_ = ⟨r.kind, q, r.data⟩) ∧ (∀ b : Int, 0 ≤ b → b < y.s → (b < 1 ∨ 1 + y.j < b) → b ∉ y.writes.map (·.at_) → sameFr x x' b) := by
  have hbd := rg_bds ok.rg
  by_cases h0 : y.recs = []
  · have hw : y.writes = [] ∧ y.changed = false := by
      have := recs_length hc
      rw [h0] at this
      cases hch : y.changed
      · rw [hch] at this
        exact ⟨List.eq_nil_of_length_eq_zero (by simpa using this.symm), rfl⟩
      · rw [hch] at this
        simp at this
    refine ⟨x, by unfold TxS.commit; rw [if_pos h0], ?_, ?_, fun b _ _ _ _ => sameFr.refl _ _⟩
    · rw [hn hw.2]; exact hx.mono (by omega)
    · rw [hw.1]; exact fun _ h => (by cases h)
  · obtain ⟨q, hq⟩ := hx.head
    have hlen : y.recs.length ≤ 80 := by
      rw [recs_length hc]
      have := ok.len
      unfold TxS.left TxS.most at this
      split at this <;> simp_all <;> omega
    have hck : checkE 1 y.j = 0 := by unfold checkE; rw [if_neg (by omega)]
    obtain ⟨x', e, r, sz, hh, hw, ho⟩ := commit_runs (x := x) (F := 1) (Z := y.j) (q := q) (n := N) (l := y.recs) hck (by rw [hx.size]; omega) hq (by rw [hx.size]; exact recs_valid ok hc) (hx.runs.mono (by omega))
    have hmem : ∀ r ∈ y.writes, r ∈ y.recs := fun r hr => (recs_perm hc).mem_iff.2 (List.mem_append_left _ hr)
    refine ⟨x', by unfold TxS.commit; rw [if_neg h0, e], ⟨r, by rw [sz]; exact hx.size, ⟨_, hh⟩, ?_, ok.now⟩, fun r hr => ⟨(hw r (hmem r hr)).1, _, (hw r (hmem r hr)).2⟩, fun b h1 h2 h3 h4 => ?_⟩
    · cases hch : y.changed
      · have hnr : 1 + y.j ∉ y.recs.map (·.at_) := fun hm => by
          obtain ⟨r, hr, he⟩ := List.mem_map.1 hm
          unfold TxS.recs at hr
          rw [hch] at hr
          have := hc.out r (by simpa using hr)
          omega
        have hs := ho (1 + y.j) (by omega) (by rw [hx.size]; omega) (by omega) hnr
        obtain ⟨g1, q1, f1⟩ := hx.map_
        exact ⟨hs.1.trans g1, q1, by rw [hs.2, f1, hn hch]⟩
      · have hm : y.bmap ∈ y.recs := (recs_perm hc).mem_iff.2 (List.mem_append_right _ (by rw [hch]; simp))
        exact ⟨(hw _ hm).1, _, (hw _ hm).2⟩
    · refine ho b h1 (by rw [hx.size]; exact h2) (by omega) fun hm => h4 ?_
      obtain ⟨r, hr, he⟩ := List.mem_map.1 hm
      rcases List.mem_append.1 ((recs_perm hc).mem_iff.1 hr) with hr | hr
      · exact List.mem_map.2 ⟨r, hr, he⟩
      · split at hr
        · simp at hr; subst hr
          have : 1 + y.j = b := he
          omega
        · cases hr

end Go.Proofs.YtljmdcegcckblaaGreatDoor
/- TxnBlocks in plain words: what Take and Free make of the blocks. No program in sight. -/
namespace Go.Proofs.YtljmdcegcckblaaGreatDoor
open Go.RowKit Go.Maps

theorem changeE_zero {y : TxS} {us : List Bool} {n : Nat} (h : y.changeE n = 0) (hn : n ≠ 0) : (y.change us n).now = us := by
  unfold TxS.changeE at h
  unfold TxS.change
  rw [if_neg hn] at h ⊢
  split
  · rename_i h2; rw [if_pos h2] at h; exact absurd (show (12 : Int) = 0 from h) (by decide)
  · rfl
theorem orL_free {a b : List Bool} (h : a.length = b.length) {k : Nat} (hk : k < a.length) (hf : (orL a b).getD k false = false) : a.getD k true = false ∧ b.getD k true = false := by
  have e : (orL a b)[k]? = some (a[k] || b[k]'(h ▸ hk)) := by
    unfold orL
    rw [List.getElem?_zipWith, List.getElem?_eq_getElem hk, List.getElem?_eq_getElem (h ▸ hk)]
  rw [List.getD_eq_getElem?_getD, e] at hf
  simp only [Option.getD_some, Bool.or_eq_false_iff] at hf
  rw [List.getD_eq_getElem?_getD, List.getElem?_eq_getElem hk, List.getD_eq_getElem?_getD, List.getElem?_eq_getElem (h ▸ hk)]
  exact hf

theorem take_good {y : TxS} {near many : Int} (ok : y.Ok) (hs : y.stateE = 0) (h : (y.take near many).1 = 0) :
    ((y.takeL near many).length : Int) = many ∧ ∀ b ∈ y.takeL near many, 0 ≤ b ∧ b < y.now.length ∧ y.was.getD b.toNat true = false ∧ y.now.getD b.toNat true = false ∧ (y.take near many).2.now.getD b.toNat false = true := by
  have hwl : y.now.length = y.was.length := by rw [ok.now, ok.was]
  have hml : y.may.length = y.now.length := orL_length hwl
  have hC : CkE y.s y.j y.i y.may.length = 0 := by rw [hml]; exact ok_ckE ok
  have hs' : ¬ y.stateE ≠ 0 := by simpa using hs
  by_cases hA : AlE y.s y.j y.i y.may near many = 0
  rotate_left
  · obtain ⟨e, -⟩ := take_a hs hA
    rw [e] at h
    exact absurd h hA
  obtain ⟨e1, e2⟩ := take_b hs hA _ rfl
  rw [e1] at h
  have hch : y.changeE (allocd y.may near.toNat many.toNat).length = 0 := h
  rw [if_pos hch] at e2
  have hnr := AlE_near hC hA
  unfold AlE at hA
  rw [if_pos hC] at hA
  split at hA
  · exact absurd (show (7 : Int) = 0 from hA) (by decide)
  rename_i hr
  split at hA
  · exact absurd (show (11 : Int) = 0 from hA) (by decide)
  rename_i hf
  have hlen : (allocd y.may near.toNat many.toNat).length = many.toNat := by
    unfold allocd; rw [List.length_take]; omega
  refine ⟨by rw [e2, hlen]; omega, fun b hb => ?_⟩
  rw [e2] at hb
  obtain ⟨h1, h2⟩ := allocd_in (by omega) b hb
  rw [hml] at h2
  obtain ⟨h3, h4⟩ := orL_free hwl (k := b.toNat) (by omega) (allocd_free hb)
  refine ⟨h1, h2, h4, h3, ?_⟩
  have hne : (allocd y.may near.toNat many.toNat).length ≠ 0 := fun e => by
    have := List.eq_nil_of_length_eq_zero e
    rw [this] at hb; cases hb
  rw [e1, hch, TxS.after_0]
  show (y.change _ _).now.getD b.toNat false = true
  rw [changeE_zero hch hne]
  have hv := setAll_val y.now (allocd y.may near.toNat many.toNat) true b.toNat (by omega) (fun x hx => (allocd_in (by omega) x hx).1)
  rw [List.getD_eq_getElem?_getD, hv, Int.toNat_of_nonneg h1, if_pos hb]
  rfl

end Go.Proofs.YtljmdcegcckblaaGreatDoor
