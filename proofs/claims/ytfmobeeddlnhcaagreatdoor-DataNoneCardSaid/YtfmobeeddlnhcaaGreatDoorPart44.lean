/- Parts of the proof, put together by program: ZG, N1, N2. -/
import Derived.Test.YtfmobeeddlnhcaaGreatDoorPart43
import Derived.Test.YtfmobeeddlnhcaaGreatDoorPart23
/- Layers 9 and 10 in plain words: Commit on a device that has power; a device that was formatted; Begin on it. No program in sight. -/
namespace Go.Proofs.YtfmobeeddlnhcaaGreatDoor
open Go.RowKit Go.Maps

theorem lookTo_log {z : DevS} {F Z q : Int} {l : List Rec} (_hF : 0 ≤ F) (hs : z.stable.length ≤ 256) (hv : ValidL z.stable.length F Z l) (hl : LogAt z F q l) : ∀ k, k ≤ l.length → z.lookTo F Z q k = ⟨false, 0, l.take k, false⟩ := by
  intro k
  induction k with
  | zero => intro _; rfl
  | succ k ih =>
    intro hk
    have ih := ih (by omega)
    have hkl : k < l.length := by omega
    obtain ⟨g, f⟩ := hl.recs k hkl
    have h9 := hv.rec_ k hkl
    have hro := recOf_log (r := l[k]) (q := next q) ⟨h9.2.1, by omega⟩ (by omega) h9.2.2.2.2.2.1
    show (if (z.lookTo F Z q k).stop then z.lookTo F Z q k else _) = _
    rw [ih, g, f, hro]
    have h1 : recIs z.stable.length F Z ⟨2, next q, logS l[k]⟩ = true := by
      unfold recIs
      rw [if_neg (by simp only [logS_size]; omega), hro]
      simp only [insideB, Bool.and_eq_true, decide_eq_true_eq, Bool.not_eq_true', decide_eq_false_iff_not]
      exact ⟨⟨h9.2.2.1, h9.1⟩, by omega⟩
    have h2 : decide (l[k].at_ ∈ (l.take k).map (·.at_)) = false := decide_eq_false h9.2.2.2.2.2.2
    have h3 : decide (((l.take k).length : Int) = mostN Z) = false := decide_eq_false (by have := hv.len; rw [List.length_take]; omega)
    rw [h1]
    simp only [h2, h3]
    rw [if_neg (by simp), if_neg (by simp [brokenB]), if_neg (by simp), List.take_succ_eq_append_getElem hkl]
theorem lookTo_end {z : DevS} {F Z q : Int} {l : List Rec} (hF : 0 ≤ F) (hs : z.stable.length ≤ 256) (hv : ValidL z.stable.length F Z l) (hl : LogAt z F q l) : ∀ k, l.length < k → z.lookTo F Z q k = ⟨true, 0, l, true⟩ := by
  intro k hk
  induction k with
  | zero => omega
  | succ k ih =>
    by_cases e : l.length < k
    · show (if (z.lookTo F Z q k).stop then z.lookTo F Z q k else _) = _
      rw [ih e]; rfl
    · obtain rfl : k = l.length := by omega
      obtain ⟨g, f⟩ := hl.mark
      show (if (z.lookTo F Z q l.length).stop then z.lookTo F Z q l.length else _) = _
      rw [lookTo_log hF hs hv hl _ (Nat.le_refl _), g, f, List.take_length]
      have h1 : recIs z.stable.length F Z ⟨3, next q, shortS l.length⟩ = false := by
        unfold recIs; rw [if_pos (by left; simp)]
      rw [h1]
      simp [brokenB]
theorem look_log {z : DevS} {F Z q : Int} {l : List Rec} (hc : checkE F Z = 0) (hs : z.stable.length ≤ 256) (hh : HeadAt z F q) (hv : ValidL z.stable.length F Z l) (hl : LogAt z F q l) : z.look F Z = (0, q, l, true) := by
  have hz := checkE_zero hc
  have h1 := lookTo_end (by omega) hs hv hl (Z - 1).toNat (by have := hv.len; unfold mostN at this; omega)
  unfold DevS.look
  rw [hh.head hc]
  simp only
  rw [if_neg (by simp), h1, if_neg (by simp)]
theorem appL_nodup {q : Int} {l : List Rec} (h : (l.map (·.at_)).Nodup) : ((appL q l).map (·.1)).Nodup := by
  have e : (appL q l).map (·.1) = l.map (·.at_) := by unfold appL; rw [List.map_map]; rfl
  rw [e]; exact h
theorem apply_runs {z : DevS} {F Z q : Int} {n : Nat} {l : List Rec} (hc : checkE F Z = 0) (hF : F + Z ≤ z.stable.length) (hh : HeadAt z F q) (hv : ValidL z.stable.length F Z l) (hl : LogAt z F q l) (h : z.Runs (n + l.length)) :
    ∃ y, (z.apply F Z).2 = (0, y) ∧ y.Runs n ∧ y.stable.length = z.stable.length ∧ HeadAt y F q ∧ (∀ r ∈ l, y.ge r.at_ = 0 ∧ y.fr r.at_ = ⟨r.kind, next q, r.data⟩) ∧ (∀ b : Int, 0 ≤ b → b < z.stable.length → b ∉ l.map (·.at_) → sameFr z y b) := by
  have hz := checkE_zero hc
  have hnx := next_bds q
  have hr : ∀ r ∈ l, ¬ (F ≤ r.at_ ∧ r.at_ < F + Z) ∧ 0 ≤ r.at_ ∧ r.at_ < z.stable.length ∧ 1 ≤ r.kind ∧ r.kind ≤ 255 ∧ r.data.size ≤ 96 := fun r hm => by
    obtain ⟨k, hk, rfl⟩ := List.mem_iff_getElem.1 hm
    have h9 := hv.rec_ k hk
    exact ⟨h9.1, h9.2.1, h9.2.2.1, h9.2.2.2.1, h9.2.2.2.2.1, h9.2.2.2.2.2.1⟩
  have hlen : (appL (next q) l).length = l.length := by unfold appL; simp
  obtain ⟨i1, i2, i3, i4, i5⟩ := puts_runs (appL_nodup (q := next q) hv.nodup) l.length (x := z) (n := n) (fun p hp => by
    unfold appL at hp
    obtain ⟨r, hm, rfl⟩ := List.mem_map.1 hp
    have h9 := hr r hm
    exact ⟨h9.2.1, h9.2.2.1, h9.2.2.2.1, h9.2.2.2.2.1, by show r.data.size ≤ 112; omega, hnx.1, hnx.2⟩) (by omega) h
  have htk : (appL (next q) l).take l.length = appL (next q) l := List.take_of_length_le (by omega)
  rw [htk] at i4 i5
  have hmap : (appL (next q) l).map (·.1) = l.map (·.at_) := by unfold appL; rw [List.map_map]; rfl
  obtain ⟨f1, f2, f3⟩ := flush_same i2
  have e : z.applies q l = (0, (z.puts (appL (next q) l) l.length).2.flushed) := by
    unfold DevS.applies
    rw [show z.puts (appL (next q) l) l.length = (0, (z.puts (appL (next q) l) l.length).2) from Prod.ext i1 rfl]
    exact done_runs i2
  have hnF : F ∉ l.map (·.at_) := fun hm => by
    obtain ⟨r, hm, he⟩ := List.mem_map.1 hm
    have := (hr r hm).1
    omega
  refine ⟨(z.puts (appL (next q) l) l.length).2.flushed, ?_, f1, f2.trans i3, ?_, fun r hm => ?_, fun b h1 h2 h3 => ?_⟩
  · unfold DevS.apply
    rw [look_log hc h.ok.hi hh hv hl]
    rw [if_neg (by simp), if_neg (by simp), e]
    rw [if_neg (by simp)]
  · exact (hh.same (i5 F (by omega) (by omega) (by rw [hmap]; exact hnF))).same (f3 F (by omega) (by rw [i3]; omega))
  · have h4 := i4 (r.at_, ⟨r.kind, next q, r.data⟩) (List.mem_map.2 ⟨r, hm, rfl⟩)
    have h5 := f3 r.at_ (hr r hm).2.1 (by rw [i3]; exact (hr r hm).2.2.1)
    exact ⟨h5.1.trans h4.1, h5.2.trans h4.2⟩
  · exact (i5 b h1 h2 (by rw [hmap]; exact h3)).trans (f3 b h1 (by rw [i3]; exact h2))
/-- Commit on a device that has power. -/
theorem commit_runs {x : DevS} {F Z q : Int} {n : Nat} {l : List Rec} (hc : checkE F Z = 0) (hF : F + Z ≤ x.stable.length) (hh : HeadAt x F q) (hv0 : validE x.stable.length F Z l = 0) (h : x.Runs (n + 1 + l.length + 1 + l.length)) :
    ∃ y, x.commit F Z l = (0, y) ∧ y.Runs n ∧ y.stable.length = x.stable.length ∧ HeadAt y F (next q) ∧ (∀ r ∈ l, y.ge r.at_ = 0 ∧ y.fr r.at_ = ⟨r.kind, next q, r.data⟩) ∧ (∀ b : Int, 0 ≤ b → b < x.stable.length → (b < F ∨ F + Z ≤ b) → b ∉ l.map (·.at_) → sameFr x y b) := by
  have hz := checkE_zero hc
  have hv := validL hv0
  have hnx := next_bds q
  obtain ⟨z, ez, z1, z2, z3, z4, z5⟩ := log_runs (n := n + 1 + l.length) hc hF hh hv hv0 h
  obtain ⟨y, ey, y1, y2, y3, y4, y5⟩ := apply_runs (n := n + 1) hc (by rw [z2]; exact hF) z3 (by rw [z2]; exact hv) z4 z1
  obtain ⟨j1, j2⟩ := put_runs y1 (a := F) (kind := 1) (seq := next q) (s := ⟨#[]⟩) (by rw [y2, z2]; omega) (by omega) (Nat.zero_le _) hnx
  obtain ⟨f1, f2, f3⟩ := flush_same j2.runs
  have hsz : y.stable.length = x.stable.length := y2.trans z2
  have hall : ∀ b : Int, 0 ≤ b → b < x.stable.length → b ≠ F → sameFr y (y.put F 1 (next q) ⟨#[]⟩).2.flushed b := fun b h1 h2 h3 => (j2.old b h1 (by rw [hsz]; exact h2) h3).trans (f3 b h1 (by rw [j2.size, hsz]; exact h2))
  have hr : ∀ r ∈ l, 0 ≤ r.at_ ∧ r.at_ < x.stable.length ∧ r.at_ ≠ F := fun r hm => by
    obtain ⟨k, hk, rfl⟩ := List.mem_iff_getElem.1 hm
    have h9 := hv.rec_ k hk
    exact ⟨h9.2.1, h9.2.2.1, fun e => h9.1 (by omega)⟩
  refine ⟨(y.put F 1 (next q) ⟨#[]⟩).2.flushed, ?_, f1, f2.trans (j2.size.trans hsz), ?_, fun r hm => ?_, fun b h1 h2 h3 h4 => ?_⟩
  · unfold DevS.commit
    rw [ez]
    simp only
    rw [if_neg (by simp), ey]
    simp only
    rw [if_neg (by simp)]
    unfold DevS.clear
    rw [y3.head hc]
    simp only
    rw [if_neg (by simp), show y.put F 1 (next q) ⟨#[]⟩ = (0, (y.put F 1 (next q) ⟨#[]⟩).2) from Prod.ext j1 rfl]
    exact done_runs j2.runs
  · have h5 := f3 F (by omega) (by rw [j2.size, hsz]; omega)
    exact ⟨h5.1.trans j2.new.1, h5.2.trans j2.new.2⟩
  · have h5 := hall r.at_ (hr r hm).1 (hr r hm).2.1 (hr r hm).2.2
    have h6 := y4 r hm
    exact ⟨h5.1.trans h6.1, h5.2.trans h6.2⟩
  · exact ((z5 b h1 h2 h3).trans (y5 b h1 (by rw [z2]; exact h2) h4)).trans (hall b h1 h2 (by omega))

/-! A device that was formatted. -/
theorem newDev_runs {n : Nat} (hn : 64 ≤ n ∧ n ≤ 256) (N : Nat) (hN : N ≤ 1000000000000) : (newDev n).Runs N := ⟨newDev_ok hn, rfl, rfl, by show (0 : Int) + N ≤ _; omega⟩
theorem freeRec_valid {s j i : Int} (h : rgE s j i = 0) : validE s 1 j [freeRec s j i] = 0 := by
  have hb := rg_bds h
  have hr : recE s 1 j [] (freeRec s j i) = 0 := by
    unfold recE freeRec
    rw [if_neg (by show ¬ (1 ≤ 1 + j ∧ 1 + j < 1 + j); omega), if_neg (by show ¬ (1 + j < 0 ∨ s ≤ 1 + j ∨ (5 : Int) < 1 ∨ 255 < (5 : Int)); omega), if_neg (by simp only [mapS_size]; omega), if_neg (by simp)]
  unfold validE
  rw [if_neg (by show ¬ mostN j < ((1 : Nat) : Int); unfold mostN; omega)]
  show (if validTo s 1 j [freeRec s j i] 0 ≠ 0 then _ else recE s 1 j [] (freeRec s j i)) = 0
  rw [if_neg (by show ¬ ((0 : Int) ≠ 0); simp), hr]

/-- The device behind New and Format. -/
structure Fresh (y : DevS) (s j i : Int) (N : Nat) : Prop where
  runs : y.Runs N
  size : (y.stable.length : Int) = s
  head : HeadAt y 1 1
  map_ : y.ge (1 + j) = 0 ∧ y.fr (1 + j) = ⟨5, 1, mapS (List.replicate (rgB s j i).toNat false)⟩
  blank : ∀ a : Int, (a = 0 ∨ 2 + j ≤ a) → a < s → y.ge a = 70
theorem format_fresh {s j i : Int} (h : rgE s j i = 0) (N : Nat) (hN : N ≤ 100000000000) : ∃ y, (newDev s.toNat).tfmt s j i = (0, y) ∧ Fresh y s j i N := by
  have hb := rg_bds h
  have hsz : ((newDev s.toNat).stable.length : Int) = s := by show ((List.replicate s.toNat zsec).length : Int) = s; rw [List.length_replicate]; omega
  have hck : checkE 1 j = 0 := by unfold checkE; rw [if_neg (by omega)]
  obtain ⟨x1, e1, r1, s1, h1, -, o1⟩ := jfmt_runs (x := newDev s.toNat) (F := 1) (Z := j) (n := N + 1 + 1 + 1 + 1) hck (by rw [hsz]; omega) (newDev_runs (by omega) _ (by omega))
  have s1' : (x1.stable.length : Int) = s := by rw [s1]; exact hsz
  obtain ⟨y, e2, r2, s2, h2, w2, o2⟩ := commit_runs (x := x1) (F := 1) (Z := j) (q := 0) (n := N) (l := [freeRec s j i]) hck (by rw [s1']; omega) h1 (by rw [s1']; exact freeRec_valid h) r1
  refine ⟨y, ?_, ⟨r2, by rw [s2]; exact s1', h2, w2 (freeRec s j i) (by simp), fun a ha1 ha2 => ?_⟩⟩
  · unfold DevS.tfmt
    have hf : findE (newDev s.toNat).stable.length s j i = 0 := by
      unfold findE; rw [if_neg (by simpa using h), if_neg (by omega), if_neg (by rw [hsz]; simp)]
    rw [if_neg (by simpa using hf), e1]
    simp only
    rw [if_neg (by simp), e2]
  · have hg : (newDev s.toNat).ge a = 70 := newDev_ge (by omega) (by omega)
    have h3 := o1 a (by omega) (by rw [hsz]; exact ha2) (by omega)
    have h4 := o2 a (by omega) (by rw [s1']; exact ha2) (by omega) (by
      intro hm
      simp only [List.map_cons, List.map_nil, List.mem_cons, List.mem_nil_iff, or_false] at hm
      have : a = 1 + j := hm
      omega)
    exact h4.1.trans (h3.1.trans hg)
/-- A transaction that has begun on it. -/
def freeTx (s j i : Int) : TxS := ⟨s, j, i, List.replicate (rgB s j i).toNat false, List.replicate (rgB s j i).toNat false, [], false, false, false⟩
theorem begin_fresh {y : DevS} {s j i : Int} {N : Nat} (h : rgE s j i = 0) (hy : Fresh y s j i N) : (∀ E, y.beginE s j i E ↔ E = 0) ∧ y.begins s j i = freeTx s j i ∧ (y.fr (1 + j)).data.size ≤ 1000 := by
  have hb := rg_bds h
  have hB : rgB s j i = s - (2 + j + i) := (rg_ok h).2.2.2.2
  have hl : (List.replicate (rgB s j i).toNat false).length = (rgB s j i).toNat := List.length_replicate ..
  have hst : strL (mapS (List.replicate (rgB s j i).toNat false)) = encL (List.replicate (rgB s j i).toNat false) (List.replicate (rgB s j i).toNat false).length := strL_str (encL_bytes _ _)
  have hde := dec_enc (us := List.replicate (rgB s j i).toNat false) (by rw [hl]; omega)
  rw [← hst, hl] at hde
  have hmo : mapOk (y.fr (1 + j)).data (rgB s j i).toNat := by
    rw [hy.map_.2]
    exact ⟨by rw [hst, encL_length], hde.2⟩
  have hf : findE y.stable.length s j i = 0 := by
    unfold findE; rw [if_neg (by simpa using h), if_neg (by have := hy.size; omega), if_neg (by have := hy.size; omega)]
  refine ⟨fun E => ⟨fun hE => ?_, fun hE => ?_⟩, ?_, ?_⟩
  · rcases hE with ⟨h1, -⟩ | ⟨-, h1, -⟩ | ⟨-, -, h1, -⟩ | ⟨-, -, -, -, h1⟩
    · exact absurd hf h1
    · exact absurd hy.map_.1 h1
    · exact absurd ⟨hmo, by rw [hy.map_.2]⟩ h1
    · exact h1
  · exact .inr (.inr (.inr ⟨hf, hy.map_.1, hmo, by rw [hy.map_.2], hE⟩))
  · unfold DevS.begins freeTx
    rw [hy.map_.2]
    simp only
    rw [hde.1]
  · rw [hy.map_.2]
    show (mapS _).size ≤ 1000
    rw [mapS_size]; omega

end Go.Proofs.YtfmobeeddlnhcaaGreatDoor
/- The laws of layer 12: small functions. -/
namespace Go.Proofs.YtfmobeeddlnhcaaGreatDoor
open Go.RowKit Go.Maps

set_option maxRecDepth 100000 in
set_option maxHeartbeats 2000000 in
theorem sameInts_any (A Bl : Option Addr) (c d : Nat) (la lb : List Int) (hla : la.length ≤ 100000) (hlb : lb.length ≤ 100000) (w : World) (hA : Reads w A (la.map (.int .i64))) (hB : Reads w Bl (lb.map (.int .i64))) :
    Calls Tryz.prog 36 #[.slice A la.length c, .slice Bl lb.length d] w fun e w' => e = .returned (.bool (decide (la = lb))) ∧ Below w.heap.size w w' := by
  by_cases hl : la.length = lb.length
  rotate_left
  · have hd : decide (la = lb) = false := decide_eq_false fun e => hl (by rw [e])
    have HD := Lib.hid hd
    have hq : ((la.length : Int) != (lb.length : Int)) = true := by simp; omega
    clear hd hl
    go_enter Tryz.func36, Tryz.ntmps36
    go_wp2_with fail
    go_ret
    exact ⟨by rw [HD.out]; rfl, Below.refl _ _⟩
  · have hq : ((la.length : Int) != (lb.length : Int)) = false := by simp; omega
    have HL := Lib.hid hl
    clear hl
    go_enter Tryz.func36, Tryz.ntmps36
    go_wp2_with fail
    go_loopw [5] (fun q wr => ∃ k : Nat, k ≤ la.length ∧ q = .int .i64 k ∧ la.take k = lb.take k ∧ Below w.heap.size w wr) (fun q _ => la.length - (intOf q).toNat)
    case atStart => exact ⟨0, Nat.zero_le _, rfl, by simp, Below.refl _ _⟩
    case round =>
      obtain ⟨k, hk, rfl, ht, hb⟩ := hrel
      by_cases hlt : k < la.length
      · have hlt2 : k < lb.length := by have := HL.out; omega
        obtain ⟨b1, o1, rfl, hb1, hc1⟩ := (hA.below hb).at_ (k := k) (by simpa using hlt)
        obtain ⟨b2, o2, rfl, hb2, hc2⟩ := (hB.below hb).at_ (k := k) (by simpa using hlt2)
        rw [List.getElem_map] at hc1 hc2
        have hta : la.take (k + 1) = la.take k ++ [la[k]] := by rw [List.take_succ_eq_append_getElem hlt]
        have htb : lb.take (k + 1) = lb.take k ++ [lb[k]] := by rw [List.take_succ_eq_append_getElem hlt2]
        have HNE : Hid (la[k] ≠ lb[k] → decide (la = lb) = false) := Lib.hid fun hne => decide_eq_false fun e => hne (by subst e; rfl)
        have HT := Lib.hid ht
        have HA' := Lib.hid hA
        have HB' := Lib.hid hB
        have HTA := Lib.hid hta
        have HTB := Lib.hid htb
        generalize la[k] = x at *
        generalize lb[k] = z at *
        clear hta htb ht hA hB
        by_cases he : x = z
        · subst he
          go_wp2_with fail
          go_quiet (fail)
          go_wp2_with fail
          go_roundw
          case rel => exact ⟨k + 1, by omega, by go_num, by rw [HTA.out, HTB.out, HT.out], below_drewN' hb _⟩
          case measure => simp [intOf]; omega
        · have hn : (x != z) = true := by simpa using he
          have HF := Lib.hid (HNE.out he)
          clear he
          go_wp2_with fail
          go_quiet (fail)
          go_wp2_with fail
          go_ret
          exact ⟨by rw [HF.out]; rfl, below_drewN' hb _⟩
      · obtain rfl : k = la.length := by omega
        have HD : Hid (decide (la = lb) = true) := Lib.hid (decide_eq_true (by rw [List.take_length, HL.out, List.take_length] at ht; exact ht))
        clear ht
        go_wp2_with fail
        go_ret
        exact ⟨by rw [HD.out]; rfl, hb⟩

def letK (c : Int) (n k : Nat) : List Int := List.replicate k c ++ List.replicate (n - k) 0
theorem letK_set (c : Int) (n k : Nat) (hk : k < n) : (letK c n k).set k c = letK c n (k + 1) := by
  unfold letK
  apply List.ext_getElem?
  intro i
  by_cases hi : i = k
  · subst hi
    rw [List.getElem?_set_self (by simp; omega), List.getElem?_append_left (by simp), List.getElem?_replicate, if_pos (by omega)]
  · rw [List.getElem?_set_ne (fun e => hi e.symm)]
    by_cases h2 : i < k
    · rw [List.getElem?_append_left (by simpa using h2), List.getElem?_append_left (by simp; omega), List.getElem?_replicate, List.getElem?_replicate, if_pos h2, if_pos (by omega)]
    · rw [List.getElem?_append_right (by simp; omega), List.getElem?_append_right (by simp; omega), List.getElem?_replicate, List.getElem?_replicate]
      simp only [List.length_replicate]
      by_cases h3 : i < n
      · rw [if_pos (by omega), if_pos (by omega)]
      · rw [if_neg (by omega), if_neg (by omega)]

set_option maxRecDepth 100000 in
set_option maxHeartbeats 2000000 in
theorem letters_any (c : Int) (n : Nat) (hn : n ≤ 1000) (w : World) :
    Calls Tryz.prog 41 #[.int .u8 c, .int .i64 n] w fun e w' => e = .returned (.string (lettersB c n)) ∧ Below w.heap.size w w' := by
  have hmk := make_bytes n (by omega) w
  have HB : Hid (bytesV (letK c n 0) = fill (.int .u8 0) n) := Lib.hid (by unfold letK; rw [← bytesV_rep]; simp)
  have HX : Hid (lettersB c n = strOfNums (letK c n n)) := Lib.hid (by unfold lettersB letK; simp)
  go_enter Tryz.func41, Tryz.ntmps41
  go_wp2_with fail
  clear hmk
  go_loopw [6] (fun q wr => ∃ k : Nat, k ≤ n ∧ q = .int .i64 k ∧ Blk wr w.heap.size 5 (bytesV (letK c n k)) ∧ Below w.heap.size w wr) (fun q _ => n - (intOf q).toNat)
  case atStart => exact ⟨0, Nat.zero_le _, rfl, by rw [HB.out]; exact Blk.new _ _ _, (Below.refl _ _).alloc (Nat.le_refl _) _⟩
  case round =>
    obtain ⟨k, hk, rfl, b, hb⟩ := hrel
    have hll : (letK c n k).length = n := by unfold letK; simp; omega
    by_cases hlt : k < n
    · have hcx : wr.cell? ⟨w.heap.size, k, none⟩ = some (.int .u8 ((letK c n k).getD k 0)) := (b.cells k).trans (bytesV_get (by omega))
      have HS := Lib.hid (letK_set c n k hlt)
      have lB := b.lt
      have fB := b.free k
      have HBK := Lib.hid b
      generalize (letK c n k).getD k 0 = z at hcx
      clear b hll
      go_wp2_with fail
      go_roundw
      case rel => exact ⟨k + 1, by omega, by go_num, by rw [← HS.out, ← bytesV_set]; exact HBK.out.set_ k _, hb.setCell (p := ⟨w.heap.size, k, none⟩) (Nat.le_refl _) _⟩
      case measure => simp [intOf]; omega
    · obtain rfl : k = n := by omega
      have hcv := conv_bytes (some ⟨w.heap.size, 0, none⟩) k k (letK c k k) hll wr (reads_bytes b)
      clear b hll
      go_wp2_with fail
      go_ret
      exact ⟨by rw [HX.out]; rfl, hb⟩

end Go.Proofs.YtfmobeeddlnhcaaGreatDoor
/- The laws of layer 12: a device that was formatted and a transaction on it. -/
namespace Go.Proofs.YtfmobeeddlnhcaaGreatDoor
open Go.RowKit Go.Maps

def BegunPost (w : World) (s j i : Int) (e : Ending) (w' : World) : Prop :=
  ∃ D T F B y, e = .returned (.tuple #[.pointer (some ⟨D, 0, none⟩), .pointer (some ⟨T, 0, none⟩)]) ∧ Fresh y s j i 1000000 ∧ TD w' T F D (freeTx s j i) B y ∧ Below w.heap.size w w' ∧ (∀ b ∈ F, w.heap.size ≤ b) ∧ ∀ b ∈ B, w.heap.size ≤ b

set_option maxRecDepth 100000 in
set_option maxHeartbeats 2000000 in
theorem begun_fresh (ns : Nat) (j i : Int) (h : rgE ns j i = 0) (w : World) (hH : HalfAt w) :
    Calls Tryz.prog 15 #[.agg #[.int .i64 ns, .int .i64 j, .int .i64 i]] w (BegunPost w ns j i) := by
  obtain ⟨wA, hA⟩ : ∃ wA, wA = w.alloc (.cells #[.int .i64 ns, .int .i64 j, .int .i64 i] 38) := ⟨_, rfl⟩
  have bL : Blk wA w.heap.size 38 #[.int .i64 ns, .int .i64 j, .int .i64 i] := by rw [hA]; exact (by (repeat' (first | (with_reducible assumption) | exact Blk.new' (by simp) | refine Blk.alloc ?_ _)))
  have BA : Below w.heap.size w wA := by rw [hA]; (repeat' (first | (with_reducible exact Below.refl _ _) | (with_reducible assumption) | (with_reducible refine Below.alloc ?_ ?_ _) | (with_reducible refine Below.drew ?_) | (with_reducible refine below_drewN' ?_ _) | (with_reducible refine Below.setCell ?_ ?_ _) | (with_reducible exact Nat.le_refl _) | omega | (simp; done) | (simp; omega)))
  have hHA : HalfAt wA := hH.below BA hH.1
  have hbd := rg_bds h
  obtain ⟨y, hy, hF⟩ := format_fresh h 1000000 (by omega)
  rw [Int.toNat_natCast] at hy
  obtain ⟨hb1, hb2, hb3⟩ := begin_fresh h hF
  have hnew := new_dev ns (by omega) wA hHA
  have cL := bL.cells
  have lL := bL.lt
  have hp0 := hH.1
  have lA := bL.lt
  unfold BegunPost
  go_enter Tryz.func15, Tryz.ntmps15
  go_wp2_with fail
  rw [← hA]
  go_wp2_with fail
  refine hnew.mono ?_
  rintro e w1 ⟨D, B0, rfl, hd1, hw1, hB0⟩
  have B1 := BA.trans (hw1.mono BA.size)
  have bL1 := bL.belowAll hw1
  clear hnew cL lL bL hA hHA
  have cL := bL1.cells
  have lL := bL1.lt
  go_wp2_with fail
  refine (tformat_dev D ns j i B0 (newDev ns) w1 hd1).mono ?_
  rintro e w2 ⟨rfl, B, hd2, g2⟩
  rw [hy] at hd2 ⊢
  have hg0 : w.heap.size ∉ B0 := fun hm => by have := hB0 _ hm; omega
  have bL2 := g2.blk bL1 hg0
  have B2 : Below w.heap.size w w2 := B1.trans (g2.below B1.size fun b hb => by have := hB0 b hb; omega)
  have hBB : ∀ b ∈ B, w.heap.size ≤ b := fun b hb => by
    rcases g2.new b hb with h3 | h3
    · have := hB0 b h3; omega
    · have := B1.size; omega
  clear cL lL bL1 hd1 hw1 g2 hg0 hB0
  have cL := bL2.cells
  have lL := bL2.lt
  have Hb1 := Lib.hid hb1
  have Hb2 := Lib.hid hb2
  have HF := Lib.hid hF
  have Hh := Lib.hid h
  clear hy hb1 hb2 hF h
  go_wp2_with fail
  refine (begin_dev D ns j i B y w2 hd2 hb3).mono ?_
  rintro e w3 ⟨hb4, E, hE, ⟨h5, -⟩ | ⟨-, T, F, rfl, ht, hFF⟩⟩
  · exact absurd ((Hb1.out E).1 hE) h5
  rw [Hb2.out] at ht
  have B3 := B2.trans (hb4.mono B2.size)
  have hd3 := hd2.below hb4
  have hlt := hd2.lt
  clear cL lL bL2 hb4 hE
  go_wp2_with fail
  go_ret2
  exact ⟨D, T, F, B, y, rfl, HF.out, ⟨ht, hd3, fun b hb hm => by have := hFF b hb; have := (hlt b hm).2; omega⟩, B3, fun b hb => by have := hFF b hb; have := B2.size; omega, hBB⟩
end Go.Proofs.YtfmobeeddlnhcaaGreatDoor
