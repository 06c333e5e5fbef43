/- Parts of the proof, put together by program: UC, UD, UE, UF, UG. -/
import Derived.Test.YtloddiipepiocaaGreatDoorPart26
import Derived.Test.YtloddiipepiocaaGreatDoorPart41
set_option linter.unusedVariables false
set_option linter.unusedSimpArgs false
/- Layers 6, 7 and 9 in plain words: writes under a limited power, and a crash. No program in sight. -/
namespace Go.Proofs.YtloddiipepiocaaGreatDoor
open Go.RowKit Go.Maps

/-- A frame as the sector that is written. -/
def sealP (p : Int × Fr) : Int × List Int := (p.1, sealL p.1 p.2.kind p.2.seq p.2.data)
/-- A frame that can be written. -/
structure FitP (n : Nat) (p : Int × Fr) : Prop where
  at_ : 0 ≤ p.1 ∧ p.1 < n
  kind : 1 ≤ p.2.kind ∧ p.2.kind ≤ 255
  data : p.2.data.size ≤ 112
  seq : 0 ≤ p.2.seq ∧ p.2.seq < 4294967296
/-- What writes have done so far: k of them are in the cache; either all went, or the power has gone. -/
structure Went (x z : DevS) (ws : List (Int × List Int)) (E : Int) (k m : Nat) : Prop where
  sta : z.stable = x.stable
  cac : z.cache = x.cache ++ ws.take k
  end_ : (E = 0 ∧ k = m ∧ z.off = false) ∨ (E = 13 ∧ z.off = true)
theorem put_limited {x : DevS} (ok : x.Ok) (hon : x.off = false) (hroom : x.cache.length < 400) {p : Int × Fr} (hp : FitP x.stable.length p) :
    ((x.put p.1 p.2.kind p.2.seq p.2.data).1 = 0 ∧ (x.put p.1 p.2.kind p.2.seq p.2.data).2.stable = x.stable ∧ (x.put p.1 p.2.kind p.2.seq p.2.data).2.cache = x.cache ++ [sealP p] ∧ (x.put p.1 p.2.kind p.2.seq p.2.data).2.off = false) ∨
    ((x.put p.1 p.2.kind p.2.seq p.2.data).1 = 13 ∧ (x.put p.1 p.2.kind p.2.seq p.2.data).2 = { x with off := true }) := by
  have hE : sealE p.1 p.2.kind p.2.data.size = 0 := sealE_ok (by have := ok.hi; have := hp.at_; omega) hp.kind hp.data
  unfold DevS.put
  rw [if_pos hE]
  unfold DevS.write
  rw [if_neg (by rw [atE_in hon hp.at_]; simp)]
  by_cases h : x.power = 0 ∨ x.taken = 1000000000000
  · rw [if_pos h]; exact .inr ⟨rfl, rfl⟩
  · rw [if_neg h]
    have hr : x.room = x := by unfold DevS.room; rw [if_neg (by omega)]
    rw [hr]
    exact .inl ⟨rfl, rfl, rfl, hon⟩
theorem put_ok {x : DevS} (ok : x.Ok) {p : Int × Fr} (hp : FitP x.stable.length p) : (x.put p.1 p.2.kind p.2.seq p.2.data).2.Ok := by
  have hE : sealE p.1 p.2.kind p.2.data.size = 0 := sealE_ok (by have := ok.hi; have := hp.at_; omega) hp.kind hp.data
  unfold DevS.put
  rw [if_pos hE]
  exact ok.write _ ⟨sealL_length p.1 p.2.kind p.2.seq p.2.data hp.data, sealL_bytes p.2.seq hE⟩
/-- Writes under any power: a prefix of them is in the cache. -/
theorem puts_limited {x : DevS} (ok : x.Ok) (hon : x.off = false) {L : List (Int × Fr)} (hL : ∀ p ∈ L, FitP x.stable.length p) (hroom : x.cache.length + L.length ≤ 400) :
    ∀ m, m ≤ L.length → (x.puts L m).2.Ok ∧ ∃ k, k ≤ m ∧ Went x (x.puts L m).2 (L.map sealP) (x.puts L m).1 k m := by
  intro m
  induction m with
  | zero => exact fun _ => ⟨ok, 0, Nat.le_refl _, ⟨rfl, by show x.cache = x.cache ++ (L.map sealP).take 0; simp, .inl ⟨rfl, rfl, hon⟩⟩⟩
  | succ m ih =>
    intro hm
    obtain ⟨iok, k, hk, g⟩ := ih (by omega)
    have e : x.puts L (m + 1) = if (x.puts L m).1 ≠ 0 then x.puts L m else (x.puts L m).2.put (L.getD m default).1 (L.getD m default).2.kind (L.getD m default).2.seq (L.getD m default).2.data := rfl
    rw [e]
    rcases g.end_ with ⟨h0, rfl, ho⟩ | ⟨h13, ho⟩
    · rw [if_neg (by simpa using h0)]
      have hgd : L.getD k default = L[k] := by rw [List.getD_eq_getElem?_getD, List.getElem?_eq_getElem (by omega)]; rfl
      have hp := hL L[k] (List.getElem_mem _)
      have hp2 : FitP (x.puts L k).2.stable.length L[k] := by rw [g.sta]; exact hp
      have hlen : (x.puts L k).2.cache.length < 400 := by rw [g.cac, List.length_append, List.length_take, List.length_map]; omega
      rw [hgd]
      refine ⟨put_ok iok hp2, ?_⟩
      rcases put_limited iok ho hlen hp2 with ⟨p1, p2, p3, p4⟩ | ⟨p1, p2⟩
      · refine ⟨k + 1, Nat.le_refl _, ⟨p2.trans g.sta, ?_, .inl ⟨p1, rfl, p4⟩⟩⟩
        rw [p3, g.cac, List.append_assoc]
        congr 1
        rw [List.take_succ_eq_append_getElem (by rw [List.length_map]; omega), List.getElem_map]
      · rw [p1, p2]
        exact ⟨k, by omega, ⟨g.sta, g.cac, .inr ⟨rfl, rfl⟩⟩⟩
    · rw [if_pos (by rw [h13]; decide)]
      exact ⟨iok, k, by omega, ⟨g.sta, g.cac, .inr ⟨h13, ho⟩⟩⟩

/-- A crash: of the cache's writes only those of a list are there. -/
def DevS.crashed (x : DevS) (keep : List Nat) : DevS := { x with stable := stApply x.stable (keep.map fun i => x.cache.getD i (0, [])), cache := [], power := -1, off := false }
/-- A sector behind a crash: as it was, or as one of the writes left it. -/
theorem stApply_any {c : List (Int × List Int)} : ∀ (st : List (List Int)) (a : Nat), a < st.length → (∀ p ∈ c, 0 ≤ p.1) → (stApply st c).getD a [] = st.getD a [] ∨ ∃ s, ((a : Int), s) ∈ c ∧ (stApply st c).getD a [] = s := by
  induction c with
  | nil => intro st a _ _; exact .inl rfl
  | cons p t ih =>
    intro st a ha hc
    have h0 := hc p (by simp)
    rcases ih (st.set p.1.toNat p.2) a (by rw [List.length_set]; exact ha) (fun q hq => hc q (List.mem_cons_of_mem _ hq)) with h | ⟨s, hs, h⟩
    · by_cases e : p.1 = a
      · refine .inr ⟨p.2, by rw [← e]; simp, ?_⟩
        refine Eq.trans h ?_
        rw [e, Int.toNat_natCast, List.getD_eq_getElem?_getD, List.getElem?_set_self ha]; rfl
      · refine .inl (Eq.trans h ?_)
        rw [List.getD_eq_getElem?_getD, List.getD_eq_getElem?_getD, List.getElem?_set_ne (by omega)]
    · exact .inr ⟨s, List.mem_cons_of_mem _ hs, h⟩
end Go.Proofs.YtloddiipepiocaaGreatDoor
/- Layer 9 in plain words: Look on a journal that a crash has left. No program in sight. -/
namespace Go.Proofs.YtloddiipepiocaaGreatDoor
open Go.RowKit Go.Maps

/-- The log's first frames are there. -/
def LogTo (z : DevS) (F q : Int) (l : List Rec) (j : Nat) : Prop := ∀ k, (hk : k < l.length) → k < j → z.ge (F + 1 + k) = 0 ∧ z.fr (F + 1 + k) = ⟨2, next q, logS l[k]⟩
theorem lookTo_to {z : DevS} {F Z q : Int} {l : List Rec} {j : Nat} (hF : 0 ≤ F) (hs : z.stable.length ≤ 256) (hv : ValidL z.stable.length F Z l) (hl : LogTo z F q l j) : ∀ k, k ≤ l.length → k ≤ j → z.lookTo F Z q k = ⟨false, 0, l.take k, false⟩ := by
  intro k
  induction k with
  | zero => intro _ _; rfl
  | succ k ih =>
    intro hk hj
    have ih := ih (by omega) (by omega)
    have hkl : k < l.length := by omega
    obtain ⟨g, f⟩ := hl k hkl (by omega)
    have h9 := hv.rec_ k hkl
    have hro := recOf_log (r := l[k]) (q := next q) ⟨h9.2.1, by omega⟩ (by omega) h9.2.2.2.2.2.1
    show (if (z.lookTo F Z q k).stop then z.lookTo F Z q k else _) = _
    rw [ih, g, f, hro]
    have h1 : recIs z.stable.length F Z ⟨2, next q, logS l[k]⟩ = true := by
      unfold recIs
      rw [if_neg (by simp only [logS_size]; omega), hro]
      simp only [insideB, Bool.and_eq_true, decide_eq_true_eq, Bool.not_eq_true', decide_eq_false_iff_not]
      exact ⟨⟨h9.2.2.1, h9.1⟩, by omega⟩
    have h2 : decide (l[k].at_ ∈ (l.take k).map (·.at_)) = false := decide_eq_false h9.2.2.2.2.2.2
    have h3 : decide (((l.take k).length : Int) = mostN Z) = false := decide_eq_false (by have := hv.len; rw [List.length_take]; omega)
    rw [h1]
    simp only [h2, h3]
    rw [if_neg (by simp), if_neg (by simp [brokenB]), if_neg (by simp), List.take_succ_eq_append_getElem hkl]
/-- A frame of another number ends the run, and it is not whole. -/
theorem lookTo_stop {z : DevS} {F Z q : Int} {l : List Rec} {j : Nat} (hF : 0 ≤ F) (hs : z.stable.length ≤ 256) (hv : ValidL z.stable.length F Z l) (hl : LogTo z F q l j) (hj : j ≤ l.length) (hb : brokenB (z.ge (F + 1 + j)) = false) (hn : ¬ (z.ge (F + 1 + j) = 0 ∧ (z.fr (F + 1 + j)).seq = next q)) :
    ∀ k, j < k → z.lookTo F Z q k = ⟨true, 0, l.take j, false⟩ := by
  intro k hk
  induction k with
  | zero => omega
  | succ k ih =>
    by_cases e : j < k
    · show (if (z.lookTo F Z q k).stop then z.lookTo F Z q k else _) = _
      rw [ih e]; rfl
    · obtain rfl : k = j := by omega
      have h1 : (z.ge (F + 1 + k) == 0 && (z.fr (F + 1 + k)).seq == next q) = false := by
        rw [Bool.and_eq_false_iff]
        by_cases h : z.ge (F + 1 + k) = 0
        · exact .inr (by simpa using fun h2 => hn ⟨h, h2⟩)
        · exact .inl (by simpa using h)
      show (if (z.lookTo F Z q k).stop then z.lookTo F Z q k else _) = _
      rw [lookTo_to hF hs hv hl k hj (Nat.le_refl _), h1, hb]
      simp
/-- A journal whose body has older frames and frames of a log: the log is there, or Look does not find it whole. -/
structure Mixed (z : DevS) (F Z q : Int) (l : List Rec) : Prop where
  head : HeadAt z F q
  body : ∀ b : Int, F + 1 ≤ b → b < F + Z → brokenB (z.ge b) = false ∧ (¬ (z.ge b = 0 ∧ (z.fr b).seq = next q) ∨ (∃ k, ∃ hk : k < l.length, b = F + 1 + k ∧ z.ge b = 0 ∧ z.fr b = ⟨2, next q, logS l[k]⟩) ∨ (b = F + 1 + l.length ∧ z.ge b = 0 ∧ z.fr b = ⟨3, next q, shortS l.length⟩))
theorem look_mixed {z : DevS} {F Z q : Int} {l : List Rec} (hc : checkE F Z = 0) (hs : z.stable.length ≤ 256) (hv : ValidL z.stable.length F Z l) (h : Mixed z F Z q l) :
    (LogAt z F q l ∧ z.look F Z = (0, q, l, true)) ∨ ∃ r, z.look F Z = (0, q, r, false) := by
  have hz := checkE_zero hc
  have hm : (l.length : Int) ≤ Z - 2 := by have := hv.len; unfold mostN at this; omega
  have hlook : ∀ {j : Nat}, j ≤ l.length → LogTo z F q l j → ¬ (z.ge (F + 1 + j) = 0 ∧ (z.fr (F + 1 + j)).seq = next q) → ∃ r, z.look F Z = (0, q, r, false) := fun {j} hj hl hn => by
    have h1 := lookTo_stop (by omega) hs hv hl hj (h.body (F + 1 + j) (by omega) (by omega)).1 hn (Z - 1).toNat (by omega)
    refine ⟨l.take j, ?_⟩
    unfold DevS.look
    rw [h.head.head hc]
    simp only
    rw [if_neg (by simp), h1, if_neg (by simp)]
  by_cases hall : LogTo z F q l l.length
  · rcases (h.body (F + 1 + l.length) (by omega) (by omega)).2 with hn | ⟨k, hk, e, -⟩ | ⟨-, g, f⟩
    · exact .inr (hlook (Nat.le_refl _) hall hn)
    · omega
    · have hL : LogAt z F q l := ⟨fun k hk => hall k hk hk, g, f⟩
      exact .inl ⟨hL, look_log hc hs h.head hv hL⟩
  · refine .inr ?_
    -- the first frame that is not the log's
    have hex : ∃ j, j < l.length ∧ LogTo z F q l j ∧ ¬ (z.ge (F + 1 + j) = 0 ∧ (z.fr (F + 1 + j)).seq = next q) := by
      refine Classical.byContradiction fun hno => hall ?_
      have hind : ∀ j, j ≤ l.length → LogTo z F q l j := by
        intro j
        induction j with
        | zero => intro _ k _ h0; omega
        | succ j ih =>
          intro hj k hk hkj
          by_cases e : k = j
          · subst e
            rcases (h.body (F + 1 + k) (by omega) (by omega)).2 with hn | ⟨i, hi, e, g, f⟩ | ⟨e, -⟩
            · exact absurd ⟨k, hk, ih (by omega), hn⟩ hno
            · obtain rfl : i = k := by omega
              exact ⟨g, f⟩
            · omega
          · exact ih (by omega) k hk (by omega)
      exact hind _ (Nat.le_refl _)
    obtain ⟨j, hj, hl, hn⟩ := hex
    exact hlook (by omega) hl hn
end Go.Proofs.YtloddiipepiocaaGreatDoor
/- Layers 6 to 9 in plain words: what a sector has behind a crash. No program in sight. -/
namespace Go.Proofs.YtloddiipepiocaaGreatDoor
open Go.RowKit Go.Maps

theorem reads_empty {x : DevS} (h : x.cache = []) (a : Int) : x.reads a = x.stable.getD a.toNat [] := by
  unfold DevS.reads DevS.idx
  rw [h]
  rfl
/-- Behind a crash a sector is as it was when all was stable, or as one of the writes since then left it. -/
theorem crash_any {x z : DevS} (okx : x.Ok) (hx : x.cache = []) (hon : x.off = false) (hst : z.stable = x.stable) {L : List (Int × Fr)} (hL : ∀ p ∈ L, FitP x.stable.length p) {k : Nat} (hc : z.cache = (L.map sealP).take k) (keep : List Nat) (hk : ∀ i ∈ keep, i < z.cache.length) {b : Int} (hb : 0 ≤ b ∧ b < x.stable.length) :
    sameFr x (z.crashed keep) b ∨ ∃ p ∈ L, p.1 = b ∧ (z.crashed keep).ge b = 0 ∧ (z.crashed keep).fr b = p.2 := by
  have hmem : ∀ q ∈ keep.map (fun i => z.cache.getD i (0, [])), ∃ p ∈ L, q = sealP p := fun q hq => by
    obtain ⟨i, hi, rfl⟩ := List.mem_map.1 hq
    have hl := hk i hi
    rw [List.getD_eq_getElem?_getD, List.getElem?_eq_getElem hl]
    have hm : z.cache[i] ∈ (L.map sealP).take k := by rw [← hc]; exact List.getElem_mem hl
    obtain ⟨p, hp, e⟩ := List.mem_map.1 (List.mem_of_mem_take hm)
    exact ⟨p, hp, e.symm⟩
  have hsz : (z.crashed keep).stable.length = x.stable.length := by
    show (stApply z.stable _).length = _
    rw [stApply_length, hst]
  have hr : (z.crashed keep).reads b = (stApply x.stable (keep.map fun i => z.cache.getD i (0, []))).getD b.toNat [] := by
    rw [reads_empty rfl]
    show (stApply z.stable _).getD _ _ = _
    rw [hst]
  rcases stApply_any (c := keep.map fun i => z.cache.getD i (0, [])) x.stable b.toNat (by omega) (fun q hq => by
    obtain ⟨p, hp, rfl⟩ := hmem q hq
    exact (hL p hp).at_.1) with h | ⟨s, hs, h⟩
  · refine .inl (same_fr hon.symm hsz ?_)
    rw [hr, h, reads_empty hx]
  · obtain ⟨p, hp, e⟩ := hmem _ hs
    have hf := hL p hp
    have e1 : (b.toNat : Int) = p.1 := congrArg Prod.fst e
    have e2 : s = sealL p.1 p.2.kind p.2.seq p.2.data := congrArg Prod.snd e
    have hpb : p.1 = b := by omega
    have hE : sealE p.1 p.2.kind p.2.data.size = 0 := sealE_ok (by have := okx.hi; have := hf.at_; omega) hf.kind hf.data
    refine .inr ⟨p, hp, hpb, ?_⟩
    have hg := get_sealed (x := z.crashed keep) (a := p.1) (kind := p.2.kind) (seq := p.2.seq) (s := p.2.data) rfl (by rw [hsz]; exact hf.at_) hE hf.seq (by rw [hpb, hr, h, e2, hpb])
    rw [hpb] at hg
    exact hg
/-- The frames that Log writes, the mark with them. -/
def logAll (F q : Int) (l : List Rec) : List (Int × Fr) := logL F (next q) l ++ [(F + 1 + l.length, ⟨3, next q, shortS l.length⟩)]
theorem logAll_mem {F q : Int} {l : List Rec} {p : Int × Fr} (h : p ∈ logAll F q l) : (∃ k, ∃ hk : k < l.length, p = (F + 1 + k, ⟨2, next q, logS l[k]⟩)) ∨ p = (F + 1 + l.length, ⟨3, next q, shortS l.length⟩) := by
  rcases List.mem_append.1 h with h | h
  · exact .inl (logL_mem h)
  · exact .inr (by simpa using h)
theorem logAll_fit {n : Nat} {F Z q : Int} {l : List Rec} (hc : checkE F Z = 0) (hF : F + Z ≤ n) (hv : ValidL n F Z l) : ∀ p ∈ logAll F q l, FitP n p ∧ F + 1 ≤ p.1 ∧ p.1 < F + Z := fun p hp => by
  have hz := checkE_zero hc
  have hnx := next_bds q
  have hm : (l.length : Int) ≤ Z - 2 := by have := hv.len; unfold mostN at this; omega
  rcases logAll_mem hp with ⟨k, hk, rfl⟩ | rfl
  · have h9 := hv.rec_ k hk
    refine ⟨⟨⟨by show 0 ≤ F + 1 + (k : Int); omega, by show F + 1 + (k : Int) < _; omega⟩, ⟨by show (1 : Int) ≤ 2; omega, by show (2 : Int) ≤ 255; omega⟩, ?_, hnx⟩, by show F + 1 ≤ F + 1 + (k : Int); omega, by show F + 1 + (k : Int) < F + Z; omega⟩
    show (logS l[k]).size ≤ 112
    rw [logS_size]; omega
  · refine ⟨⟨⟨by show 0 ≤ F + 1 + (l.length : Int); omega, by show F + 1 + (l.length : Int) < _; omega⟩, ⟨by show (1 : Int) ≤ 3; omega, by show (3 : Int) ≤ 255; omega⟩, ?_, hnx⟩, by show F + 1 ≤ F + 1 + (l.length : Int); omega, by show F + 1 + (l.length : Int) < F + Z; omega⟩
    show (shortS l.length).size ≤ 112
    unfold shortS bstr; rw [strOfNums_size]; simp
/-- A device that is at rest: nothing in the cache, a head, no frame of a later number in the journal's body. -/
structure Rest (x : DevS) (F Z q : Int) : Prop where
  ok : x.Ok
  cache : x.cache = []
  on : x.off = false
  head : HeadAt x F q
  num : 0 ≤ q ∧ q < 4294967290
  old : ∀ b : Int, F + 1 ≤ b → b < F + Z → brokenB (x.ge b) = false ∧ (x.ge b = 0 → (x.fr b).seq ≤ q)
theorem next_small {q : Int} (h : 0 ≤ q ∧ q < 4294967290) : next q = q + 1 := by unfold next; omega
/-- A crash while the log is written. -/
theorem crash_log {x z : DevS} {F Z q : Int} {l : List Rec} (hc : checkE F Z = 0) (hF : F + Z ≤ x.stable.length) (hr : Rest x F Z q) (hv : ValidL x.stable.length F Z l) (hst : z.stable = x.stable) {k : Nat} (hcc : z.cache = ((logAll F q l).map sealP).take k) (keep : List Nat) (hk : ∀ i ∈ keep, i < z.cache.length) :
    Mixed (z.crashed keep) F Z q l ∧ ∀ b : Int, 0 ≤ b → b < x.stable.length → (b < F ∨ F + Z ≤ b) → sameFr x (z.crashed keep) b := by
  have hz := checkE_zero hc
  have hfit := logAll_fit (q := q) hc hF hv
  have key := fun (b : Int) (hb : 0 ≤ b ∧ b < x.stable.length) => crash_any hr.ok hr.cache hr.on hst (fun p hp => (hfit p hp).1) hcc keep hk hb
  refine ⟨⟨?_, fun b h1 h2 => ?_⟩, fun b h1 h2 h3 => ?_⟩
  · rcases key F (by omega) with h | ⟨p, hp, e, -⟩
    · exact hr.head.same h
    · have := (hfit p hp).2; omega
  · rcases key b (by omega) with h | ⟨p, hp, e, g, f⟩
    · have h9 := hr.old b h1 h2
      rw [h.1, h.2]
      refine ⟨h9.1, .inl fun hc2 => ?_⟩
      have := h9.2 hc2.1
      have := hc2.2
      rw [next_small hr.num] at this
      omega
    · refine ⟨by rw [g]; rfl, .inr ?_⟩
      rcases logAll_mem hp with ⟨i, hi, rfl⟩ | rfl
      · exact .inl ⟨i, hi, e.symm, g, f⟩
      · exact .inr ⟨e.symm, g, f⟩
  · rcases key b ⟨h1, h2⟩ with h | ⟨p, hp, e, -⟩
    · exact h
    · have := (hfit p hp).2; omega
end Go.Proofs.YtloddiipepiocaaGreatDoor
/- Layer 9 in plain words: crashes in Apply and in Clear. No program in sight. -/
namespace Go.Proofs.YtloddiipepiocaaGreatDoor
open Go.RowKit Go.Maps

/-- Outside of the journal. -/
def OutJ (F Z n b : Int) : Prop := 0 ≤ b ∧ b < n ∧ (b < F ∨ F + Z ≤ b)
/-- Each sector of the run is as it was, or as the run leaves it; all others are as they were. -/
structure Half (x0 z : DevS) (F Z q : Int) (l : List Rec) : Prop where
  size : z.stable.length = x0.stable.length
  far : ∀ b : Int, OutJ F Z x0.stable.length b → b ∉ l.map (·.at_) → sameFr x0 z b
  mid : ∀ r ∈ l, sameFr x0 z r.at_ ∨ (z.ge r.at_ = 0 ∧ z.fr r.at_ = ⟨r.kind, next q, r.data⟩)
/-- All of the run is there. -/
structure Full (x0 z : DevS) (F Z q : Int) (l : List Rec) : Prop where
  size : z.stable.length = x0.stable.length
  far : ∀ b : Int, OutJ F Z x0.stable.length b → b ∉ l.map (·.at_) → sameFr x0 z b
  new : ∀ r ∈ l, z.ge r.at_ = 0 ∧ z.fr r.at_ = ⟨r.kind, next q, r.data⟩
theorem Full.half {x0 z : DevS} {F Z q : Int} {l : List Rec} (h : Full x0 z F Z q l) : Half x0 z F Z q l := ⟨h.size, h.far, fun r hr => .inr (h.new r hr)⟩
theorem appL_fit {n : Nat} {F Z q : Int} {l : List Rec} (hv : ValidL n F Z l) : ∀ p ∈ appL (next q) l, FitP n p ∧ ∃ r ∈ l, p = (r.at_, ⟨r.kind, next q, r.data⟩) := fun p hp => by
  have hnx := next_bds q
  unfold appL at hp
  obtain ⟨r, hm, rfl⟩ := List.mem_map.1 hp
  obtain ⟨k, hk, rfl⟩ := List.mem_iff_getElem.1 hm
  have h9 := hv.rec_ k hk
  exact ⟨⟨⟨h9.2.1, h9.2.2.1⟩, ⟨h9.2.2.2.1, h9.2.2.2.2.1⟩, by show l[k].data.size ≤ 112; have := h9.2.2.2.2.2.1; omega, hnx⟩, l[k], hm, rfl⟩
/-- A crash while the run is applied. -/
theorem crash_apply {x0 x z : DevS} {F Z q : Int} {l : List Rec} (hc : checkE F Z = 0) (hF : F + Z ≤ x.stable.length) (okx : x.Ok) (hx : x.cache = []) (hon : x.off = false) (hh : HeadAt x F q) (hl : LogAt x F q l) (hv : ValidL x.stable.length F Z l) (hH : Half x0 x F Z q l)
    (hst : z.stable = x.stable) {k : Nat} (hcc : z.cache = ((appL (next q) l).map sealP).take k) (keep : List Nat) (hk : ∀ i ∈ keep, i < z.cache.length) :
    HeadAt (z.crashed keep) F q ∧ LogAt (z.crashed keep) F q l ∧ Half x0 (z.crashed keep) F Z q l ∧ ∀ b : Int, F ≤ b → b < F + Z → sameFr x (z.crashed keep) b := by
  have hz := checkE_zero hc
  have hm : (l.length : Int) ≤ Z - 2 := by have := hv.len; unfold mostN at this; omega
  have hfit := appL_fit (q := q) hv
  have key := fun (b : Int) (hb : 0 ≤ b ∧ b < x.stable.length) => crash_any okx hx hon hst (fun p hp => (hfit p hp).1) hcc keep hk hb
  have hin : ∀ r ∈ l, OutJ F Z x.stable.length r.at_ := fun r hr => by
    obtain ⟨i, hi, rfl⟩ := List.mem_iff_getElem.1 hr
    have h9 := hv.rec_ i hi
    exact ⟨h9.2.1, h9.2.2.1, by omega⟩
  have hj : ∀ b : Int, F ≤ b → b < F + Z → sameFr x (z.crashed keep) b := fun b h1 h2 => by
    rcases key b (by omega) with h | ⟨p, hp, e, -⟩
    · exact h
    · obtain ⟨-, r, hr, rfl⟩ := hfit p hp
      have := hin r hr
      unfold OutJ at this
      simp only at e
      omega
  have hsz : (z.crashed keep).stable.length = x.stable.length := by
    show (stApply z.stable _).length = _
    rw [stApply_length, hst]
  refine ⟨hh.same (hj F (by omega) (by omega)), ⟨fun i hi => ?_, ?_⟩, ⟨hsz.trans hH.size, fun b hb hn => ?_, fun r hr => ?_⟩, hj⟩
  · have h := hj (F + 1 + i) (by omega) (by omega)
    exact ⟨h.1.trans (hl.recs i hi).1, h.2.trans (hl.recs i hi).2⟩
  · have h := hj (F + 1 + l.length) (by omega) (by omega)
    exact ⟨h.1.trans hl.mark.1, h.2.trans hl.mark.2⟩
  · rcases key b ⟨hb.1, by rw [hH.size]; exact hb.2.1⟩ with h | ⟨p, hp, e, -⟩
    · exact (hH.far b hb hn).trans h
    · obtain ⟨-, r, hr, rfl⟩ := hfit p hp
      exact absurd (List.mem_map.2 ⟨r, hr, e⟩) hn
  · rcases key r.at_ ⟨(hin r hr).1, (hin r hr).2.1⟩ with h | ⟨p, hp, e, g, f⟩
    · rcases hH.mid r hr with h9 | h9
      · exact .inl (h9.trans h)
      · exact .inr ⟨h.1.trans h9.1, h.2.trans h9.2⟩
    · obtain ⟨-, r2, hr2, rfl⟩ := hfit p hp
      have : r2 = r := by
        obtain ⟨i, hi, rfl⟩ := List.mem_iff_getElem.1 hr
        obtain ⟨j, hj2, rfl⟩ := List.mem_iff_getElem.1 hr2
        have hnd := List.pairwise_iff_getElem.1 (List.nodup_iff_pairwise_ne.1 hv.nodup)
        rcases Nat.lt_trichotomy i j with h1 | h1 | h1
        · exact absurd e.symm (by have := hnd i j (by simpa using hi) (by simpa using hj2) h1; simpa using this)
        · subst h1; rfl
        · exact absurd e (by have := hnd j i (by simpa using hj2) (by simpa using hi) h1; simpa using this)
      subst this
      exact .inr ⟨g, f⟩
/-- A crash while the head is written. -/
theorem crash_clear {x z : DevS} {F Z q : Int} (hc : checkE F Z = 0) (hF : F + Z ≤ x.stable.length) (okx : x.Ok) (hx : x.cache = []) (hon : x.off = false) (hst : z.stable = x.stable) {k : Nat} (hcc : z.cache = ([(F, (⟨1, next q, ⟨#[]⟩⟩ : Fr))].map sealP).take k) (keep : List Nat) (hk : ∀ i ∈ keep, i < z.cache.length) :
    (sameFr x (z.crashed keep) F ∨ HeadAt (z.crashed keep) F (next q)) ∧ ∀ b : Int, 0 ≤ b → b < x.stable.length → b ≠ F → sameFr x (z.crashed keep) b := by
  have hz := checkE_zero hc
  have hnx := next_bds q
  have key := fun (b : Int) (hb : 0 ≤ b ∧ b < x.stable.length) => crash_any (L := [(F, (⟨1, next q, ⟨#[]⟩⟩ : Fr))]) okx hx hon hst (fun p hp => by
    obtain rfl : p = (F, ⟨1, next q, ⟨#[]⟩⟩) := by simpa using hp
    exact ⟨⟨by show 0 ≤ F; omega, by show F < _; omega⟩, ⟨by show (1 : Int) ≤ 1; omega, by show (1 : Int) ≤ 255; omega⟩, Nat.zero_le _, hnx⟩) hcc keep hk hb
  refine ⟨?_, fun b h1 h2 h3 => ?_⟩
  · rcases key F (by omega) with h | ⟨p, hp, e, g, f⟩
    · exact .inl h
    · obtain rfl : p = (F, ⟨1, next q, ⟨#[]⟩⟩) := by simpa using hp
      exact .inr ⟨g, f⟩
  · rcases key b ⟨h1, h2⟩ with h | ⟨p, hp, e, -⟩
    · exact h
    · obtain rfl : p = (F, ⟨1, next q, ⟨#[]⟩⟩) := by simpa using hp
      exact absurd e.symm h3
end Go.Proofs.YtloddiipepiocaaGreatDoor
/- Layers 6 to 9 in plain words: a phase of writes under any power, and a crash behind it. No program in sight. -/
namespace Go.Proofs.YtloddiipepiocaaGreatDoor
open Go.RowKit Go.Maps

theorem write_takenU (x : DevS) (a : Int) (s : List Int) : (x.write a s).2.taken ≤ x.taken + 1 := by
  unfold DevS.write
  split
  · show x.taken ≤ x.taken + 1; omega
  · split
    · show x.taken ≤ x.taken + 1; omega
    · show x.room.taken + 1 ≤ x.taken + 1
      unfold DevS.room
      split
      · show x.taken + 1 ≤ x.taken + 1; omega
      · omega
theorem put_takenU (x : DevS) (a k q : Int) (s : ByteArray) : (x.put a k q s).2.taken ≤ x.taken + 1 := by
  unfold DevS.put
  split
  · exact write_takenU x a _
  · show x.taken ≤ x.taken + 1; omega
theorem puts_takenU (x : DevS) (L : List (Int × Fr)) : ∀ k : Nat, (x.puts L k).2.taken ≤ x.taken + k
  | 0 => by show x.taken ≤ x.taken + (0 : Nat); omega
  | k + 1 => by
    have ih := puts_takenU x L k
    show (if (x.puts L k).1 ≠ 0 then x.puts L k else (x.puts L k).2.put _ _ _ _).2.taken ≤ _
    split
    · omega
    · have := put_takenU (x.puts L k).2 (L.getD k default).1 (L.getD k default).2.kind (L.getD k default).2.seq (L.getD k default).2.data
      omega
theorem done_taken (p : Int × DevS) : (DevS.done p).2.taken = p.2.taken := by
  unfold DevS.done
  split
  · rfl
  · unfold DevS.flush
    split <;> rfl
/-- The same, without any limit. -/
def DevS.free_ (x : DevS) : DevS := { x with power := -1, taken := 0 }
theorem free_ok {x : DevS} (ok : x.Ok) : x.free_.Ok := ⟨ok.lo, ok.hi, ok.sec, ok.cac, ok.len, by show (0 : Int) ≤ 0 ∧ (0 : Int) ≤ 1000000000000; omega, by show (-1 : Int) ≤ -1 ∧ (-1 : Int) ≤ 1000000000000; omega⟩
theorem free_same (x : DevS) (b : Int) : sameFr x x.free_ b := same_fr rfl rfl rfl
theorem sameFr.symm {x y : DevS} {b : Int} (h : sameFr x y b) : sameFr y x b := ⟨h.1.symm, h.2.symm⟩
theorem reads_of {x y : DevS} (hs : y.stable = x.stable) (hc : y.cache = x.cache) (b : Int) : y.reads b = x.reads b := by
  unfold DevS.reads DevS.idx
  rw [hs, hc]
theorem flushed_same {x : DevS} (ok : x.Ok) {b : Int} (hb : 0 ≤ b ∧ b < x.stable.length) : sameFr x x.flushed b :=
  same_fr rfl (by show (stApply _ _).length = _; rw [stApply_length]) (flushed_reads ok hb)

/-- What a phase of writes, with a flush behind, leaves: all went, or the power has gone. -/
structure PhaseOk (x z : DevS) (L : List (Int × Fr)) : Prop where
  cache : z.cache = []
  on : z.off = false
  size : z.stable.length = x.stable.length
  new : ∀ p ∈ L, z.ge p.1 = 0 ∧ z.fr p.1 = p.2
  far : ∀ b : Int, 0 ≤ b → b < x.stable.length → b ∉ L.map (·.1) → sameFr x z b
structure PhaseOff (x z : DevS) (L : List (Int × Fr)) : Prop where
  off : z.off = true
  sta : z.stable = x.stable
  cac : ∃ k, z.cache = (L.map sealP).take k
theorem phase {x : DevS} (ok : x.Ok) (hc : x.cache = []) (hon : x.off = false) {L : List (Int × Fr)} (hL : ∀ p ∈ L, FitP x.stable.length p) (hn : (L.map (·.1)).Nodup) (hlen : L.length ≤ 400) :
    (DevS.done (x.puts L L.length)).2.Ok ∧ (DevS.done (x.puts L L.length)).2.taken ≤ x.taken + L.length ∧
    (((DevS.done (x.puts L L.length)).1 = 0 ∧ PhaseOk x (DevS.done (x.puts L L.length)).2 L) ∨ ((DevS.done (x.puts L L.length)).1 = 13 ∧ PhaseOff x (DevS.done (x.puts L L.length)).2 L)) ∧
    (∀ n : Nat, x.Runs (n + L.length) → (DevS.done (x.puts L L.length)).1 = 0 ∧ (DevS.done (x.puts L L.length)).2.Runs n) := by
  have hfit' : ∀ p ∈ L, 0 ≤ p.1 ∧ p.1 < x.stable.length ∧ 1 ≤ p.2.kind ∧ p.2.kind ≤ 255 ∧ p.2.data.size ≤ 112 ∧ 0 ≤ p.2.seq ∧ p.2.seq < 4294967296 := fun p hp => by
    have h := hL p hp
    exact ⟨h.at_.1, h.at_.2, h.kind.1, h.kind.2, h.data, h.seq.1, h.seq.2⟩
  obtain ⟨zok, k, hk, g⟩ := puts_limited ok hon hL (by rw [hc]; simpa using hlen) L.length (Nat.le_refl _)
  have htk := puts_takenU x L L.length
  have hruns : ∀ n : Nat, x.Runs (n + L.length) → (DevS.done (x.puts L L.length)).1 = 0 ∧ (DevS.done (x.puts L L.length)).2.Runs n := fun n hr => by
    obtain ⟨i1, i2, -, -, -⟩ := puts_runs hn L.length hfit' (Nat.le_refl _) hr
    obtain ⟨e, z, hz⟩ : ∃ e z, x.puts L L.length = (e, z) := ⟨_, _, rfl⟩
    rw [hz] at i1 i2 ⊢
    simp only at i1 i2
    subst i1
    rw [done_runs i2]
    exact ⟨rfl, ⟨i2.ok.flushed, i2.on, i2.pw, i2.tk⟩⟩
  rcases g.end_ with ⟨h0, rfl, ho⟩ | ⟨h13, ho⟩
  · obtain ⟨fok, fk, hfk, gf⟩ := puts_limited (free_ok ok) hon (L := L) hL (by show x.cache.length + _ ≤ _; rw [hc]; simpa using hlen) L.length (Nat.le_refl _)
    have hfr : x.free_.Runs (0 + L.length) := ⟨free_ok ok, hon, rfl, by show (0 : Int) + _ ≤ _; omega⟩
    obtain ⟨i1, i2, i3, i4, i5⟩ := puts_runs hn L.length (x := x.free_) hfit' (Nat.le_refl _) hfr
    rw [List.take_length] at i4 i5
    have gc : (x.free_.puts L L.length).2.cache = (x.puts L L.length).2.cache ∧ (x.free_.puts L L.length).2.stable = (x.puts L L.length).2.stable ∧ (x.free_.puts L L.length).2.off = (x.puts L L.length).2.off := by
      rcases gf.end_ with ⟨-, rfl, fo⟩ | ⟨h13, -⟩
      · exact ⟨gf.cac.trans g.cac.symm, gf.sta.trans g.sta.symm, fo.trans ho.symm⟩
      · rw [i1] at h13; exact absurd h13 (by decide)
    obtain ⟨Z, hZ⟩ : ∃ Z, (x.puts L L.length).2 = Z := ⟨_, rfl⟩
    have hd : DevS.done (x.puts L L.length) = (0, Z.flushed) := by
      have e : x.puts L L.length = (0, Z) := Prod.ext h0 hZ
      rw [e]
      unfold DevS.done DevS.flush
      rw [if_neg (by simp), show Z.off = false by rw [← hZ]; exact ho]
      rfl
    rw [hd] at hruns ⊢
    rw [hZ] at gc zok htk ho
    have hsl : Z.stable.length = x.stable.length := by rw [← hZ, g.sta]
    have hsm : ∀ b : Int, sameFr (x.free_.puts L L.length).2 Z b := fun b => same_fr gc.2.2.symm (by rw [gc.2.1]) (reads_of gc.2.1.symm gc.1.symm b)
    refine ⟨zok.flushed, htk, .inl ⟨rfl, ⟨rfl, ho, by show (stApply _ _).length = _; rw [stApply_length, hsl], fun p hp => ?_, fun b h1 h2 h3 => ?_⟩⟩, hruns⟩
    · have hf := hL p hp
      have h4 := i4 p hp
      have hb := flushed_same zok (b := p.1) (by rw [hsl]; exact hf.at_)
      exact ⟨hb.1.trans ((hsm p.1).1.trans h4.1), hb.2.trans ((hsm p.1).2.trans h4.2)⟩
    · have h5 := i5 b h1 h2 h3
      have hb := flushed_same zok (b := b) (by rw [hsl]; exact ⟨h1, h2⟩)
      exact (((free_same x b).trans h5).trans (hsm b)).trans hb
  · obtain ⟨Z, hZ⟩ : ∃ Z, (x.puts L L.length).2 = Z := ⟨_, rfl⟩
    have hd : DevS.done (x.puts L L.length) = (13, Z) := by
      have e : x.puts L L.length = (13, Z) := Prod.ext h13 hZ
      rw [e]
      unfold DevS.done
      rw [if_pos (by simp)]
    rw [hd] at hruns ⊢
    rw [hZ] at g zok htk ho
    exact ⟨zok, htk, .inr ⟨rfl, ⟨ho, g.sta, k, by rw [g.cac, hc]; rfl⟩⟩, hruns⟩

/-- The indices that a crash keeps. -/
def KeepOk (z : DevS) (keep : List Nat) : Prop := ∀ i ∈ keep, i < z.cache.length
theorem crashed_ok {z : DevS} (ok : z.Ok) {keep : List Nat} (hk : KeepOk z keep) : (z.crashed keep).Ok := by
  have hl : (z.crashed keep).stable.length = z.stable.length := by show (stApply _ _).length = _; rw [stApply_length]
  refine ⟨by rw [hl]; exact ok.lo, by rw [hl]; exact ok.hi, stApply_sec ok.sec fun p hp => ?_, fun p hp => (by cases hp), by show 0 ≤ 400; omega, ok.tk, by show (-1 : Int) ≤ -1 ∧ (-1 : Int) ≤ 1000000000000; omega⟩
  obtain ⟨i, hi, rfl⟩ := List.mem_map.1 hp
  have := hk i hi
  rw [List.getD_eq_getElem?_getD, List.getElem?_eq_getElem this]
  exact (ok.cac _ (List.getElem_mem this)).2.2
theorem crashed_none {z : DevS} (hc : z.cache = []) (ho : z.off = false) {keep : List Nat} (hk : KeepOk z keep) (b : Int) : sameFr z (z.crashed keep) b := by
  have hk0 : keep = [] := by
    cases keep with
    | nil => rfl
    | cons i t => have := hk i (by simp); rw [hc] at this; simp at this
  subst hk0
  exact same_fr ho.symm rfl (reads_of (x := z) (y := z.crashed []) rfl hc.symm b)
theorem crashed_size (z : DevS) (keep : List Nat) : (z.crashed keep).stable.length = z.stable.length := by show (stApply _ _).length = _; rw [stApply_length]
theorem limit_same (x : DevS) (n b : Int) : sameFr x { x with power := n } b := same_fr rfl rfl rfl

end Go.Proofs.YtloddiipepiocaaGreatDoor
