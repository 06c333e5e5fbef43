/- Parts of the proof, put together by program: UH, UI, UA. -/
import Derived.Test.YtloddiipepiocaaGreatDoorPart43
import Derived.Test.YtloddiipepiocaaGreatDoorPart21
set_option linter.unusedVariables false
set_option linter.unusedSimpArgs false
/- Layer 9 in plain words: Commit and Replay under any power, and what a crash leaves. No program in sight. -/
namespace Go.Proofs.YtloddiipepiocaaGreatDoor
open Go.RowKit Go.Maps

/-- Nothing in the cache, the power is on. -/
structure Calm (z : DevS) (n : Nat) : Prop where
  ok : z.Ok
  cache : z.cache = []
  on : z.off = false
  size : z.stable.length = n
/-- The journal's body has no frame of a number above q. -/
def Body (z : DevS) (F Z q : Int) : Prop := ∀ b : Int, F + 1 ≤ b → b < F + Z → brokenB (z.ge b) = false ∧ (z.ge b = 0 → (z.fr b).seq ≤ q)
/-- Outside of the journal all is as it was. -/
def Out0 (x z : DevS) (F Z : Int) : Prop := ∀ b : Int, OutJ F Z x.stable.length b → sameFr x z b
/-- While the log is written: it may be there, or not. -/
structure InvA (x z : DevS) (F Z q : Int) (l : List Rec) : Prop where
  mix : Mixed z F Z q l
  body : Body z F Z (q + 1)
  out : Out0 x z F Z
structure InvB (x z : DevS) (F Z q : Int) (l : List Rec) : Prop where
  head : HeadAt z F q
  log : LogAt z F q l
  half : Half x z F Z q l
  body : Body z F Z (q + 1)
structure InvD (x z : DevS) (F Z q : Int) : Prop where
  head : HeadAt z F (q + 1)
  body : Body z F Z (q + 1)
  out : Out0 x z F Z
structure InvE (x z : DevS) (F Z q : Int) (l : List Rec) : Prop where
  head : HeadAt z F (q + 1)
  body : Body z F Z (q + 1)
  full : Full x z F Z q l
def Inv (x z : DevS) (F Z q : Int) (l : List Rec) : Prop := InvA x z F Z q l ∨ InvB x z F Z q l ∨ InvD x z F Z q ∨ InvE x z F Z q l

section
variable {x z u : DevS} {F Z q : Int} {l : List Rec} {n : Nat}
theorem Body.same {p : Int} (h : Body z F Z p) (hs : ∀ b : Int, F + 1 ≤ b → b < F + Z → sameFr z u b) : Body u F Z p := fun b h1 h2 => by
  have h9 := h b h1 h2
  have s9 := hs b h1 h2
  rw [s9.1, s9.2]
  exact h9
theorem Mixed.same (h : Mixed z F Z q l) (hs : ∀ b : Int, F ≤ b → b < F + Z → sameFr z u b) (hZ : 0 < Z) : Mixed u F Z q l :=
  ⟨h.head.same (hs F (by omega) (by omega)), fun b h1 h2 => by
    have h9 := h.body b h1 h2
    have s9 := hs b (by omega) h2
    rw [s9.1, s9.2]
    exact h9⟩
theorem LogAt.same (h : LogAt z F q l) (hs : ∀ b : Int, F + 1 ≤ b → b < F + Z → sameFr z u b) (hl : (l.length : Int) + 1 < Z) : LogAt u F q l :=
  ⟨fun k hk => by
    have s9 := hs (F + 1 + k) (by omega) (by omega)
    exact ⟨s9.1.trans (h.recs k hk).1, s9.2.trans (h.recs k hk).2⟩, by
    have s9 := hs (F + 1 + l.length) (by omega) (by omega)
    exact ⟨s9.1.trans h.mark.1, s9.2.trans h.mark.2⟩⟩
theorem Out0.trans (h : Out0 x z F Z) (hs : ∀ b : Int, OutJ F Z x.stable.length b → sameFr z u b) : Out0 x u F Z := fun b hb => (h b hb).trans (hs b hb)
theorem Half.trans (h : Half x z F Z q l) (hu : u.stable.length = z.stable.length) (hv : ∀ r ∈ l, OutJ F Z x.stable.length r.at_) (hs : ∀ b : Int, OutJ F Z x.stable.length b → sameFr z u b) : Half x u F Z q l :=
  ⟨hu.trans h.size, fun b hb hn => (h.far b hb hn).trans (hs b hb), fun r hr => by
    have s9 := hs r.at_ (hv r hr)
    rcases h.mid r hr with h9 | h9
    · exact .inl (h9.trans s9)
    · exact .inr ⟨s9.1.trans h9.1, s9.2.trans h9.2⟩⟩
theorem Full.trans (h : Full x z F Z q l) (hu : u.stable.length = z.stable.length) (hv : ∀ r ∈ l, OutJ F Z x.stable.length r.at_) (hs : ∀ b : Int, OutJ F Z x.stable.length b → sameFr z u b) : Full x u F Z q l :=
  ⟨hu.trans h.size, fun b hb hn => (h.far b hb hn).trans (hs b hb), fun r hr => by
    have s9 := hs r.at_ (hv r hr)
    have h9 := h.new r hr
    exact ⟨s9.1.trans h9.1, s9.2.trans h9.2⟩⟩
theorem Out0.half (h : Out0 x z F Z) (hu : z.stable.length = x.stable.length) (hv : ∀ r ∈ l, OutJ F Z x.stable.length r.at_) : Half x z F Z q l :=
  ⟨hu, fun b hb _ => h b hb, fun r hr => .inl (h _ (hv r hr))⟩
theorem valid_out (_hF : F + Z ≤ n) (hv : ValidL n F Z l) : ∀ r ∈ l, OutJ F Z n r.at_ := fun r hr => by
  obtain ⟨i, hi, rfl⟩ := List.mem_iff_getElem.1 hr
  have h9 := hv.rec_ i hi
  exact ⟨h9.2.1, h9.2.2.1, by omega⟩

/-- What all steps share: a journal in a device, a run that is valid. -/
structure Jn (n : Nat) (F Z q : Int) (l : List Rec) : Prop where
  ck : checkE F Z = 0
  fit : F + Z ≤ n
  hi : n ≤ 256
  val : ValidL n F Z l
  num : 0 ≤ q ∧ q < 4294967000
theorem Jn.zz (h : Jn n F Z q l) : 8 ≤ Z ∧ Z ≤ 96 ∧ 0 ≤ F ∧ F ≤ 256 - Z := checkE_zero h.ck
theorem Jn.nx (h : Jn n F Z q l) : next q = q + 1 := next_small ⟨h.num.1, by have := h.num; omega⟩
theorem Jn.nxx (h : Jn n F Z q l) : next (q + 1) = q + 2 := by rw [next_small ⟨by have := h.num; omega, by have := h.num; omega⟩]; omega
theorem Jn.len (h : Jn n F Z q l) : (l.length : Int) + 1 < Z := by have := h.val.len; unfold mostN at this; omega
theorem Jn.out (h : Jn n F Z q l) : ∀ r ∈ l, OutJ F Z n r.at_ := valid_out h.fit h.val
theorem inv_same (j : Jn n F Z q l) (hx : x.stable.length = n) (h : Inv x z F Z q l) (hu : u.stable.length = z.stable.length) (hs : ∀ b : Int, 0 ≤ b → b < n → sameFr z u b) : Inv x u F Z q l := by
  have hz := j.zz
  have hf := j.fit
  have hO : ∀ b : Int, OutJ F Z x.stable.length b → sameFr z u b := fun b hb => hs b hb.1 (by rw [hx] at hb; exact hb.2.1)
  have hB : ∀ b : Int, F + 1 ≤ b → b < F + Z → sameFr z u b := fun b h1 h2 => hs b (by omega) (by omega)
  have hv : ∀ r ∈ l, OutJ F Z x.stable.length r.at_ := by rw [hx]; exact j.out
  rcases h with h | h | h | h
  · exact .inl ⟨h.mix.same (fun b h1 h2 => hs b (by omega) (by omega)) (by omega), h.body.same hB, h.out.trans hO⟩
  · exact .inr (.inl ⟨h.head.same (hs F (by omega) (by omega)), h.log.same hB j.len, h.half.trans hu hv hO, h.body.same hB⟩)
  · exact .inr (.inr (.inl ⟨h.head.same (hs F (by omega) (by omega)), h.body.same hB, h.out.trans hO⟩))
  · exact .inr (.inr (.inr ⟨h.head.same (hs F (by omega) (by omega)), h.body.same hB, h.full.trans hu hv hO⟩))

/-- The head's write as a phase. -/
def headL (F q : Int) : List (Int × Fr) := [(F, ⟨1, next q, ⟨#[]⟩⟩)]
theorem headL_fit (j : Jn n F Z q l) : ∀ p ∈ headL F q, FitP n p := fun p hp => by
  have hz := j.zz
  have hf := j.fit
  have hnx := next_bds q
  obtain rfl : p = (F, ⟨1, next q, ⟨#[]⟩⟩) := by simpa [headL] using hp
  exact ⟨⟨by show 0 ≤ F; omega, by show F < _; omega⟩, ⟨by show (1 : Int) ≤ 1; omega, by show (1 : Int) ≤ 255; omega⟩, Nat.zero_le _, hnx⟩
theorem clear_eq (hc : checkE F Z = 0) (hh : HeadAt z F q) : z.clear F Z = DevS.done (z.puts (headL F q) (headL F q).length) := by
  unfold DevS.clear
  rw [hh.head hc]
  simp only
  rw [if_neg (by simp)]
  rfl
/-- What a step has done: all, or the power has gone, and a crash leaves a state of a class. -/
structure Step_ (z z' : DevS) (n m : Nat) (e : Int) (P : DevS → Prop) (C : DevS → Prop) : Prop where
  ok : z'.Ok
  taken : z'.taken ≤ z.taken + m
  size : z'.stable.length = n
  end_ : (e = 0 ∧ Calm z' n ∧ P z') ∨ (e = 13 ∧ ∀ keep, KeepOk z' keep → C (z'.crashed keep))
  runs : ∀ k : Nat, z.Runs (k + m) → e = 0 ∧ z'.Runs k

theorem step_clear (j : Jn n F Z q l) (hz : Calm z n) (hh : HeadAt z F q) :
    Step_ z (z.clear F Z).2 n 1 (z.clear F Z).1 (fun u => HeadAt u F (q + 1) ∧ ∀ b : Int, 0 ≤ b → b < n → b ≠ F → sameFr z u b) (fun u => (sameFr z u F ∨ HeadAt u F (q + 1)) ∧ ∀ b : Int, 0 ≤ b → b < n → b ≠ F → sameFr z u b) := by
  have hfit := headL_fit j
  rw [← hz.size] at hfit
  obtain ⟨p1, p2, p3, p4⟩ := phase hz.ok hz.cache hz.on hfit (by simp [headL]) (by simp [headL])
  rw [clear_eq j.ck hh]
  have hl : (headL F q).length = 1 := rfl
  rw [hl] at p1 p2 p3 p4 ⊢
  rcases p3 with ⟨e, p⟩ | ⟨e, p⟩
  · refine ⟨p1, p2, p.size.trans hz.size, .inl ⟨e, ⟨p1, p.cache, p.on, p.size.trans hz.size⟩, ?_, fun b h1 h2 h3 => ?_⟩, p4⟩
    · have := p.new (F, ⟨1, next q, ⟨#[]⟩⟩) (by simp [headL])
      rw [← j.nx]
      exact ⟨this.1, this.2⟩
    · exact p.far b h1 (by rw [hz.size]; exact h2) (by simp [headL]; exact h3)
  · obtain ⟨k, hk⟩ := p.cac
    refine ⟨p1, p2, by rw [p.sta]; exact hz.size, .inr ⟨e, fun keep hkp => ?_⟩, p4⟩
    obtain ⟨c1, c2⟩ := crash_clear j.ck (by rw [hz.size]; exact j.fit) hz.ok hz.cache hz.on p.sta hk keep hkp
    rw [j.nx] at c1
    rw [hz.size] at c2
    exact ⟨c1, c2⟩

/-- Apply of a run that is known, and Clear. -/
def DevS.ac (z : DevS) (F Z q : Int) (l : List Rec) : Int × DevS := if (z.applies q l).1 ≠ 0 then z.applies q l else (z.applies q l).2.clear F Z
theorem step_ac (j : Jn n F Z q l) (hx : x.stable.length = n) (hz : Calm z n) (h : InvB x z F Z q l) :
    Step_ z (z.ac F Z q l).2 n (l.length + 1) (z.ac F Z q l).1 (fun u => InvE x u F Z q l) (fun u => InvB x u F Z q l ∨ InvE x u F Z q l) := by
  have hzz := j.zz
  have hf := j.fit
  have hv : ValidL z.stable.length F Z l := by rw [hz.size]; exact j.val
  have hfit := appL_fit (q := q) hv
  have hout : ∀ r ∈ l, OutJ F Z x.stable.length r.at_ := by rw [hx]; exact j.out
  have hlen := j.len
  have hal : (appL (next q) l).length = l.length := by unfold appL; rw [List.length_map]
  have hmap : (appL (next q) l).map (·.1) = l.map (·.at_) := by unfold appL; rw [List.map_map]; rfl
  have hnot : ∀ b : Int, F ≤ b → b < F + Z → b ∉ l.map (·.at_) := fun b h1 h2 hm => by
    obtain ⟨r, hr, rfl⟩ := List.mem_map.1 hm
    have := (j.out r hr).2.2
    omega
  obtain ⟨p1, p2, p3, p4⟩ := phase hz.ok hz.cache hz.on (fun p hp => (hfit p hp).1) (appL_nodup hv.nodup) (by rw [hal]; omega)
  rw [hal] at p1 p2 p3 p4
  obtain ⟨e, u, hu⟩ : ∃ e u, z.applies q l = (e, u) := ⟨_, _, rfl⟩
  have hu' : DevS.done (z.puts (appL (next q) l) l.length) = (e, u) := hu
  rw [hu'] at p1 p2 p3 p4
  unfold DevS.ac
  rw [hu]
  simp only at p1 p2 p3 p4 ⊢
  rcases p3 with ⟨rfl, p⟩ | ⟨rfl, p⟩
  · rw [if_neg (by simp)]
    have usz : u.stable.length = n := p.size.trans hz.size
    have hcu : Calm u n := ⟨p1, p.cache, p.on, usz⟩
    have hj : ∀ b : Int, F ≤ b → b < F + Z → sameFr z u b := fun b h1 h2 => p.far b (by omega) (by rw [hz.size]; omega) (by rw [hmap]; exact hnot b h1 h2)
    have hhu : HeadAt u F q := h.head.same (hj F (by omega) (by omega))
    have hlu : LogAt u F q l := h.log.same (fun b h1 h2 => hj b (by omega) h2) hlen
    have hbu : Body u F Z (q + 1) := h.body.same fun b h1 h2 => hj b (by omega) h2
    have hfu : Full x u F Z q l := ⟨usz.trans hx.symm, fun b hb hn => (h.half.far b hb hn).trans (p.far b hb.1 (by rw [hz.size, ← hx]; exact hb.2.1) (by rw [hmap]; exact hn)), fun r hr => p.new (r.at_, ⟨r.kind, next q, r.data⟩) (by unfold appL; exact List.mem_map.2 ⟨r, hr, rfl⟩)⟩
    obtain ⟨c1, c2, c3, c4, c5⟩ := step_clear j hcu hhu
    have hout' : ∀ (v : DevS), (∀ b : Int, 0 ≤ b → b < n → b ≠ F → sameFr u v b) → ∀ b : Int, OutJ F Z x.stable.length b → sameFr u v b := fun v hv b hb => hv b hb.1 (by rw [hx] at hb; exact hb.2.1) (by have := hb.2.2; omega)
    have hbody' : ∀ (v : DevS), (∀ b : Int, 0 ≤ b → b < n → b ≠ F → sameFr u v b) → ∀ b : Int, F + 1 ≤ b → b < F + Z → sameFr u v b := fun v hv b h1 h2 => hv b (by omega) (by omega) (by omega)
    refine ⟨c1, by omega, c3, ?_, fun k hr => ?_⟩
    · rcases c4 with ⟨e, cc, c6, c7⟩ | ⟨e, c6⟩
      · exact .inl ⟨e, cc, ⟨c6, hbu.same (hbody' _ c7), hfu.trans (c3.trans usz.symm) hout (hout' _ c7)⟩⟩
      · refine .inr ⟨e, fun keep hk => ?_⟩
        obtain ⟨d1, d2⟩ := c6 keep hk
        have hsz : ((u.clear F Z).2.crashed keep).stable.length = u.stable.length := (crashed_size _ _).trans (c3.trans usz.symm)
        rcases d1 with d1 | d1
        · exact .inl ⟨hhu.same d1, hlu.same (hbody' _ d2) hlen, hfu.half.trans hsz hout (hout' _ d2), hbu.same (hbody' _ d2)⟩
        · exact .inr ⟨d1, hbu.same (hbody' _ d2), hfu.trans hsz hout (hout' _ d2)⟩
    · obtain ⟨-, r2⟩ := p4 (k + 1) (by rw [show k + 1 + l.length = k + (l.length + 1) by omega]; exact hr)
      exact c5 k r2
  · rw [if_pos (by simp)]
    show Step_ z u n (l.length + 1) 13 _ _
    obtain ⟨k, hk⟩ := p.cac
    refine ⟨p1, by omega, by rw [p.sta]; exact hz.size, .inr ⟨rfl, fun keep hkp => ?_⟩, fun k hr => ?_⟩
    · obtain ⟨c1, c2, c3, c4⟩ := crash_apply (x0 := x) j.ck (by rw [hz.size]; exact hf) hz.ok hz.cache hz.on h.head h.log hv h.half p.sta hk keep hkp
      exact .inl ⟨c1, c2, c3, h.body.same fun b h1 h2 => c4 b (by omega) h2⟩
    · have := (p4 (k + 1) (by rw [show k + 1 + l.length = k + (l.length + 1) by omega]; exact hr)).1
      exact absurd this (by decide)
end

end Go.Proofs.YtloddiipepiocaaGreatDoor
/- Layer 9 in plain words: Log, Commit and Replay as steps. No program in sight. -/
namespace Go.Proofs.YtloddiipepiocaaGreatDoor
open Go.RowKit Go.Maps

theorem puts_app (x : DevS) (A B : List (Int × Fr)) : ∀ k, k ≤ A.length → x.puts (A ++ B) k = x.puts A k
  | 0, _ => rfl
  | k + 1, h => by
    have ih := puts_app x A B k (by omega)
    have e : (A ++ B).getD k default = A.getD k default := by rw [List.getD_eq_getElem?_getD, List.getElem?_append_left (by omega), List.getD_eq_getElem?_getD]
    show (if (x.puts (A ++ B) k).1 ≠ 0 then _ else _) = (if (x.puts A k).1 ≠ 0 then _ else _)
    rw [ih, e]
theorem puts_snoc (x : DevS) (A : List (Int × Fr)) (p : Int × Fr) : x.puts (A ++ [p]) (A.length + 1) = if (x.puts A A.length).1 ≠ 0 then x.puts A A.length else (x.puts A A.length).2.put p.1 p.2.kind p.2.seq p.2.data := by
  have e : (A ++ [p]).getD A.length default = p := by rw [List.getD_eq_getElem?_getD, List.getElem?_append_right (Nat.le_refl _)]; simp
  show (if (x.puts (A ++ [p]) A.length).1 ≠ 0 then _ else _) = _
  rw [puts_app x A [p] A.length (Nat.le_refl _), e]
theorem logL_lenU (F q : Int) (l : List Rec) : (logL F q l).length = l.length := by unfold logL; rw [List.length_map, List.length_zipIdx]
theorem logAll_length (F q : Int) (l : List Rec) : (logAll F q l).length = l.length + 1 := by unfold logAll; rw [List.length_append, logL_lenU]; rfl
theorem log_eq {x : DevS} {F Z q : Int} {l : List Rec} (hc : checkE F Z = 0) (hh : HeadAt x F q) (hv : validE x.stable.length F Z l = 0) : x.log F Z l = DevS.done (x.puts (logAll F q l) (logAll F q l).length) := by
  rw [logAll_length]
  unfold DevS.log logAll
  rw [hh.head hc]
  simp only
  rw [if_neg (by simp), if_neg (by rw [hv]; simp)]
  have h := puts_snoc x (logL F (next q) l) (F + 1 + l.length, ⟨3, next q, shortS l.length⟩)
  rw [logL_lenU] at h
  rw [h]
  by_cases h0 : (x.puts (logL F (next q) l) l.length).1 ≠ 0
  · rw [if_pos h0, if_pos h0]
    unfold DevS.done
    rw [if_pos h0]
  · rw [if_neg h0, if_neg h0]
theorem logAll_nodup (F q : Int) (l : List Rec) : ((logAll F q l).map (·.1)).Nodup := by
  unfold logAll
  rw [List.map_append, List.nodup_append]
  refine ⟨logL_nodup F (next q) l, by simp, fun a ha b hb => ?_⟩
  obtain ⟨p, hp, rfl⟩ := List.mem_map.1 ha
  obtain ⟨k, hk, rfl⟩ := logL_mem hp
  simp at hb
  subst hb
  show F + 1 + (k : Int) ≠ F + 1 + (l.length : Int)
  omega

section
variable {x z u : DevS} {F Z q : Int} {l : List Rec} {n : Nat}
theorem step_log (j : Jn n F Z q l) (hx : x.stable.length = n) (hv0 : validE n F Z l = 0) (hr : Rest x F Z q) :
    Step_ x (x.log F Z l).2 n (l.length + 1) (x.log F Z l).1 (fun u => InvB x u F Z q l) (fun u => InvA x u F Z q l) := by
  have hzz := j.zz
  have hf := j.fit
  have hlen := j.len
  have hnx := j.nx
  have hv : ValidL x.stable.length F Z l := by rw [hx]; exact j.val
  have hfit := logAll_fit (q := q) j.ck (by rw [hx]; exact hf) hv
  have hout : ∀ r ∈ l, OutJ F Z x.stable.length r.at_ := by rw [hx]; exact j.out
  obtain ⟨p1, p2, p3, p4⟩ := phase hr.ok hr.cache hr.on (fun p hp => (hfit p hp).1) (logAll_nodup F q l) (by rw [logAll_length]; omega)
  rw [log_eq j.ck hr.head (by rw [hx]; exact hv0)]
  have hl := logAll_length F q l
  rw [hl] at p1 p2 p3 p4 ⊢
  rcases p3 with ⟨e, p⟩ | ⟨e, p⟩
  · have hfar : ∀ b : Int, 0 ≤ b → b < n → (b < F + 1 ∨ F + Z ≤ b) → sameFr x _ b := fun b h1 h2 h3 => p.far b h1 (by rw [hx]; exact h2) (fun hm => by
      obtain ⟨c, hc, rfl⟩ := List.mem_map.1 hm
      have := (hfit c hc).2
      omega)
    refine ⟨p1, p2, p.size.trans hx, .inl ⟨e, ⟨p1, p.cache, p.on, p.size.trans hx⟩, ⟨hr.head.same (hfar F (by omega) (by omega) (by omega)), ⟨fun k hk => ?_, ?_⟩, ?_, fun b h1 h2 => ?_⟩⟩, p4⟩
    · exact p.new (F + 1 + k, ⟨2, next q, logS l[k]⟩) (by
        unfold logAll
        exact List.mem_append_left _ (List.mem_iff_getElem?.2 ⟨k, logL_get' hk⟩))
    · exact p.new (F + 1 + l.length, ⟨3, next q, shortS l.length⟩) (by unfold logAll; simp)
    · refine Out0.half (fun b hb => hfar b hb.1 (by rw [← hx]; exact hb.2.1) ?_) p.size hout
      have := hb.2.2
      omega
    · by_cases hm : b ∈ (logAll F q l).map (·.1)
      · obtain ⟨c, hc, rfl⟩ := List.mem_map.1 hm
        have h9 := p.new c hc
        rw [h9.1, h9.2]
        refine ⟨rfl, fun _ => ?_⟩
        rcases logAll_mem hc with ⟨k, hk, rfl⟩ | rfl
        · show next q ≤ q + 1; omega
        · show next q ≤ q + 1; omega
      · have h9 := p.far b (by omega) (by rw [hx]; omega) hm
        have h8 := hr.old b h1 h2
        rw [h9.1, h9.2]
        exact ⟨h8.1, fun h => by have := h8.2 h; omega⟩
  · obtain ⟨k, hk⟩ := p.cac
    refine ⟨p1, p2, by rw [p.sta]; exact hx, .inr ⟨e, fun keep hkp => ?_⟩, p4⟩
    obtain ⟨c1, c2⟩ := crash_log j.ck (by rw [hx]; exact hf) hr hv p.sta hk keep hkp
    refine ⟨c1, fun b h1 h2 => ⟨(c1.body b h1 h2).1, fun h0 => ?_⟩, fun b hb => c2 b hb.1 hb.2.1 hb.2.2⟩
    rcases crash_any hr.ok hr.cache hr.on p.sta (fun p hp => (hfit p hp).1) hk keep hkp (b := b) ⟨by omega, by rw [hx]; omega⟩ with h | ⟨c, hc, -, -, f⟩
    · have h8 := (hr.old b h1 h2).2 (h.1.symm.trans h0)
      rw [h.2]
      omega
    · rw [f]
      rcases logAll_mem hc with ⟨k, hk, rfl⟩ | rfl
      · show next q ≤ q + 1; omega
      · show next q ≤ q + 1; omega

theorem commit_ac (j : Jn n F Z q l) (hz : Calm z n) (h : InvB x z F Z q l) : (z.apply F Z).2 = z.applies q l := by
  have hl := look_log j.ck (by rw [hz.size]; exact j.hi) h.head (by rw [hz.size]; exact j.val) h.log
  unfold DevS.apply
  rw [hl]
  simp only
  rw [if_neg (by simp), if_neg (by simp)]
  split <;> rfl
theorem step_commit (j : Jn n F Z q l) (hx : x.stable.length = n) (hv0 : validE n F Z l = 0) (hr : Rest x F Z q) :
    Step_ x (x.commit F Z l).2 n (2 * l.length + 2) (x.commit F Z l).1 (fun u => InvE x u F Z q l) (fun u => Inv x u F Z q l) := by
  obtain ⟨c1, c2, c3, c4, c5⟩ := step_log j hx hv0 hr
  obtain ⟨e, u, hu⟩ : ∃ e u, x.log F Z l = (e, u) := ⟨_, _, rfl⟩
  unfold DevS.commit
  rw [hu] at c1 c2 c3 c4 c5 ⊢
  simp only at c1 c2 c3 c4 c5 ⊢
  rcases c4 with ⟨rfl, cu, b⟩ | ⟨rfl, hk⟩
  · rw [if_neg (by simp), commit_ac j cu b]
    obtain ⟨d1, d2, d3, d4, d5⟩ := step_ac j hx cu b
    unfold DevS.ac at d1 d2 d3 d4 d5
    refine ⟨d1, by omega, d3, ?_, fun k hk => ?_⟩
    · rcases d4 with d4 | ⟨e, d4⟩
      · exact .inl d4
      · exact .inr ⟨e, fun keep hk => by
          rcases d4 keep hk with h | h
          · exact .inr (.inl h)
          · exact .inr (.inr (.inr h))⟩
    · exact d5 k (c5 (k + (l.length + 1)) (by rw [show k + (l.length + 1) + (l.length + 1) = k + (2 * l.length + 2) by omega]; exact hk)).2
  · rw [if_pos (by simp)]
    show Step_ x u n (2 * l.length + 2) 13 _ _
    exact ⟨c1, by omega, c3, .inr ⟨rfl, fun keep hkp => .inl (hk keep hkp)⟩, fun k hk => absurd (c5 (k + (l.length + 1)) (by rw [show k + (l.length + 1) + (l.length + 1) = k + (2 * l.length + 2) by omega]; exact hk)).1 (by decide)⟩
end

/-- Is there a frame of the transaction behind a number? The error, and the answer. -/
def DevS.staleTo (x : DevS) (F q : Int) : Nat → Int × Bool
  | 0 => (0, false)
  | k + 1 => if (x.staleTo F q k).1 ≠ 0 then x.staleTo F q k else if brokenB (x.ge (F + 1 + k)) then (x.ge (F + 1 + k), false) else
    (0, (x.staleTo F q k).2 || (x.ge (F + 1 + k) == 0 && (x.fr (F + 1 + k)).seq == next q && ((x.fr (F + 1 + k)).kind == 2 || (x.fr (F + 1 + k)).kind == 3)))
def DevS.stale (x : DevS) (F Z q : Int) : Int × Bool := x.staleTo F q (Z - 1).toNat
/-- How many records, the error, and the device. -/
def DevS.replay (x : DevS) (F Z : Int) : Int × Int × DevS :=
  if (x.look F Z).1 ≠ 0 then (0, (x.look F Z).1, x) else
  if (x.look F Z).2.2.2 = true then (if (x.ac F Z (x.look F Z).2.1 (x.look F Z).2.2.1).1 ≠ 0 then (0, x.ac F Z (x.look F Z).2.1 (x.look F Z).2.2.1) else ((x.look F Z).2.2.1.length, x.ac F Z (x.look F Z).2.1 (x.look F Z).2.2.1)) else
  if (x.stale F Z (x.look F Z).2.1).1 ≠ 0 then (0, (x.stale F Z (x.look F Z).2.1).1, x) else
  if (x.stale F Z (x.look F Z).2.1).2 = true then (0, x.clear F Z) else (0, 0, x)

section
variable {x z u : DevS} {F Z q : Int} {l : List Rec} {n : Nat}
theorem stale_body {p r : Int} (h : Body z F Z p) : ∀ k : Nat, (k : Int) < Z → (z.staleTo F r k).1 = 0 ∧ (p < next r → (z.staleTo F r k).2 = false)
  | 0, _ => ⟨rfl, fun _ => rfl⟩
  | k + 1, hk => by
    obtain ⟨i1, i2⟩ := stale_body (r := r) h k (by omega)
    have h9 := h (F + 1 + k) (by omega) (by omega)
    have e : z.staleTo F r (k + 1) = (0, (z.staleTo F r k).2 || (z.ge (F + 1 + k) == 0 && (z.fr (F + 1 + k)).seq == next r && ((z.fr (F + 1 + k)).kind == 2 || (z.fr (F + 1 + k)).kind == 3))) := by
      show (if (z.staleTo F r k).1 ≠ 0 then _ else if brokenB (z.ge (F + 1 + k)) then _ else _) = _
      rw [if_neg (by rw [i1]; simp), if_neg (by rw [h9.1]; simp)]
    rw [e]
    refine ⟨rfl, fun hp => ?_⟩
    show ((z.staleTo F r k).2 || _) = false
    rw [i2 hp, Bool.false_or]
    by_cases h0 : z.ge (F + 1 + k) = 0
    · have h8 := h9.2 h0
      have h7 : ((z.fr (F + 1 + k)).seq == next r) = false := by
        rw [beq_eq_false_iff_ne]; omega
      rw [h7]; simp
    · have h7 : (z.ge (F + 1 + k) == 0) = false := by simpa using h0
      rw [h7]; simp
theorem replay_old {p : Int} (hc : checkE F Z = 0) (hs : z.stable.length ≤ 256) (hh : HeadAt z F p) (hb : Body z F Z p) (hp : 0 ≤ p ∧ p < 4294967290) : z.replay F Z = (0, 0, z) := by
  have hz := checkE_zero hc
  have hnx := next_small hp
  have hv : ValidL z.stable.length F Z [] := ⟨by unfold mostN; simp; omega, fun k hk => by simp at hk⟩
  have h1 := lookTo_stop (j := 0) (by omega) hs hv (fun k hk => by simp at hk) (Nat.le_refl _) (by have := (hb (F + 1) (by omega) (by omega)).1; simpa using this) (q := p) (fun hc2 => by
    have h9 := (hb (F + 1 + (0 : Nat)) (by omega) (by omega)).2 hc2.1
    have := hc2.2
    omega) (Z - 1).toNat (by omega)
  have hl : z.look F Z = (0, p, [], false) := by
    unfold DevS.look
    rw [hh.head hc]
    simp only
    rw [if_neg (by simp), h1, if_neg (by simp)]
    rfl
  have hst := stale_body (r := p) hb (Z - 1).toNat (by omega)
  unfold DevS.replay
  rw [hl]
  simp only
  rw [if_neg (by simp), if_neg (by simp)]
  unfold DevS.stale
  rw [if_neg (by rw [hst.1]; simp), if_neg (by rw [hst.2 (by omega)]; simp)]
theorem step_replay (j : Jn n F Z q l) (hx : x.stable.length = n) (hz : Calm z n) (h : Inv x z F Z q l) :
    Step_ z (z.replay F Z).2.2 n (l.length + 1) (z.replay F Z).2.1 (fun u => InvA x u F Z q l ∨ InvD x u F Z q ∨ InvE x u F Z q l) (fun u => Inv x u F Z q l) := by
  have hzz := j.zz
  have hf := j.fit
  have hnum := j.num
  have same : z.replay F Z = (0, 0, z) → (InvA x z F Z q l ∨ InvD x z F Z q ∨ InvE x z F Z q l) → Step_ z (z.replay F Z).2.2 n (l.length + 1) (z.replay F Z).2.1 (fun u => InvA x u F Z q l ∨ InvD x u F Z q ∨ InvE x u F Z q l) (fun u => Inv x u F Z q l) := fun e hi => by
    rw [e]
    exact ⟨hz.ok, by show z.taken ≤ _; omega, hz.size, .inl ⟨rfl, hz, hi⟩, fun k hr => ⟨rfl, hr.mono (by omega)⟩⟩
  have whole : InvB x z F Z q l → Step_ z (z.replay F Z).2.2 n (l.length + 1) (z.replay F Z).2.1 (fun u => InvA x u F Z q l ∨ InvD x u F Z q ∨ InvE x u F Z q l) (fun u => Inv x u F Z q l) := fun hb => by
    have hl := look_log j.ck (by rw [hz.size]; exact j.hi) hb.head (by rw [hz.size]; exact j.val) hb.log
    have e : (z.replay F Z).2 = z.ac F Z q l := by
      unfold DevS.replay
      rw [hl]
      simp only
      rw [if_neg (by simp), if_pos (by simp)]
      split <;> rfl
    rw [e]
    obtain ⟨c1, c2, c3, c4, c5⟩ := step_ac j hx hz hb
    refine ⟨c1, c2, c3, ?_, c5⟩
    rcases c4 with ⟨e, cc, h⟩ | ⟨e, h⟩
    · exact .inl ⟨e, cc, .inr (.inr h)⟩
    · exact .inr ⟨e, fun keep hk => by
        rcases h keep hk with h | h
        · exact .inr (.inl h)
        · exact .inr (.inr (.inr h))⟩
  rcases h with h | h | h | h
  · rcases look_mixed j.ck (by rw [hz.size]; exact j.hi) (by rw [hz.size]; exact j.val) h.mix with ⟨hL, -⟩ | ⟨r, hl⟩
    · exact whole ⟨h.mix.head, hL, h.out.half (hz.size.trans hx.symm) (by rw [hx]; exact j.out), h.body⟩
    · have hst := stale_body (r := q) h.body (Z - 1).toNat (by omega)
      by_cases hs : (z.stale F Z q).2 = true
      · have e : (z.replay F Z).2 = z.clear F Z := by
          unfold DevS.replay
          rw [hl]
          simp only
          rw [if_neg (by simp), if_neg (by simp), if_neg (by unfold DevS.stale; rw [hst.1]; simp), if_pos hs]
        rw [e]
        obtain ⟨c1, c2, c3, c4, c5⟩ := step_clear j hz h.mix.head
        have hout' : ∀ (v : DevS), (∀ b : Int, 0 ≤ b → b < n → b ≠ F → sameFr z v b) → ∀ b : Int, OutJ F Z x.stable.length b → sameFr z v b := fun v hv b hb => hv b hb.1 (by rw [hx] at hb; exact hb.2.1) (by have := hb.2.2; omega)
        have hbody' : ∀ (v : DevS), (∀ b : Int, 0 ≤ b → b < n → b ≠ F → sameFr z v b) → ∀ b : Int, F + 1 ≤ b → b < F + Z → sameFr z v b := fun v hv b h1 h2 => hv b (by omega) (by omega) (by omega)
        refine ⟨c1, by omega, c3, ?_, fun k hr => c5 k (hr.mono (by omega)) |>.imp id id⟩
        rcases c4 with ⟨e, cc, c6, c7⟩ | ⟨e, c6⟩
        · exact .inl ⟨e, cc, .inr (.inl ⟨c6, h.body.same (hbody' _ c7), h.out.trans (hout' _ c7)⟩)⟩
        · refine .inr ⟨e, fun keep hk => ?_⟩
          obtain ⟨d1, d2⟩ := c6 keep hk
          rcases d1 with d1 | d1
          · refine .inl ⟨h.mix.same (fun b h1 h2 => ?_) (by omega), h.body.same (hbody' _ d2), h.out.trans (hout' _ d2)⟩
            by_cases hbF : b = F
            · rw [hbF]; exact d1
            · exact d2 b (by omega) (by omega) hbF
          · exact .inr (.inr (.inl ⟨d1, h.body.same (hbody' _ d2), h.out.trans (hout' _ d2)⟩))
      · have e : z.replay F Z = (0, 0, z) := by
          unfold DevS.replay
          rw [hl]
          simp only
          rw [if_neg (by simp), if_neg (by simp), if_neg (by unfold DevS.stale; rw [hst.1]; simp), if_neg hs]
        exact same e (.inl h)
  · exact whole h
  · exact same (replay_old j.ck (by rw [hz.size]; exact j.hi) h.head h.body (by omega)) (.inr (.inl h))
  · exact same (replay_old j.ck (by rw [hz.size]; exact j.hi) h.head h.body (by omega)) (.inr (.inr h))
end

end Go.Proofs.YtloddiipepiocaaGreatDoor
/- Layer 6: Limit, Pending. -/
namespace Go.Proofs.YtloddiipepiocaaGreatDoor
open Go.RowKit Go.Maps

def DevS.limit (x : DevS) (n : Int) : DevS := { x with power := n }
theorem DevAt.limit {w : World} {D : Nat} {B : List Nat} {x : DevS} (h : DevAt w D B x) {n : Int} (hn : -1 ≤ n ∧ n ≤ 1000000000000) : DevAt (w.setCell ⟨D, 3, none⟩ (.int .i64 n)) D B (x.limit n) := by
  obtain ⟨ok, half, ⟨S, c, M, cv, m, hD, hS, hM, hc⟩, lt⟩ := h
  obtain ⟨n1, n2, n3, n4, n5, n6⟩ := m.ne
  have hk : ∀ b, b ≠ D → (w.setCell ⟨D, 3, none⟩ (.int .i64 n)).heap[b]? = w.heap[b]? := fun b hb => Below.heap_setCell w ⟨D, 3, none⟩ _ b hb
  have hD0 : D ≠ 0 := by have := (lt D hD).1; omega
  have hS' : ∀ g, (Value.slice (some ⟨S, 0, none⟩) x.stable.length c).ownBlock = some g → g ≠ D := fun g e => by cases e; exact fun e => n1 e.symm
  refine ⟨⟨ok.lo, ok.hi, ok.sec, ok.cac, ok.len, ok.tk, hn⟩, ⟨by simpa using half.1, fun j hj => (World.cell?_of_block (w := w) (a := ⟨0, j, none⟩) (hk 0 (fun e => hD0 e.symm))).trans (half.2 j hj)⟩, ⟨S, c, M, cv, ⟨m.dev.set_ 3 (.int .i64 n), own_block m.sta fun g e => hk g (hS' g e), own_block m.cac fun g e => hk g (fun e2 => n4 (by rw [← e2]; exact e)), map_block m.map (hk M (fun e => n2 e.symm))⟩, hD, hS, hM, hc⟩, fun b hb => ⟨(lt b hb).1, by simpa using (lt b hb).2⟩⟩

set_option maxRecDepth 100000 in
theorem limit_dev (D : Nat) (B : List Nat) (x : DevS) (w : World) (h : DevAt w D B x) (n : Int) (hn : -1 ≤ n ∧ n ≤ 1000000000000) :
    Calls Tryz.prog 25 #[.pointer (some ⟨D, 0, none⟩), .int .i64 n] w fun e w' => e = .returned (.int .i64 0) ∧ w' = w.setCell ⟨D, 3, none⟩ (.int .i64 n) := by
  obtain ⟨S, c, M, cv, m, -⟩ := h.mem
  have bD := m.dev
  have hok := devOk_any D S x.stable.length c cv x.taken x.power x.off M w bD
  unfold devC at bD
  have c3 : w.cell? ⟨D, 3, none⟩ = some (.int .i64 x.power) := (bD.cells 3).trans rfl
  have lD := bD.lt
  have fD := bD.free
  clear bD m
  go_enter Tryz.func25, Tryz.ntmps25
  go_wp2_with fail
  refine hok.mono ?_
  rintro e w1 ⟨rfl, rfl⟩
  go_wp2_with fail
  go_ret
  exact ⟨rfl, rfl⟩
set_option maxRecDepth 100000 in
theorem pending_dev (D : Nat) (B : List Nat) (x : DevS) (w : World) (h : DevAt w D B x) :
    Calls Tryz.prog 33 #[.pointer (some ⟨D, 0, none⟩)] w fun e w' => e = .returned (.int .i64 x.cache.length) ∧ w' = w := by
  obtain ⟨S, c, M, cv, m, -⟩ := h.mem
  have bD := m.dev
  have hok := devOk_any D S x.stable.length c cv x.taken x.power x.off M w bD
  obtain ⟨A, cc, g, rfl, -⟩ := cv_form m
  unfold devC at bD
  have c1 : w.cell? ⟨D, 1, none⟩ = some (.slice A x.cache.length cc) := (bD.cells 1).trans rfl
  have lD := bD.lt
  clear bD m
  go_enter Tryz.func33, Tryz.ntmps33
  go_wp2_with fail
  refine hok.mono ?_
  rintro e w1 ⟨rfl, rfl⟩
  go_wp2_with fail
  go_ret
  exact ⟨rfl, rfl⟩
end Go.Proofs.YtloddiipepiocaaGreatDoor
