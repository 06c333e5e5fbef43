/- Layer 11: the reader's lists. -/
import Derived.Test.YtjocnooekgnedaaGreatDoorPart01
import Derived.Test.YtjocnooekgnedaaGreatDoorPart40
set_option linter.unusedVariables false
set_option linter.unusedSimpArgs false
namespace Go.Proofs.YtjocnooekgnedaaGreatDoor
open Go.RowKit Go.Maps Go.Shelf

attribute [local go_sem] Oper.semAt_some

def takeL (bs : List Int) (at_ : Nat) (e : Int) (m : Nat) : List Int := if e = 0 ∧ at_ + m ≤ bs.length then (bs.drop at_).take m else []
def takeA (bs : List Int) (at_ : Nat) (e : Int) (m : Nat) : Nat := if e = 0 ∧ at_ + m ≤ bs.length then at_ + m else at_
def takeE (bs : List Int) (at_ : Nat) (e : Int) (m : Nat) : Int := if e = 0 then (if at_ + m ≤ bs.length then 0 else 10) else e
def TakePost (R : Nat) (A : Option Addr) (c : Nat) (bs : List Int) (at_ : Nat) (e : Int) (m : Nat) (w : World) (x : Ending) (w' : World) : Prop :=
  ∃ A' c', x = .returned (.slice A' (takeL bs at_ e m).length c') ∧ (takeL bs at_ e m).length ≤ c' ∧ Reads w' A' ((takeL bs at_ e m).map (.int .u8)) ∧ (∀ a, A' = some a → a.block ≠ R ∧ a.block < w.heap.size) ∧ RdAt w' R A c bs (takeA bs at_ e m) (takeE bs at_ e m) ∧ KeepEx w.heap.size [R] w w'
theorem take_any (R : Nat) (A : Option Addr) (c : Nat) (bs : List Int) (at_ : Nat) (e : Int) (m : Nat) (hm : m ≤ 1000) (h0 : 0 < bs.length) (w : World) (h : RdAt w R A c bs at_ e) :
    Calls Tryz.prog 174 #[.pointer (some ⟨R, 0, none⟩), .int .i64 m] w (TakePost R A c bs at_ e m w) := by
  by_cases he : e = 0
  · subst he
    by_cases hle : at_ + m ≤ bs.length
    · refine (take_ok R A c bs at_ m hle h0 w h).mono ?_
      rintro x w' ⟨A', c', rfl, h1, h2, h3, h4, h5⟩
      have e1 : takeL bs at_ 0 m = (bs.drop at_).take m := if_pos ⟨rfl, hle⟩
      have e2 : takeA bs at_ 0 m = at_ + m := if_pos ⟨rfl, hle⟩
      have e3 : takeE bs at_ 0 m = 0 := by unfold takeE; rw [if_pos rfl, if_pos hle]
      have e4 : ((bs.drop at_).take m).length = m := by rw [List.length_take, List.length_drop]; omega
      refine ⟨A', c', ?_, ?_, ?_, h3, ?_, h5⟩
      · rw [e1, e4]
      · rw [e1, e4]; exact h1
      · rw [e1]; exact h2
      · rw [e2, e3]; exact h4
    · refine (take_more R A c bs at_ m (by omega) hm w h).mono ?_
      rintro x w' ⟨rfl, h4, h5⟩
      have e1 : takeL bs at_ 0 m = [] := if_neg (fun h => hle h.2)
      have e2 : takeA bs at_ 0 m = at_ := if_neg (fun h => hle h.2)
      have e3 : takeE bs at_ 0 m = 10 := by unfold takeE; rw [if_pos rfl, if_neg hle]
      refine ⟨none, 0, ?_, ?_, ?_, fun a e => (by cases e), ?_, h5⟩
      · rw [e1]; rfl
      · rw [e1]; exact Nat.le_refl _
      · rw [e1]; exact .inl rfl
      · rw [e2, e3]; exact h4
  · refine (take_bad R A c bs at_ e he m w h).mono ?_
    rintro x w' ⟨rfl, q, rfl⟩
    have e1 : takeL bs at_ e m = [] := if_neg (fun h => he h.1)
    have e2 : takeA bs at_ e m = at_ := if_neg (fun h => he h.1)
    have e3 : takeE bs at_ e m = e := if_neg he
    refine ⟨none, 0, ?_, ?_, ?_, fun a e => (by cases e), ?_, KeepEx.of_below (below_drewN' (Below.refl _ _) q)⟩
    · rw [e1]; rfl
    · rw [e1]; exact Nat.le_refl _
    · rw [e1]; exact .inl rfl
    · rw [e2, e3]; exact h.below (below_drewN' (Below.refl _ _) q)

/-- The number of a chunk. -/
def chV (L : List Int) (m : Nat) (x : Fin m) : Int := valL ((L.drop (4 * x.val)).take 4)
/-- A block of a value whose list has been gathered. -/
def ListBox (X base m : Nat) (L : List Int) (pre : List (Fin m)) (W : World) : Prop :=
  ∃ v, Blk W X 79 #[.int .u64 0, .string ⟨#[]⟩, v] ∧ W.ownsRow base 81 1 v pre.length ((pre.map (chV L m)).map (.int .u32)) ∧ v.ownBlock ≠ some X
theorem listBox_own (X base m : Nat) (L : List Int) (C : Nat) : OwnFrom C (fun (pre : List (Fin m)) W => ListBox X base m L pre W) := fun pre A B row hs hg hr => by
  obtain ⟨v, hb, ho, hf⟩ := hs
  refine ⟨v, hb.grown hg fun e => ?_, own_block ho (fun g e => ?_), hf⟩
  · obtain ⟨o, h1, h2⟩ := (hr X e.symm).2
    rw [hb] at h1; cases h1; cases h2
  · rcases ho.2 with ⟨rfl, _⟩ | ⟨g', cap, cur, rfl, _, hgb, _⟩
    · cases e
    · have e' : g' = g := by simpa [Value.ownBlock] using e
      subst e'
      refine hg.block g' (Array.getElem?_eq_some_iff.1 hgb).1 (fun e2 => ?_)
      obtain ⟨o, h1, h2⟩ := (hr g' e2.symm).2
      rw [hgb] at h1; cases h1; cases h2

theorem vals_chunks : ∀ (m : Nat) (L : List Int), L.length = 4 * m → (List.finRange m).map (chV L m) = vals L
  | 0, L, h => by
    obtain rfl := List.length_eq_zero_iff.1 (by omega : L.length = 0)
    rfl
  | m + 1, L, h => by
    match L, h with
    | a :: b :: c :: d :: t, h =>
      have ih := vals_chunks m t (by simp at h; omega)
      rw [List.finRange_succ, List.map_cons, List.map_map]
      show chV (a :: b :: c :: d :: t) (m + 1) 0 :: _ = (a + 256 * b + 65536 * c + 16777216 * d) :: vals t
      have e0 : chV (a :: b :: c :: d :: t) (m + 1) 0 = a + 256 * b + 65536 * c + 16777216 * d := by
        show a + 256 * (b + 256 * (c + 256 * (d + 256 * 0))) = _
        omega
      rw [e0, ← ih]
      congr 1
theorem RdAt.keep2 {w w' : World} {R B : Nat} {A : Option Addr} {c : Nat} {bs : List Int} {at_ : Nat} {e : Int} (h : RdAt w R A c bs at_ e) (hB : ∀ a, A = some a → 0 < bs.length → a.block < B) (hR : Blk w' R 199 #[.slice A bs.length c, .int .i64 at_, .int .i64 e]) (hk : KeepEx B [R] w w') : RdAt w' R A c bs at_ e :=
  ⟨hR, by
    rcases Nat.eq_zero_or_pos bs.length with h0 | h0
    · rw [List.length_eq_zero_iff.1 h0]; exact .inl rfl
    · rcases h.rd with hr | ⟨b, o, hA, hl, hc⟩
      · exact .inl hr
      · exact .inr ⟨b, o, hA, by have := hk.size; omega, fun j u hu => by
          rw [hk.cell (p := ⟨b, o + j, none⟩) (hB ⟨b, o, none⟩ hA h0) (by simp; exact h.far _ hA h0)]
          exact hc j u hu⟩, h.le, h.len, h.cap, h.far, h.nn⟩
def listOk (bs : List Int) (at_ : Nat) : Prop := at_ < bs.length ∧ bs.getD at_ 0 ≤ 60 ∧ at_ + 1 + 4 * (bs.getD at_ 0).toNat ≤ bs.length
def ListPost (R : Nat) (A : Option Addr) (c : Nat) (bs : List Int) (at_ : Nat) (w : World) (x : Ending) (w' : World) : Prop :=
  ∃ v l e a', x = .returned (.agg #[.int .u64 0, .string ⟨#[]⟩, v]) ∧ RdAt w' R A c bs a' e ∧ KeepEx w.heap.size [R] w w' ∧ w'.ownsRow w.heap.size 81 1 v l.length (l.map (.int .u32)) ∧
    (listOk bs at_ → e = 0 ∧ a' = at_ + 1 + 4 * (bs.getD at_ 0).toNat ∧ l = vals ((bs.drop (at_ + 1)).take (4 * (bs.getD at_ 0).toNat))) ∧ (¬ listOk bs at_ → e ≠ 0)
set_option maxRecDepth 100000 in
set_option maxHeartbeats 4000000 in
theorem rlist_any (R : Nat) (A : Option Addr) (c : Nat) (bs : List Int) (at_ : Nat) (h0 : 0 < bs.length) (f g : Nat) (w : World) (h : RdAt w R A c bs at_ 0) :
    Calls Tryz.prog 141 #[.pointer (some ⟨R, 0, none⟩), .agg (kdC 108 0 f g).toArray] w (ListPost R A c bs at_ w) := by
  obtain ⟨wA, hA⟩ : ∃ wA, wA = (w.alloc (.cells (kdC 108 0 f g).toArray 138)).alloc (.cells rcZ 79) := ⟨_, rfl⟩
  have bZ : Blk wA (w.heap.size + 1) 79 rcZ := by rw [hA]; exact (by (repeat' (first | (with_reducible assumption) | exact Blk.new' (by simp) | refine Blk.alloc ?_ _)))
  have BA : Below w.heap.size w wA := by rw [hA]; (repeat' (first | (with_reducible exact Below.refl _ _) | (with_reducible assumption) | (with_reducible refine Below.alloc ?_ ?_ _) | (with_reducible refine Below.drew ?_) | (with_reducible refine below_drewN' ?_ _) | (with_reducible refine Below.setCell ?_ ?_ _) | (with_reducible exact Nat.le_refl _) | omega | (simp; done) | (simp; omega)))
  have hRA := h.below BA
  have hct := rcount_any R A c bs at_ h0 wA hRA
  have hRl : R < w.heap.size := h.blk.lt
  have HFar := Lib.hid h.far
  have HAl : Hid (∀ a, A = some a → a.block < w.heap.size) := Lib.hid (fun a e => h.rd.blk_lt (by rw [List.length_map]; exact h0) a e)
  clear h
  refine calls_of_marks Tryz.func141 rfl ?_
  simp only [Tryz.ntmps141, List.size_toArray, List.length_cons, List.length_nil, Nat.reduceAdd, Nat.reduceSub, Array.replicate_succ, Array.replicate_zero, List.push_toArray, List.append_toArray, List.nil_append, List.cons_append]
  go_wp2_with fail
  rw [← hA]
  clear hA
  refine hct.mono ?_
  rintro x w1 ⟨n, e, a', rfl, hr1, hk1, hyes, hno⟩
  have hnb : 0 ≤ n ∧ n ≤ 60 := by
    by_cases hc : at_ < bs.length ∧ bs.getD at_ 0 ≤ 60
    · have h1 := (hyes hc).2.2
      have h2 := hr1.nn (bs.getD at_ 0) (by rw [List.getD_eq_getElem?_getD, List.getElem?_eq_getElem hc.1]; exact List.getElem_mem _)
      omega
    · have := (hno hc).2; omega
  obtain ⟨nn, rfl⟩ : ∃ nn : Nat, n = nn := ⟨n.toNat, by omega⟩
  have m1 : IntKind.i64.wrap (4 * (nn : Int)) = ((4 * nn : Nat) : Int) := by rw [IntKind.wrap_i64]; omega
  have htk := take_any R A c bs a' e (4 * nn) (by omega) h0 w1 hr1
  have HYES := Lib.hid hyes
  have HNO := Lib.hid hno
  clear hct hyes hno
  go_wp2_with fail
  refine htk.mono ?_
  rintro x w2 ⟨A', c', rfl, hc', hrd, hne, hr2, hk2⟩
  have hmm : ∃ mm, mm ≤ 60 ∧ (takeL bs a' e (4 * nn)).length = 4 * mm := by
    unfold takeL
    split
    · exact ⟨nn, by omega, by rw [List.length_take, List.length_drop]; omega⟩
    · exact ⟨0, by omega, rfl⟩
  obtain ⟨mm, hm60, hml⟩ := hmm
  obtain ⟨L, hL⟩ : ∃ L, L = takeL bs a' e (4 * nn) := ⟨_, rfl⟩
  have hLn : ∀ b ∈ L, 0 ≤ b ∧ b < 256 := fun b hb => by
    rw [hL] at hb; unfold takeL at hb
    split at hb
    · exact hr1.nn b (List.mem_of_mem_drop (List.mem_of_mem_take hb))
    · cases hb
  rw [← hL] at hc' hrd hml ⊢
  rw [hml] at hc' ⊢
  have HL := Lib.hid hL
  have HLN := Lib.hid hLn
  have HML := Lib.hid hml
  have HR1L := Lib.hid hr1.le
  clear hL hLn hml htk
  have bZ1 := hk1.blk bZ bZ.lt (by simp; omega)
  have bZ2 := hk2.blk bZ1 bZ1.lt (by simp; omega)
  have hsz1 := hk1.size
  have hsz2 := hk2.size
  have hszA := BA.size
  obtain ⟨w3, hw3⟩ : ∃ w3, w2.alloc (.cells rcZ 79) = w3 := ⟨_, rfl⟩
  obtain ⟨X, hX⟩ : ∃ X, w2.heap.size = X := ⟨_, rfl⟩
  have bX3 : Blk w3 X 79 rcZ := by rw [← hw3, ← hX]; exact Blk.new _ _ _
  have b23 : Below w2.heap.size w2 w3 := by rw [← hw3]; exact (Below.refl _ _).alloc (Nat.le_refl _) _
  have hs3 : w3.heap.size = X + 1 := by rw [← hw3, ← hX]; simp
  have hch := chunk_any A' (4 * mm) c' w3
  have HW3 := Lib.hid hw3
  have HXX := Lib.hid hX
  clear hw3 hX
  go_upto_region 3 with fail
  rw [HW3.out, HXX.out]
  go_wp2_with fail
  refine hch.mono ?_
  rintro x w4 ⟨rfl, hw4⟩
  have hz4 : w4.heap.size = X + 3 := by rw [hw4]; simp; omega
  have b34 : Below w3.heap.size w3 w4 := by rw [hw4]; exact ((Below.refl _ _).alloc (Nat.le_refl _) _).alloc (by simp) _
  have bB0 : Blk w4 (X + 1) 29 #[.slice A' (4 * mm) c'] := by rw [hw4, ← hs3]; exact (Blk.new _ _ _).alloc _
  have bB1 : Blk w4 (X + 2) 3 #[.int .i64 4] := by rw [hw4]; exact Blk.new' (by simp; omega)
  have bX4 := bX3.belowAll b34
  rw [hs3]
  clear hch hw4 bX3
  have b24 : Below w2.heap.size w2 w4 := b23.trans (b34.mono b23.size)
  have hr4 := hr2.below b24
  have hrd4 := hrd.below b24
  obtain ⟨b, off, hAb, hcell⟩ : ∃ b off, (0 < mm → A' = some ⟨b, off, none⟩) ∧ (0 < mm → b < w4.heap.size ∧ b ≠ X ∧ ∀ j u, (L.map (Value.int .u8))[j]? = some u → w4.cell? ⟨b, off + j, none⟩ = some u) := by
    rcases Nat.eq_zero_or_pos mm with h9 | h9
    · exact ⟨0, 0, fun h => absurd h (by omega), fun h => absurd h (by omega)⟩
    · rcases hrd4 with hq | ⟨b, o, he, hl, hc⟩
      · have := HML.out; rw [List.map_eq_nil_iff] at hq; rw [hq] at this; simp at this; omega
      · exact ⟨b, o, fun _ => he, fun _ => ⟨hl, by have h8 := (hne _ he).2; have h9 := HXX.out; simp only at h8; omega, hc⟩⟩
  have HCELL := Lib.hid hcell
  have HAB := Lib.hid hAb
  obtain ⟨i0, hi, hz0, hzs, hzb⟩ := info_parts Tryz.infoU32
  have HHI := Lib.hid hi
  clear hi hcell hAb hrd hrd4 b34 b23
  go_wp2_with fail
  refine range_meet (n := 6) (fun D W => W.heap[D]? = some (.deferred (some [])) ∧ X + 3 ≤ D ∧ ListBox X (X + 3) mm L (List.finRange mm) W ∧ KeepEx (X + 3) [X] w4 W) ?loop ?after
  case loop =>
    refine wpIn_rangeFunc_ownG rfl (by omega) (gf := 189) (lb := #[.pointer (some ⟨X + 1, 0, none⟩), .pointer (some ⟨X + 1 + 1, 0, none⟩)]) rfl trivial (enters_of Tryz.func189 (by kernel_rfl) rfl)
      (chunk_stops Fence.wide (6 - 1) trivial rfl (by omega) (X + 1) (X + 1 + 1) (X + 3) A' c' mm (by omega) hc' b off HAB.out w4 [X] (by simp) (by simp; omega) (by omega) (by omega) (by omega) bB0 bB1)
      keepEx_t (keepEx_b (by omega)) (Below.refl _ _) (fun _ => rfl)
      (fun pre W => ListBox X (X + 3) mm L pre W ∧ KeepEx (X + 3) [X] w4 W)
      (fun _ _ _ => False)
      (OwnFrom.and (listBox_own _ _ _ _ _) (ownFrom_keepEx (by omega) (by omega)))
      (fun _ _ _ _ _ hs _ _ => hs)
      ⟨⟨_, bX4, World.ownsRow_nil _ _ _ _, by simp [Value.ownBlock]⟩, KeepEx.refl _ _ _⟩
      (fun x => { tmps := #[.pointer (some ⟨R, 0, none⟩), .agg (kdC 108 0 f g).toArray, undef, .pointer (some ⟨w.heap.size, 0, none⟩), .pointer (some ⟨w.heap.size + 1, 0, none⟩), .slice A' (4 * mm) c', .pointer (some ⟨X, 0, none⟩), .slice (some ⟨b, off + 4 * x.val, none⟩) 4 4, .pointer (some ⟨R, 0, none⟩), .pointer (some ⟨R, 0, none⟩), .int .i64 nn, .int .i64 (4 * (nn : Int)), .slice A' (4 * mm) c', .slice A' (4 * mm) c', .func (.func 189) #[] #[.pointer (some ⟨X + 1, 0, none⟩), .pointer (some ⟨X + 1 + 1, 0, none⟩)], .slice (some ⟨b, off + 4 * x.val, none⟩) 4 4, undef, undef, undef, undef, undef, undef, undef, undef, undef], defers := [] }) ?assign ?body ?done ?stop
    case assign =>
      intro l x W K hK
      gi_wp2
      exact hK
    case body =>
      rintro l pre x W ⟨⟨v, hbX, hown, hfar⟩, hK⟩ hlt
      obtain ⟨ga, gc, rfl⟩ := own_slice hown
      have hx := x.isLt
      obtain ⟨hb4, hbX2, hbc⟩ := HCELL.out (by omega)
      have hml := HML.out
      have hlen : ((L.drop (4 * x.val)).take 4).length = 4 := by rw [List.length_take, List.length_drop]; omega
      have hch : ∀ V, KeepEx (X + 3) [X] w4 V → Reads V (some ⟨b, off + 4 * x.val, none⟩) (((L.drop (4 * x.val)).take 4).map (.int .u8)) := fun V hV => .inr ⟨b, off + 4 * x.val, rfl, by have := hV.size; omega, fun j u hu => by
        rw [hV.cell (p := ⟨b, off + 4 * x.val + j, none⟩) (by show b < X + 3; omega) (by simp; exact hbX2), show off + 4 * x.val + j = off + (4 * x.val + j) by omega]
        refine hbc (4 * x.val + j) u ?_
        rw [List.getElem?_map] at hu ⊢
        rw [List.getElem?_take] at hu
        split at hu
        · rw [List.getElem?_drop] at hu; exact hu
        · cases hu⟩
      have hkd : KeepEx (X + 3) [X] w4 W.drew := hK.trans (KeepEx.of_below ((Below.refl _ _).drew))
      have hval := value_any (some ⟨b, off + 4 * x.val, none⟩) 4 ((L.drop (4 * x.val)).take 4) (by omega) (fun b hb => HLN.out b (List.mem_of_mem_drop (List.mem_of_mem_take hb))) W.drew (hch _ hkd)
      have hbd := valL_bds ((L.drop (4 * x.val)).take 4) (fun b hb => HLN.out b (List.mem_of_mem_drop (List.mem_of_mem_take hb)))
      rw [hlen] at hval hbd
      have HV : Hid ((pre.map (chV L mm)).map (Value.int .u32) ++ [.int .u32 (valL ((L.drop (4 * x.val)).take 4))] = ((pre ++ [x]).map (chV L mm)).map (.int .u32)) := Lib.hid (by simp [chV])
      generalize valL ((L.drop (4 * x.val)).take 4) = z at *
      have m3 : IntKind.u32.wrap z = z := by rw [IntKind.wrap_u32]; have : (256 : Int) ^ 4 = 4294967296 := rfl; omega
      have hKs := hK.size
      have hi := HHI.out
      obtain ⟨V0, hV0⟩ : ∃ V0, V0 = W.drew.alloc (.cells #[.int .u32 z] 81) := ⟨_, rfl⟩
      have bV0 : Below W.heap.size W V0 := by rw [hV0]; exact ((Below.refl _ _).drew).alloc (Nat.le_refl _) _
      have hV2 : (W.alloc (.cells #[.int .u32 z] 81)).drew = V0 := by rw [hV0]; rfl
      have rV : Reads V0 (some ⟨W.heap.size, 0, none⟩) [.int .u32 z] := .inr ⟨W.heap.size, 0, rfl, by rw [hV0]; simp, fun j u hu => by
        rw [hV0, Nat.zero_add]
        rcases j with _ | j
        · refine ((Blk.new W.drew 81 #[.int .u32 z]).cells 0).trans ?_; simpa using hu
        · simp at hu⟩
      have HV2 := Lib.hid hV2
      have HBX := Lib.hid hbX
      have HOWN := Lib.hid hown
      have HFAR := Lib.hid hfar
      have HK := Lib.hid hK
      have c0 : W.drew.cell? ⟨X, 2, none⟩ = some (.slice ga pre.length gc) := (hbX.drew.cells 2).trans rfl
      have hsz := hbX.lt
      clear hV0 hV2 hch hkd hbX hown hfar hK
      gi_wp2
      refine wpIn_region_mix [.take 0, .take 1, .take 2, .one 3, .one 4, .one 5, .one 6, .one 7, .one 8] 7 (fun V => V.cell? ⟨X, 2, none⟩ = some (.slice ga pre.length gc)) (by kernel_rfl) (by kernel_rfl) (by kernel_rfl) (fun _ _ h => h) (fun _ _ _ _ _ h => h) c0 ?_
      simp only [List.map_cons, List.map_nil, Ms.fill, List.getD_cons_zero, List.getD_cons_succ]
      iterate 3 (refine mixT_take (by rfl) ?_ (fun w' hw' => ?_) ?_; rotate_left; (focus (go_simp; (try with_reducible rfl))); (try simp only [Act.put, List.setIfInBounds_toArray, List.set_cons_zero, List.set_cons_succ]))
      refine mixT_step (by rfl) fun K hK => ?_
      go_simp
      refine hval.mono ?_
      rintro y w5 ⟨rfl, rfl⟩
      refine hK _ _ (fun _ => c0) ?_
      clear hK K hval
      refine mixT_step (by rfl) fun K hK => ?_
      go_simp
      refine hK _ _ (fun _ => c0) ?_
      clear hK K
      refine mixT_step (by rfl) fun K hK => ?_
      go_simp
      rw [HV2.out]
      have bX0 := HBX.out.belowAll bV0
      have hown0 := own_below HOWN.out bV0
      refine hK _ _ (fun _ => (bX0.cells 2).trans rfl) ?_
      clear hK K
      refine mixT_step (by rfl) fun K hK => ?_
      refine wp_append_any (w := V0) _ _ 77 rfl (X + 3) 81 i0 (.int .u32 0) 4 Tryz.underlying77 hi hz0 hzs hzb rfl (.slice ga pre.length gc) _ _ rfl hown0 (some ⟨W.heap.size, 0, none⟩) 1 1 [.int .u32 z] rfl rfl (fun h => by cases h) rV (by simp [Value.oneCell']) (by simp only [maxLen]; omega) (by omega) (by have := bV0.size; omega) ?_
      intro v' w6 hown6 hgrow hat
      obtain ⟨hs1, hs2, hs3, hs4⟩ := row_step (p := 2) HBX.out HFAR.out bV0 hown6 hgrow hat
      obtain ⟨av, cv, e9⟩ := own_slice hown6
      subst e9
      have b6 : Blk w6 X 79 _ := bX0.grown hgrow (fun e => HFAR.out e.symm)
      have c6 : w6.cell? ⟨X, 2, none⟩ = some (.slice ga pre.length gc) := (b6.cells 2).trans rfl
      have l6 := b6.lt
      have f6 := b6.free 2
      refine hK _ _ (fun _ => c6) ?_
      clear hK K
      have HS4 := Lib.hid hs4
      have HS1 := Lib.hid hs1
      have HS2 := Lib.hid hs2
      have HS3 := Lib.hid hs3
      clear hs1 hs2 hs3 hs4 hown6 hgrow hat b6
      refine mixT_step (by rfl) fun K hK => ?_
      go_simp
      refine hK _ _ (fun h => absurd h (by decide)) ?_
      clear hK K
      refine mixT_step (by rfl) fun K hK => ?_
      go_simp
      refine hK _ _ (fun h => absurd h (by decide)) ?_
      clear hK K
      refine mixT_nil ?_
      have hgw := HS4.out
      have hkw : KeepEx (X + 3) [X] W (w6.setCell ⟨X, 2, none⟩ (.slice av (pre.length + 1) cv)) := ⟨hgw.keep.os, hgw.keep.tape, hgw.keep.output, hgw.keep.size, fun q hq hn => hgw.keep.block q (by omega) (fun hm => by
        rcases List.mem_cons.1 hm with e | e
        · exact hn (by simp [e])
        · have h1 := (own_lt HOWN.out q (by simpa using e)).1; omega)⟩
      refine ⟨⟨hgw.keep.size, fun q o _ hq ho => ?_⟩, hkw, ⟨_, HS1.out, ?_, HS3.out⟩, HK.out.trans hkw⟩
      · refine (hgw.keep.block q (Array.getElem?_eq_some_iff.1 hq).1 (fun hm => ?_)).trans hq
        rcases List.mem_cons.1 hm with e | e
        · subst e
          rw [show W.heap[q]? = _ from HBX.out] at hq; cases hq; cases ho
        · rcases HOWN.out.2 with ⟨h1, _⟩ | ⟨g', cap, cur, h1, _, hgb, _⟩
          · rw [h1] at e; simp [Value.ownBlock] at e
          · rw [h1] at e
            have e' : g' = q := by simpa [Value.ownBlock, eq_comm] using e
            subst e'
            rw [hgb] at hq; cases hq; cases ho
      · have h9 := HS2.out
        rw [HV.out] at h9
        simpa using h9
    case done =>
      rintro D ys W hD rfl ⟨hbox, hK⟩ hKd
      exact ⟨.inl rfl, D, rfl, hKd, by omega, hbox, hK⟩
    case stop =>
      rintro D c pre W hD _ hf
      exact hf.elim
  case after =>
    rintro D W ⟨hKd, hD, ⟨v, hbX, hown, hfar⟩, hK⟩
    obtain ⟨av, cv, rfl⟩ := own_slice hown
    have hfl : (List.finRange mm).length = mm := List.length_finRange
    rw [hfl] at hbX hown
    clear hfl
    have hxx := HXX.out
    have hzz := bZ.lt
    have bZW : Blk W (w.heap.size + 1) 79 rcZ := hK.blk (bZ2.belowAll b24) (by omega) (by simp; omega)
    have bRW := hK.blk hr4.blk (by omega) (by simp; omega)
    have cX0 : W.cell? ⟨X, 0, none⟩ = some (.int .u64 0) := (hbX.cells 0).trans rfl
    have cX1 : W.cell? ⟨X, 1, none⟩ = some (.string ⟨#[]⟩) := (hbX.cells 1).trans rfl
    have cX2 : W.cell? ⟨X, 2, none⟩ = some (.slice av mm cv) := (hbX.cells 2).trans rfl
    have lX := hbX.lt
    have hst := storeRow (ty := 79) (vs := #[.int .u64 0, .string ⟨#[]⟩, .slice av mm cv]) bZW rfl (by simp [Value.oneCell']) (by kernel_rfl)
    have hKs := hK.size
    have hZD : w.heap.size + 1 ≠ D := by omega
    have hDD : (W.setRow (w.heap.size + 1) #[.int .u64 0, .string ⟨#[]⟩, .slice av mm cv]).heap[D]? = some (.deferred (some [])) := (setRow_other W (w.heap.size + 1) D _ (Ne.symm hZD)).trans hKd
    have bZF := blk_put (o := .deferred none) (bZW.setRow (cs' := #[.int .u64 0, .string ⟨#[]⟩, .slice av mm cv])) hZD
    have bRF := blk_put (o := .deferred none) (bRW.rowFar (k := w.heap.size + 1) (cs' := #[.int .u64 0, .string ⟨#[]⟩, .slice av mm cv]) (by omega)) (by omega : R ≠ D)
    have hbw : Below w.heap.size w4 (W.setRow (w.heap.size + 1) #[.int .u64 0, .string ⟨#[]⟩, .slice av mm cv]) := Below.setRow (hK.toBelow (by omega) (by simp; omega)) (by omega) _
    have hbwF := hbw.grown (grownBy_putObj' _ D (.deferred none)) (by have := hbw.size; omega) (fun k hk => by cases hk; omega)
    have hI : (Tryz.prog.info? 79).map (·.size) = some 3 := by kernel_rfl
    have hoF : (W.setRow (w.heap.size + 1) #[.int .u64 0, .string ⟨#[]⟩, .slice av mm cv]).ownsRow (X + 3) 81 1 (.slice av mm cv) mm (((List.finRange mm).map (chV L mm)).map (.int .u32)) := own_block hown (fun q e => setRow_other W (w.heap.size + 1) q _ (by have := (own_lt hown q e).1; omega))
    have HOF := Lib.hid hoF
    have HBW := Lib.hid hbwF
    have HRF := Lib.hid bRF
    have HZF := Lib.hid bZF
    have HDD := Lib.hid hDD
    clear hKd hbX hown bZW bRW hfar hbw hbwF bRF bZF hDD hoF
    go_wp2_with (refine wpList_storeBy rfl _ _ _ rfl _ _ rfl rfl hst ?_)
    refine marks_ret (.agg #[.int .u64 0, .string ⟨#[]⟩, .slice av mm cv]) HDD.out (by exact results_cell_row Tryz.results141 _ _ (w.heap.size + 1) 79 _ (0, 0) _ (by rfl) HZF.out Tryz.underlying79 rfl hI) ?_
    have hkF : KeepEx w.heap.size [R] w4 _ := KeepEx.of_below HBW.out
    have hlm : ((List.finRange mm).map (chV L mm)).length = mm := by rw [List.length_map, List.length_finRange]
    refine ⟨.slice av mm cv, (List.finRange mm).map (chV L mm), takeE bs a' e (4 * nn), takeA bs a' e (4 * nn), rfl, hr4.keep2 (fun a ea _ => HAl.out a ea) HRF.out hkF, ?_, ?_, fun hok => ?_, fun hno => ?_⟩
    · exact ((((KeepEx.of_below BA).trans (hk1.lower BA.size)).trans (hk2.lower (by omega))).trans (KeepEx.of_below (b24.mono (by omega)))).trans hkF
    · rw [hlm]; exact own_base (ownsRow_putObj HOF.out _ HDD.out rfl) (by omega)
    · obtain ⟨e1, e2, e3⟩ := HYES.out ⟨hok.1, hok.2.1⟩
      subst e1
      subst e2
      have e4 : (bs.getD at_ 0).toNat = nn := by omega
      have hle : at_ + 1 + 4 * nn ≤ bs.length := by have := hok.2.2; rw [e4] at this; exact this
      have h1 : takeL bs (at_ + 1) 0 (4 * nn) = (bs.drop (at_ + 1)).take (4 * nn) := if_pos ⟨rfl, hle⟩
      rw [e4]
      refine ⟨by unfold takeE; rw [if_pos rfl, if_pos hle], by unfold takeA; rw [if_pos ⟨rfl, hle⟩], ?_⟩
      rw [vals_chunks mm L HML.out, HL.out, h1]
    · unfold takeE
      by_cases he : e = 0
      · rw [if_pos he]
        by_cases hc : at_ < bs.length ∧ bs.getD at_ 0 ≤ 60
        · obtain ⟨e1, e2, e3⟩ := HYES.out hc
          rw [if_neg (fun hle => hno ⟨hc.1, hc.2, by have : (bs.getD at_ 0).toNat = nn := by omega
                                                     rw [this, ← e2]; exact hle⟩)]
          decide
        · exact absurd he (HNO.out hc).1
      · rw [if_neg he]; exact he
end Go.Proofs.YtjocnooekgnedaaGreatDoor
