/- Parts of the proof, put together by program: KT, KU, KV, KW, KY. -/
import Derived.Test.YtjocnooekgnedaaGreatDoorPart39
import Derived.Laws.Bits64b
import Derived.ScopeJumps
import Derived.WalkMore
import Derived.Test.YtjocnooekgnedaaGreatDoorPart04
import Derived.BigRegionIn
set_option linter.unusedVariables false
set_option linter.unusedSimpArgs false
/- Layer 11: numbers of records, read. -/
namespace Go.Proofs.YtjocnooekgnedaaGreatDoor
open Go.RowKit Go.Maps

/-- The number of bytes, the lowest first. -/
def valL : List Int → Int
  | [] => 0
  | b :: t => b + 256 * valL t
theorem valL_snoc (l : List Int) (b : Int) : valL (l ++ [b]) = valL l + b * 256 ^ l.length := by
  induction l with
  | nil => simp [valL]
  | cons a t ih =>
    show a + 256 * valL (t ++ [b]) = a + 256 * valL t + b * 256 ^ (t.length + 1)
    rw [ih, Int.pow_succ]
    grind
theorem valL_bds : ∀ l : List Int, (∀ b ∈ l, 0 ≤ b ∧ b < 256) → 0 ≤ valL l ∧ valL l < 256 ^ l.length
  | [], _ => by simp [valL]
  | a :: t, h => by
    have h1 := h a (by simp)
    have h2 := valL_bds t (fun b hb => h b (by simp [hb]))
    show 0 ≤ a + 256 * valL t ∧ a + 256 * valL t < 256 ^ (t.length + 1)
    rw [Int.pow_succ]
    omega
theorem or_add (a x n : Nat) (ha : a < 2 ^ n) : a ||| (x * 2 ^ n) = a + x * 2 ^ n := by
  rw [Nat.or_comm, Nat.mul_comm, ← Nat.two_pow_add_eq_or_of_lt ha]; omega
theorem bits_add (a x : Int) (k : Nat) (hk : k < 4) (ha : 0 ≤ a ∧ a < 256 ^ k) (hx : 0 ≤ x ∧ x < 256) : bits .or .u64 a (IntKind.u64.wrap (x * 2 ^ (8 * k))) = a + x * 256 ^ k := by
  obtain ⟨p, rfl⟩ : ∃ p : Nat, a = p := ⟨a.toNat, by omega⟩
  obtain ⟨q, rfl⟩ : ∃ q : Nat, x = q := ⟨x.toNat, by omega⟩
  have hc : k = 0 ∨ k = 1 ∨ k = 2 ∨ k = 3 := by omega
  have hk2 : ∀ n : Nat, n ≤ 24 → p < 2 ^ n → (q : Int) * 2 ^ n < 18446744073709551616 → bits .or .u64 (p : Int) (IntKind.u64.wrap ((q : Int) * 2 ^ n)) = (p : Int) + q * 2 ^ n := fun n hn hp hq => by
    have h0 : (0 : Int) ≤ (q : Int) * 2 ^ n := Int.mul_nonneg (by omega) (Int.le_of_lt (Int.pow_pos (by decide)))
    have e : (q : Int) * 2 ^ n = ((q * 2 ^ n : Nat) : Int) := by push_cast; rfl
    rw [IntKind.wrap_u64, Int.emod_eq_of_lt h0 hq, e, bits_or_u64_nat _ _ ?_ ?_, or_add p q n hp]
    · push_cast; rfl
    · exact Nat.lt_of_lt_of_le hp (Nat.le_trans (Nat.pow_le_pow_right (by decide) hn) (by decide))
    · rw [e] at hq; omega
  rcases hc with rfl | rfl | rfl | rfl
  · exact hk2 0 (by decide) (by simp at ha ⊢; omega) (by simp; omega)
  · exact hk2 8 (by decide) (by simp at ha ⊢; omega) (by simp; omega)
  · exact hk2 16 (by decide) (by simp at ha ⊢; omega) (by simp; omega)
  · exact hk2 24 (by decide) (by simp at ha ⊢; omega) (by simp; omega)
set_option maxRecDepth 100000 in
set_option maxHeartbeats 4000000 in
theorem value_any (A : Option Addr) (c : Nat) (l : List Int) (hl : l.length ≤ 4) (hb : ∀ b ∈ l, 0 ≤ b ∧ b < 256) (w : World) (hR : Reads w A (l.map (.int .u8))) :
    Calls Tryz.prog 173 #[.slice A l.length c] w fun x w' => x = .returned (.int .u64 (valL l)) ∧ w' = w := by
  have HB := Lib.hid hb
  clear hb
  go_enter Tryz.func173, Tryz.ntmps173
  go_wp2_with fail
  go_loopw [3, 8] (fun s3 s8 wr => ∃ k : Nat, k ≤ l.length ∧ s8 = .int .i64 k ∧ s3 = .int .u64 (valL (l.take k)) ∧ wr = w) (fun _ s8 _ => l.length - (intOf s8).toNat)
  case atStart => exact ⟨0, Nat.zero_le _, rfl, by simp [valL], rfl⟩
  case round =>
    obtain ⟨k, hk, rfl, rfl, rfl⟩ := hrel
    by_cases hlt : k < l.length
    · have hltI : (k : Int) < l.length := by omega
      obtain ⟨b, o, rfl, hbl, hc⟩ := hR.at_ (k := k) (by rw [List.length_map]; exact hlt)
      simp only [List.getElem_map] at hc
      have hnb := HB.out l[k] (List.getElem_mem hlt)
      have hT : l.take (k + 1) = l.take k ++ [l[k]] := by rw [List.take_add_one, List.getElem?_eq_getElem hlt]; rfl
      have hvl := valL_bds (l.take k) (fun b hb => HB.out b (List.mem_of_mem_take hb))
      rw [List.length_take, Nat.min_eq_left hk] at hvl
      have hS : valL (l.take (k + 1)) = valL (l.take k) + l[k] * 256 ^ k := by rw [hT, valL_snoc, List.length_take, Nat.min_eq_left hk]
      have HS := Lib.hid hS
      clear hS hT
      generalize valL (l.take k) = a at *
      generalize l[k] = x at *
      have m0 : IntKind.u64.wrap x = x := by rw [IntKind.wrap_u64]; omega
      have m1 : IntKind.i64.wrap (8 * (k : Int)) = 8 * k := by rw [IntKind.wrap_i64]; omega
      have hba := bits_add a x k (by omega) hvl hnb
      rw [← HS.out] at hba
      have HBA := Lib.hid hba
      clear hba
      go_wp2_with fail
      refine ⟨⟨k + 1, by omega, by go_num, ?_, by first | exact rfl | trivial⟩, by simp [intOf]; omega⟩
      rw [HBA.out]
    · obtain rfl : k = l.length := by omega
      rw [List.take_length]
      go_wp2_with fail
      go_ret
      exact ⟨rfl, rfl⟩
end Go.Proofs.YtjocnooekgnedaaGreatDoor
/- Layer 11: the reader's numbers. -/
namespace Go.Proofs.YtjocnooekgnedaaGreatDoor
open Go.RowKit Go.Maps

abbrev rcZ : Array Value := #[.int .u64 0, .string ⟨#[]⟩, .slice none 0 0]
theorem RdAt.keep {w w' : World} {R : Nat} {A : Option Addr} {c : Nat} {bs : List Int} {at_ : Nat} {e : Int} (h : RdAt w R A c bs at_ e) (hR : Blk w' R 199 #[.slice A bs.length c, .int .i64 at_, .int .i64 e]) (hk : KeepEx w.heap.size [R] w w') : RdAt w' R A c bs at_ e :=
  ⟨hR, by
    rcases Nat.eq_zero_or_pos bs.length with h0 | h0
    · rw [List.length_eq_zero_iff.1 h0]; exact .inl rfl
    · rcases h.rd with hr | ⟨b, o, hA, hl, hc⟩
      · exact .inl hr
      · exact .inr ⟨b, o, hA, by have := hk.size; omega, fun j u hu => by
          rw [hk.cell (p := ⟨b, o + j, none⟩) hl (by simp; exact h.far _ hA h0)]
          exact hc j u hu⟩, h.le, h.len, h.cap, h.far, h.nn⟩
theorem RdAt.row {w : World} {R : Nat} {A : Option Addr} {c : Nat} {bs : List Int} {at_ : Nat} {e : Int} (h : RdAt w R A c bs at_ e) {g : Nat} (hg : g ≠ R) (hA : ∀ a, A = some a → 0 < bs.length → a.block ≠ g) (cs : Array Value) : RdAt (w.setRow g cs) R A c bs at_ e :=
  ⟨(setRow_other w g R cs (Ne.symm hg)).trans h.blk, by
    rcases Nat.eq_zero_or_pos bs.length with h0 | h0
    · rw [List.length_eq_zero_iff.1 h0]; exact .inl rfl
    · rcases h.rd with hr | ⟨b, o, he, hl, hc⟩
      · exact .inl hr
      · exact .inr ⟨b, o, he, by have := (Below.setRow (Below.refl 0 w) (Nat.zero_le g) cs).size; omega, fun j u hu => by
          rw [World.cell?_of_block (w := w) (setRow_other w g b cs (hA _ he h0))]
          exact hc j u hu⟩, h.le, h.len, h.cap, h.far, h.nn⟩
theorem KeepEx.lower {B B' : Nat} {bs : List Nat} {w w' : World} (h : KeepEx B bs w w') (hB : B' ≤ B) : KeepEx B' bs w w' := ⟨h.os, h.tape, h.output, h.size, fun k hk hn => h.block k (by omega) hn⟩
set_option maxRecDepth 100000 in
set_option maxHeartbeats 4000000 in
theorem rnumber_any (R : Nat) (A : Option Addr) (c : Nat) (bs : List Int) (at_ : Nat) (cc : Int) (m : Nat) (hm : m = 1 ∨ m = 2) (f g : Nat) (w : World) (h : RdAt w R A c bs at_ 0) :
    Calls Tryz.prog 135 #[.pointer (some ⟨R, 0, none⟩), .agg (kdC cc m f g).toArray] w fun x w' => ∃ n e a', x = .returned (.agg #[.int .u64 n, .string ⟨#[]⟩, .slice none 0 0]) ∧ RdAt w' R A c bs a' e ∧ KeepEx w.heap.size [R] w w' ∧
      (at_ + m ≤ bs.length → e = 0 ∧ a' = at_ + m ∧ n = valL ((bs.drop at_).take m)) ∧ (bs.length < at_ + m → e = 10) := by
  obtain ⟨wA, hA⟩ : ∃ wA, wA = (w.alloc (.cells (kdC cc m f g).toArray 138)).alloc (.cells rcZ 79) := ⟨_, rfl⟩
  have bK : Blk wA w.heap.size 138 (kdC cc m f g).toArray := by rw [hA]; exact (by (repeat' (first | (with_reducible assumption) | exact Blk.new' (by simp) | refine Blk.alloc ?_ _)))
  have bV : Blk wA (w.heap.size + 1) 79 rcZ := by rw [hA]; exact (by (repeat' (first | (with_reducible assumption) | exact Blk.new' (by simp) | refine Blk.alloc ?_ _)))
  have BA : Below w.heap.size w wA := by rw [hA]; (repeat' (first | (with_reducible exact Below.refl _ _) | (with_reducible assumption) | (with_reducible refine Below.alloc ?_ ?_ _) | (with_reducible refine Below.drew ?_) | (with_reducible refine below_drewN' ?_ _) | (with_reducible refine Below.setCell ?_ ?_ _) | (with_reducible exact Nat.le_refl _) | omega | (simp; done) | (simp; omega)))
  have hRA := h.below BA
  have hRl : R < w.heap.size := h.blk.lt
  have hAl : ∀ a, A = some a → 0 < bs.length → a.block < w.heap.size := fun a e h0 => h.rd.blk_lt (by rw [List.length_map]; exact h0) a e
  have c1 : wA.cell? ⟨w.heap.size, 1, none⟩ = some (.int .i64 m) := (bK.cells 1).trans rfl
  have lK := bK.lt
  have HA := Lib.hid hA
  clear hA h bK
  have hz2 := BA.size
  by_cases hle : at_ + m ≤ bs.length
  · have htk := take_ok R A c bs at_ m hle (by omega) wA hRA
    go_enter Tryz.func135, Tryz.ntmps135
    go_wp2_with fail
    rw [← HA.out]
    go_wp2_with fail
    refine htk.mono ?_
    rintro x w1 ⟨A', c', rfl, hc', hrd, hne, hR1, hk1⟩
    have hl2 : ((bs.drop at_).take m).length = m := by rw [List.length_take, List.length_drop]; omega
    have hval := value_any A' c' ((bs.drop at_).take m) (by omega) (fun b hb => hR1.nn b (List.mem_of_mem_drop (List.mem_of_mem_take hb))) w1 hrd
    rw [hl2] at hval
    have bV1 := hk1.blk bV bV.lt (by simp; omega)
    clear htk
    go_wp2_with fail
    refine hval.mono ?_
    rintro x w2 ⟨rfl, rfl⟩
    obtain ⟨n, hn⟩ : ∃ n, n = valL ((bs.drop at_).take m) := ⟨_, rfl⟩
    rw [← hn]
    have HN := Lib.hid hn
    clear hn
    have hst := storeRow (ty := 79) (vs := #[.int .u64 n, .string ⟨#[]⟩, .slice none 0 0]) bV1 rfl (by simp [Value.oneCell']) (by kernel_rfl)
    clear hval
    go_wp2_with (refine wpList_storeBy rfl _ _ _ rfl _ _ rfl rfl hst ?_)
    have hI : (Tryz.prog.info? 79).map (·.size) = some 3 := by kernel_rfl
    refine bodyPost_ret (v := .agg #[.int .u64 n, .string ⟨#[]⟩, .slice none 0 0]) (by exact results_cell_row Tryz.results135 _ _ (w.heap.size + 1) 79 _ (0, 0) _ (by rfl) bV1.setRow Tryz.underlying79 rfl hI) rfl ?_
    exact ⟨n, 0, at_ + m, rfl, hR1.row (by omega) (fun a e h => by have := hAl a e h; omega) _, ((KeepEx.of_below BA).trans (hk1.lower BA.size)).trans (KeepEx.of_below (Below.setRow (Below.refl _ _) (by omega) _)), fun _ => ⟨rfl, rfl, HN.out⟩, fun h => absurd h (by omega)⟩
  · have htk := take_more R A c bs at_ m (by omega) (by omega) wA hRA
    go_enter Tryz.func135, Tryz.ntmps135
    go_wp2_with fail
    rw [← HA.out]
    go_wp2_with fail
    refine htk.mono ?_
    rintro x w1 ⟨rfl, hR1, hk1⟩
    have hval := value_any none 0 [] (by simp) (fun b hb => by cases hb) w1 (.inl rfl)
    have bV1 := hk1.blk bV bV.lt (by simp; omega)
    clear htk
    go_wp2_with fail
    refine hval.mono ?_
    rintro x w2 ⟨rfl, rfl⟩
    rw [show valL [] = 0 from rfl]
    have hst := storeRow (ty := 79) (vs := #[.int .u64 0, .string ⟨#[]⟩, .slice none 0 0]) bV1 rfl (by simp [Value.oneCell']) (by kernel_rfl)
    clear hval
    go_wp2_with (refine wpList_storeBy rfl _ _ _ rfl _ _ rfl rfl hst ?_)
    have hI : (Tryz.prog.info? 79).map (·.size) = some 3 := by kernel_rfl
    refine bodyPost_ret (v := .agg #[.int .u64 0, .string ⟨#[]⟩, .slice none 0 0]) (by exact results_cell_row Tryz.results135 _ _ (w.heap.size + 1) 79 _ (0, 0) _ (by rfl) bV1.setRow Tryz.underlying79 rfl hI) rfl ?_
    exact ⟨0, 10, at_, rfl, hR1.row (by omega) (fun a e h => by have := hAl a e h; omega) _, ((KeepEx.of_below BA).trans (hk1.lower BA.size)).trans (KeepEx.of_below (Below.setRow (Below.refl _ _) (by omega) _)), fun h => absurd h (by omega), fun _ => rfl⟩
end Go.Proofs.YtjocnooekgnedaaGreatDoor
/- Layer 11: the reader's counts. -/
namespace Go.Proofs.YtjocnooekgnedaaGreatDoor
open Go.RowKit Go.Maps

def ShortPost (R : Nat) (A : Option Addr) (c : Nat) (bs : List Int) (at_ : Nat) (w : World) (x : Ending) (w' : World) : Prop :=
  ∃ n e a', x = .returned (.int .u64 n) ∧ RdAt w' R A c bs a' e ∧ KeepEx w.heap.size [R] w w' ∧ (0 ≤ n ∧ n < 18446744073709551616) ∧
    ((at_ < bs.length ∧ bs.getD at_ 0 < 128) → e = 0 ∧ a' = at_ + 1 ∧ n = bs.getD at_ 0) ∧ (¬ (at_ < bs.length ∧ bs.getD at_ 0 < 128) → e ≠ 0 ∨ 128 ≤ n)
theorem and_127 : ∀ a : Fin 256, bits .and .u8 (a.val : Int) 127 = (a.val : Int) % 128 := by decide +kernel
theorem or_short (n g : Int) (i : Nat) (hi : i < 10) (hg : 0 ≤ g ∧ g ≤ 127) (h9 : i = 9 → g ≤ 1) (hn : 0 ≤ n ∧ n < 18446744073709551616) :
    (0 ≤ bits .or .u64 n (IntKind.u64.wrap (g * 2 ^ (7 * i))) ∧ bits .or .u64 n (IntKind.u64.wrap (g * 2 ^ (7 * i))) < 18446744073709551616) ∧ (0 < i → 0 < g → 128 ≤ bits .or .u64 n (IntKind.u64.wrap (g * 2 ^ (7 * i)))) ∧ (i = 0 → n = 0 → bits .or .u64 n (IntKind.u64.wrap (g * 2 ^ (7 * i))) = g) := by
  obtain ⟨p, rfl⟩ : ∃ p : Nat, n = p := ⟨n.toNat, by omega⟩
  obtain ⟨q, rfl⟩ : ∃ q : Nat, g = q := ⟨g.toNat, by omega⟩
  have e : (q : Int) * 2 ^ (7 * i) = ((q * 2 ^ (7 * i) : Nat) : Int) := by push_cast; rfl
  have hlt : q * 2 ^ (7 * i) < 18446744073709551616 := by
    have hc : i = 0 ∨ i = 1 ∨ i = 2 ∨ i = 3 ∨ i = 4 ∨ i = 5 ∨ i = 6 ∨ i = 7 ∨ i = 8 ∨ i = 9 := by omega
    rcases hc with rfl | rfl | rfl | rfl | rfl | rfl | rfl | rfl | rfl | rfl
    all_goals first | (have := h9 rfl; simp; omega) | (simp; omega)
  have hw : IntKind.u64.wrap ((q : Int) * 2 ^ (7 * i)) = ((q * 2 ^ (7 * i) : Nat) : Int) := by rw [IntKind.wrap_u64, e]; omega
  rw [hw, bits_or_u64_nat _ _ (by omega) hlt]
  refine ⟨⟨by omega, ?_⟩, fun h1 h2 => ?_, fun h1 h2 => ?_⟩
  · have : p ||| (q * 2 ^ (7 * i)) < 2 ^ 64 := Nat.or_lt_two_pow (by omega) (by omega)
    omega
  · have h3 : q * 2 ^ (7 * i) ≤ p ||| (q * 2 ^ (7 * i)) := Nat.right_le_or
    have h4 : 2 ^ 7 ≤ 2 ^ (7 * i) := Nat.pow_le_pow_right (by decide) (by omega)
    have h5 : 1 * 2 ^ (7 * i) ≤ q * 2 ^ (7 * i) := Nat.mul_le_mul_right _ (by omega)
    omega
  · subst h1
    obtain rfl : p = 0 := by omega
    simp
/-- What holds where the run jumps to the end: the reader is there, and the first byte is no number of its own. -/
def ShortJ (R : Nat) (A : Option Addr) (c : Nat) (bs : List Int) (at_ : Nat) (w : World) (a : Act) (w' : World) : Prop :=
  (∃ u1 u2 u3 u4 u5 u6 u7 u8 u9 u10 u11 u12 u13 u14 u15 u16 u17 u18 u19 u20 u21 u22 u23 u24 u25 u26 u27 u28 u29 u30 u31 u32 u33 u34 u35 u36 u37 u38 u39 u40 u41 u42 u43 u44 u45 u46 u47 u48 : Value, a = { tmps := #[.pointer (some ⟨R, 0, none⟩), u1, u2, u3, u4, u5, u6, u7, u8, u9, u10, u11, u12, u13, u14, u15, u16, u17, u18, u19, u20, u21, u22, u23, u24, u25, u26, u27, u28, u29, u30, u31, u32, u33, u34, u35, u36, u37, u38, u39, u40, u41, u42, u43, u44, u45, u46, u47, u48], defers := [] }) ∧ (∃ a', RdAt w' R A c bs a' 0) ∧ KeepEx w.heap.size [R] w w' ∧ ¬ (at_ < bs.length ∧ bs.getD at_ 0 < 128)
set_option maxRecDepth 100000 in
set_option maxHeartbeats 4000000 in
theorem rshort_any (R : Nat) (A : Option Addr) (c : Nat) (bs : List Int) (at_ : Nat) (h0 : 0 < bs.length) (w : World) (h : RdAt w R A c bs at_ 0) :
    Calls Tryz.prog 176 #[.pointer (some ⟨R, 0, none⟩)] w (ShortPost R A c bs at_ w) := by
  go_enter Tryz.func176, Tryz.ntmps176
  go_wp2_with fail
  refine wp_scope_jumps 0 (ShortJ R A c bs at_ w) (fun _ _ => 0) (by rfl) ?_ ?_
  rotate_left
  · rintro a wj ⟨⟨u1, u2, u3, u4, u5, u6, u7, u8, u9, u10, u11, u12, u13, u14, u15, u16, u17, u18, u19, u20, u21, u22, u23, u24, u25, u26, u27, u28, u29, u30, u31, u32, u33, u34, u35, u36, u37, u38, u39, u40, u41, u42, u43, u44, u45, u46, u47, u48, rfl⟩, ⟨a', hr⟩, hk, hno⟩
    have c2 : wj.cell? ⟨R, 2, none⟩ = some (.int .i64 0) := (hr.blk.cells 2).trans rfl
    have l2 := hr.blk.lt
    have f2 := hr.blk.free 2
    have hs := hr.set_ 6
    have hk2 := hk.trans (KeepEx.setCell wj (p := ⟨R, 2, none⟩) (.inl (by simp)) (.int .i64 6))
    have HS := Lib.hid hs
    have HK := Lib.hid hk2
    clear hr hk hs hk2
    go_wp2_with fail
    show bodyPost Tryz.prog Tryz.f176 (ShortPost R A c bs at_ w) Exit.ret _ _
    go_ret
    exact ⟨0, 6, a', rfl, HS.out, HK.out, by omega, fun h => absurd h hno, fun _ => .inl (by decide)⟩
  · go_wp2_with fail
    go_loopw [3, 4] (fun s3 s4 wr => ∃ (i : Nat) (n : Int), i ≤ 10 ∧ s4 = .int .i64 i ∧ s3 = .int .u64 n ∧ (0 ≤ n ∧ n < 18446744073709551616) ∧ RdAt wr R A c bs (at_ + i) 0 ∧ KeepEx w.heap.size [R] w wr ∧ (0 < i → ¬ (at_ < bs.length ∧ bs.getD at_ 0 < 128)) ∧ (i = 0 → n = 0)) (fun _ s4 _ => 10 - (intOf s4).toNat)
    case atStart => exact ⟨0, 0, by omega, rfl, rfl, by omega, h, KeepEx.refl _ _ _, by omega, fun _ => rfl⟩
    case round =>
      obtain ⟨i, n, hi, rfl, rfl, hn, hr, hk, hbig, hz⟩ := hrel
      by_cases hlt : i < 10
      · have hltI : (i : Int) < 10 := by omega
        have HZ := Lib.hid hz
        have HBG := Lib.hid hbig
        have HN := Lib.hid hn
        have HK := Lib.hid hk
        by_cases hle : at_ + i + 1 ≤ bs.length
        · have htk := take_ok R A c bs (at_ + i) 1 hle h0 wr hr
          have hr0 := hr.nn
          clear h hz hbig hn hk hr
          go_wp2_with fail
          refine htk.mono ?_
          rintro y w1 ⟨A', c', rfl, hc', hrd, hne, hR1, hk1⟩
          obtain ⟨x, hx⟩ : ∃ x, x = bs.getD (at_ + i) 0 := ⟨_, rfl⟩
          have hgx : bs[at_ + i]? = some x := by rw [hx, List.getD_eq_getElem?_getD, List.getElem?_eq_getElem (by omega)]; rfl
          have hxb := hr0 x (List.mem_of_getElem? hgx)
          have hone : (bs.drop (at_ + i)).take 1 = [x] := by
            rw [List.take_one, List.head?_drop, hgx]; rfl
          rw [hone] at hrd
          obtain ⟨ab, ao, rfl, hab, hcell⟩ := hrd.at_ (k := 0) (by simp)
          have hcell : w1.cell? ⟨ab, ao, none⟩ = some (.int .u8 x) := hcell
          have c2 : w1.cell? ⟨R, 2, none⟩ = some (.int .i64 0) := (hR1.blk.cells 2).trans rfl
          have l2 := hR1.blk.lt
          have hand := and_127 ⟨x.toNat, by omega⟩
          simp only [show ((x.toNat : Nat) : Int) = x by omega] at hand
          obtain ⟨g, hg⟩ : ∃ g, g = x % 128 := ⟨_, rfl⟩
          rw [← hg] at hand
          have hg2 : 0 ≤ g ∧ g ≤ 127 := by omega
          have hxg : x < 128 → g = x := by omega
          have m1 : IntKind.u64.wrap g = g := by rw [IntKind.wrap_u64]; omega
          have m2 : IntKind.i64.wrap (7 * (i : Int)) = 7 * i := by rw [IntKind.wrap_i64]; omega
          have HR1 := Lib.hid hR1
          have HK1 := Lib.hid (HK.out.trans (hk1.lower HK.out.size))
          have HX : Hid (i = 0 → x = bs.getD at_ 0) := Lib.hid (fun h => by subst h; exact hx)
          have HXG := Lib.hid hxg
          clear htk hR1 hk1 hrd hne hone hgx hg hxg hr0 hx hc'
          by_cases hw9 : i = 9 ∧ 1 < g
          · as_aux_lemma =>
              have d1 : ((i : Int) == 9) = true := by simp; omega
              have d2 : 1 < g := hw9.2
              have hi0 : 0 < i := by omega
              clear hw9 hltI
              go_wp2_with fail
              go_step3
              refine ⟨rfl, ⟨_, _, _, _, _, _, _, _, _, _, _, _, _, _, _, _, _, _, _, _, _, _, _, _, _, _, _, _, _, _, _, _, _, _, _, _, _, _, _, _, _, _, _, _, _, _, _, _, rfl⟩, ⟨_, HR1.out⟩, HK1.out, HBG.out hi0⟩
          have hor := or_short n g i hlt hg2 (fun h => by omega) HN.out
          have HOR := Lib.hid hor
          clear hor
          have hbr : ((i : Int) == 9) = false ∨ (((i : Int) == 9) = true ∧ ¬ 1 < g) := by
            by_cases h : i = 9
            · exact .inr ⟨by simp; omega, by omega⟩
            · exact .inl (by simp; omega)
          by_cases hx8 : x < 128
          · by_cases hgz : 0 < i ∧ g = 0
            · have hi0 : (0 : Int) < i := by omega
              have hi1 : 0 < i := hgz.1
              have d3 : (g == 0) = true := by simpa using hgz.2
              have HNO := Lib.hid (HBG.out hgz.1)
              clear hgz HOR
              rcases hbr with d1 | ⟨d1, d2⟩
              all_goals
                as_aux_lemma =>
                  clear hw9
                  go_wp2_with fail
                  go_step3
                  refine ⟨rfl, ⟨_, _, _, _, _, _, _, _, _, _, _, _, _, _, _, _, _, _, _, _, _, _, _, _, _, _, _, _, _, _, _, _, _, _, _, _, _, _, _, _, _, _, _, _, _, _, _, _, rfl⟩, ⟨_, HR1.out⟩, HK1.out, HNO.out⟩
            · obtain ⟨o1, o2, o3⟩ := HOR.out
              have hfin : Hid (((at_ < bs.length ∧ bs.getD at_ 0 < 128) → at_ + i + 1 = at_ + 1 ∧ bits .or .u64 n (IntKind.u64.wrap (g * 2 ^ (7 * i))) = bs.getD at_ 0) ∧ (¬ (at_ < bs.length ∧ bs.getD at_ 0 < 128) → 128 ≤ bits .or .u64 n (IntKind.u64.wrap (g * 2 ^ (7 * i))))) := Lib.hid (by
                rcases Nat.eq_zero_or_pos i with h9 | h9
                · have e1 := HX.out h9
                  have e2 := HXG.out hx8
                  have e3 := o3 h9 (HZ.out h9)
                  refine ⟨fun h => ⟨by omega, by rw [e3, e2, e1]⟩, fun h => absurd ⟨by omega, by rw [← e1]; exact hx8⟩ h⟩
                · have hg0 : 0 < g := by
                    by_cases hz0 : g = 0
                    · exact absurd ⟨h9, hz0⟩ hgz
                    · omega
                  exact ⟨fun h => absurd h (HBG.out h9), fun _ => o2 h9 hg0⟩)
              have HO1 := Lib.hid o1
              have d4 : (decide ((0 : Int) < i) && (g == 0)) = false := by
                by_cases h9 : 0 < i
                · have hz0 : ¬ g = 0 := fun e => hgz ⟨h9, e⟩
                  have : (g == 0) = false := by simpa using hz0
                  rw [this]; simp
                · simp; intro h; omega
              have hbr2 : (¬ (0 : Int) < i) ∨ ((0 : Int) < i ∧ (g == 0) = false) := by
                by_cases h9 : 0 < i
                · exact .inr ⟨by omega, by simpa using fun e => hgz ⟨h9, e⟩⟩
                · exact .inl (by omega)
              clear o1 o2 o3 HOR hgz d4
              rcases hbr with d1 | ⟨d1, d2⟩
              all_goals
                rcases hbr2 with d3 | ⟨d3, d4⟩
                all_goals
                  as_aux_lemma =>
                    clear hw9
                    go_wp2_with fail
                    show bodyPost Tryz.prog Tryz.f176 (ShortPost R A c bs at_ w) Exit.ret _ _
                    go_ret
                    exact ⟨_, 0, _, rfl, HR1.out, HK1.out, HO1.out, fun h => ⟨rfl, hfin.out.1 h⟩, fun h => .inr (hfin.out.2 h)⟩
          · have hbig2 : ¬ (at_ < bs.length ∧ bs.getD at_ 0 < 128) := by
              rcases Nat.eq_zero_or_pos i with h9 | h9
              · rw [← HX.out h9]; exact fun h => hx8 h.2
              · exact HBG.out h9
            have HB2 := Lib.hid hbig2
            obtain ⟨o1, -, -⟩ := HOR.out
            have HO1 := Lib.hid o1
            clear o1 HOR hbig2
            rcases hbr with d1 | ⟨d1, d2⟩
            all_goals
              as_aux_lemma =>
                clear hw9
                go_wp2_with fail
                go_roundw
                case rel => exact ⟨i + 1, _, by omega, by go_num, rfl, HO1.out, HR1.out, HK1.out, fun _ => HB2.out, fun h => absurd h (by omega)⟩
                case measure => simp [intOf]; omega
        · have htk := take_more R A c bs (at_ + i) 1 (by omega) (by omega) wr hr
          have hle' := hr.le
          clear h hz hbig hn hk hr
          go_wp2_with fail
          refine htk.mono ?_
          rintro x w1 ⟨rfl, hR1, hk1⟩
          have c2 : w1.cell? ⟨R, 2, none⟩ = some (.int .i64 10) := (hR1.blk.cells 2).trans rfl
          have l2 := hR1.blk.lt
          have HR1 := Lib.hid hR1
          have HK1 := Lib.hid hk1
          clear htk hR1 hk1
          go_wp2_with fail
          show bodyPost Tryz.prog Tryz.f176 (ShortPost R A c bs at_ w) Exit.ret _ _
          go_ret
          exact ⟨0, 10, _, rfl, HR1.out, HK.out.trans (HK1.out.lower HK.out.size), by omega, fun h => by
            rcases Nat.eq_zero_or_pos i with h9 | h9
            · omega
            · exact absurd h (HBG.out h9), fun _ => .inl (by decide)⟩
      · obtain rfl : i = 10 := by omega
        have hbg := hbig (by omega)
        have c2 : wr.cell? ⟨R, 2, none⟩ = some (.int .i64 0) := (hr.blk.cells 2).trans rfl
        have l2 := hr.blk.lt
        have f2 := hr.blk.free 2
        have hs := hr.set_ 6
        have hk2 := hk.trans (KeepEx.setCell wr (p := ⟨R, 2, none⟩) (.inl (by simp)) (.int .i64 6))
        have HS := Lib.hid hs
        have HK := Lib.hid hk2
        clear h hr hk hs hk2 hz hbig
        go_wp2_with fail
        go_step3
        go_wp2_with fail
        show bodyPost Tryz.prog Tryz.f176 (ShortPost R A c bs at_ w) Exit.ret _ _
        go_ret
        exact ⟨0, 6, _, rfl, HS.out, HK.out, by omega, fun h => absurd h hbg, fun _ => .inl (by decide)⟩
end Go.Proofs.YtjocnooekgnedaaGreatDoor
/- Layer 11: the reader's counts and lists. -/
namespace Go.Proofs.YtjocnooekgnedaaGreatDoor
open Go.RowKit Go.Maps

def CountPost (R : Nat) (A : Option Addr) (c : Nat) (bs : List Int) (at_ : Nat) (w : World) (x : Ending) (w' : World) : Prop :=
  ∃ n e a', x = .returned (.int .i64 n) ∧ RdAt w' R A c bs a' e ∧ KeepEx w.heap.size [R] w w' ∧
    ((at_ < bs.length ∧ bs.getD at_ 0 ≤ 60) → e = 0 ∧ a' = at_ + 1 ∧ n = bs.getD at_ 0) ∧ (¬ (at_ < bs.length ∧ bs.getD at_ 0 ≤ 60) → e ≠ 0 ∧ n = 0)
set_option maxRecDepth 100000 in
set_option maxHeartbeats 4000000 in
theorem rcount_any (R : Nat) (A : Option Addr) (c : Nat) (bs : List Int) (at_ : Nat) (h0 : 0 < bs.length) (w : World) (h : RdAt w R A c bs at_ 0) :
    Calls Tryz.prog 177 #[.pointer (some ⟨R, 0, none⟩), .int .u64 60] w (CountPost R A c bs at_ w) := by
  have hsh := rshort_any R A c bs at_ h0 w h
  clear h
  go_enter Tryz.func177, Tryz.ntmps177
  go_wp2_with fail
  refine hsh.mono ?_
  rintro x w1 ⟨n, e, a', rfl, hr, hk, hn, hyes, hno⟩
  have c2 : w1.cell? ⟨R, 2, none⟩ = some (.int .i64 e) := (hr.blk.cells 2).trans rfl
  have l2 := hr.blk.lt
  have f2 := hr.blk.free 2
  have HR := Lib.hid hr
  have HK := Lib.hid hk
  by_cases he : e = 0
  rotate_left
  · as_aux_lemma =>
      have hq : Hid (¬ (at_ < bs.length ∧ bs.getD at_ 0 ≤ 60)) := Lib.hid fun hc => he (hyes ⟨hc.1, by omega⟩).1
      have d1 : (e == 0) = false := by simpa using he
      have d2 : (e != 0) = true := by simpa using he
      have HE := Lib.hid he
      clear hsh hr hk hyes hno he
      go_wp2_with fail
      go_ret
      exact ⟨0, e, a', rfl, HR.out, HK.out, fun hc => absurd hc hq.out, fun _ => ⟨HE.out, rfl⟩⟩
  subst he
  by_cases h60 : 60 < n
  · as_aux_lemma =>
      have hq : Hid (¬ (at_ < bs.length ∧ bs.getD at_ 0 ≤ 60)) := Lib.hid fun hc => by have := (hyes ⟨hc.1, by omega⟩).2.2; omega
      have hs := hr.set_ 3
      have hk2 := hk.trans (KeepEx.setCell w1 (p := ⟨R, 2, none⟩) (.inl (by simp)) (.int .i64 3))
      have HS := Lib.hid hs
      have HK2 := Lib.hid hk2
      clear hsh hr hk hyes hno hs hk2 HR HK
      go_upto_region 4 with fail
      have c3 : (w1.setCell ⟨R, 2, none⟩ (.int .i64 3)).cell? ⟨R, 2, none⟩ = some (.int .i64 3) := (HS.out.blk.cells 2).trans rfl
      have l3 := HS.out.blk.lt
      clear c2 l2 f2
      generalize w1.setCell ⟨R, 2, none⟩ (.int .i64 3) = w2 at *
      go_wp2_with fail
      go_ret
      exact ⟨0, 3, a', rfl, HS.out, HK2.out, fun hc => absurd hc hq.out, fun _ => ⟨by decide, rfl⟩⟩
  · as_aux_lemma =>
      have hq : Hid ((at_ < bs.length ∧ bs.getD at_ 0 ≤ 60) ∧ a' = at_ + 1 ∧ n = bs.getD at_ 0) := Lib.hid (by
        by_cases hc : at_ < bs.length ∧ bs.getD at_ 0 < 128
        · have h1 := hyes hc
          exact ⟨⟨hc.1, by omega⟩, h1.2⟩
        · rcases hno hc with h1 | h1
          · exact absurd rfl h1
          · omega)
      have m1 : IntKind.i64.wrap n = n := by rw [IntKind.wrap_i64]; omega
      clear hsh hr hk hyes hno
      go_wp2_with fail
      go_ret
      exact ⟨n, 0, a', rfl, HR.out, HK.out, fun _ => ⟨rfl, hq.out.2⟩, fun hc => absurd hq.out.1 hc⟩
end Go.Proofs.YtjocnooekgnedaaGreatDoor
/- Layer 11: slices.Chunk of bytes, by fours. -/
namespace Go.Proofs.YtjocnooekgnedaaGreatDoor
open Go.RowKit Go.Shelf

attribute [local go_sem] Oper.semAt_some

theorem chunk_any (A : Option Addr) (n c : Nat) (w : World) :
    Calls Tryz.prog 178 #[.slice A n c, .int .i64 4] w fun e w' =>
      e = .returned (.func (.func 189) #[] #[.pointer (some ⟨w.heap.size, 0, none⟩), .pointer (some ⟨w.heap.size + 1, 0, none⟩)]) ∧
      w' = (w.alloc (.cells #[.slice A n c] 29)).alloc (.cells #[.int .i64 4] 3) := by
  have hmf : ∀ (fn : Fn) (first cap : Array Value) (w : World), (Instr.makeFunc fn first cap).run Tryz.prog w = .ok (.func fn first cap) w := fun _ _ _ _ => rfl
  go_enter Tryz.func178, Tryz.ntmps178
  go_wp2
  go_ret
  exact ⟨rfl, rfl⟩
theorem fin_take {m k : Nat} (h : k < m) : (List.finRange m).take (k + 1) = (List.finRange m).take k ++ [⟨k, h⟩] := by
  rw [List.take_add_one, List.getElem?_eq_getElem (by simpa using h)]
  simp
set_option maxRecDepth 100000 in
set_option maxHeartbeats 2000000 in
theorem chunk1_in (F : Fence) (n : Nat) (h7 : F.fn 189) (hro : F.round = none) (hn : 1 ≤ n) (l Bs Bn n₀ : Nat) (A : Option Addr) (c m : Nat) (hm : m ≤ 1000) (hc : 4 * m ≤ c) (b off : Nat) (hA : 0 < m → A = some ⟨b, off, none⟩) (bs : List Nat) (hBs : Bs < n₀) (hBn : Bn < n₀) (xBs : Bs ∉ bs) (xBn : Bn ∉ bs)
    (J Jx : List (Fin m) → World → Prop) (W : World) (hJd : ∀ pre V, J pre V → J pre V.drew)
    (hY : ∀ pre (x : Fin m) W, J pre W → pre.length < m → YieldAt F (n - 1) Tryz.prog l #[.slice (some ⟨b, off + 4 * x.val, none⟩) 4 4] W fun e W' =>
      (e = .returned (.bool true) ∧ J (pre ++ [x]) W' ∧ KeepEx n₀ bs W W') ∨ (e = .returned (.bool false) ∧ Jx (pre ++ [x]) W'))
    (hcs : W.cell? ⟨Bs, 0, none⟩ = some (.slice A (4 * m) c)) (hcn : W.cell? ⟨Bn, 0, none⟩ = some (.int .i64 4)) (hl : n₀ ≤ W.heap.size) (h0 : J [] W) :
    CallsIn F n Tryz.prog 189 #[.func (.yield l) #[] #[], .pointer (some ⟨Bs, 0, none⟩), .pointer (some ⟨Bn, 0, none⟩)] W fun e W' => (∃ v, e = .returned v) ∧
      ((∃ ys, ys = List.finRange m ∧ J ys W') ∨ (∃ pre, True ∧ Jx pre W')) := by
  refine callsIn_of_wp Tryz.func189 rfl h7 ?_ hro
  simp only [Tryz.ntmps189, List.size_toArray, List.length_cons, List.length_nil, Nat.reduceAdd, Nat.reduceSub, Array.replicate_succ, Array.replicate_zero, List.push_toArray, List.append_toArray, List.nil_append, List.cons_append]
  gi_wp2
  gi_loopw [4] (fun q wr => ∃ k : Nat, k ≤ m ∧ q = .int .i64 (4 * (k : Int)) ∧ J ((List.finRange m).take k) wr ∧ KeepEx n₀ bs W wr)
    (fun q _ => 4 * m - (intOf q).toNat)
  case atStart => exact ⟨0, Nat.zero_le _, rfl, by simpa using h0, KeepEx.refl _ _ _⟩
  case round =>
    obtain ⟨k, hk, rfl, hJs, hnx⟩ := hrel
    have hcs' := (hnx.cell (p := ⟨Bs, 0, none⟩) hBs xBs).trans hcs
    have hcn' := (hnx.cell (p := ⟨Bn, 0, none⟩) hBn xBn).trans hcn
    have hsz := hnx.size
    have lBs : Bs < wr.heap.size := by omega
    have lBn : Bn < wr.heap.size := by omega
    obtain ⟨N, hN⟩ : ∃ N, N = 4 * m := ⟨_, rfl⟩
    rw [← hN] at hcs'
    by_cases hlt : k < m
    · obtain rfl := hA (by omega)
      have d1 : 4 * (k : Int) < N := by omega
      have HJ := Lib.hid hJs
      have HNX := Lib.hid hnx
      have HN := Lib.hid hN
      have s1 : (0 : Int) ≤ 4 * k := by omega
      have s2 : 4 * (k : Int) ≤ N := by omega
      have s3 : (N : Int) ≤ c := by omega
      clear hJs hnx hN
      gi_wp2
      have e1 : (4 * (k : Int)).toNat = 4 * k := by omega
      have e2 : min (4 : Int) ((N - 4 * k : Nat) : Int) = 4 := by have := HN.out; omega
      have e3 : ¬ c = 4 * k := by have := HN.out; omega
      have hr := hY _ ⟨k, hlt⟩ wr.drew (hJd _ _ HJ.out) (by rw [List.length_take, List.length_finRange]; omega)
      have HT := Lib.hid (fin_take hlt)
      have HR := Lib.hid hr
      have hk2 : KeepEx n₀ bs W wr.drew := HNX.out.trans (KeepEx.of_below ((Below.refl wr.heap.size wr).drew.mono (by omega)))
      have HK2 := Lib.hid hk2
      have c1 : wr.drew.cell? ⟨Bs, 0, none⟩ = some (.slice (some ⟨b, off, none⟩) N c) := hcs'
      have c2 : wr.drew.cell? ⟨Bn, 0, none⟩ = some (.int .i64 4) := hcn'
      have l1 : Bs < wr.drew.heap.size := lBs
      have l2 : Bn < wr.drew.heap.size := lBn
      have HCN := Lib.hid hcn
      clear hr hk2
      gi_region
      all_goals
        clear e1 e2 e3 hcs' hcn' hcs hcn lBs lBn
        generalize wr.drew = wq at *
        obtain ⟨fn, tmps, assign, body, hy, hR⟩ := HR.out
        have m1 : IntKind.i64.wrap (4 * (k : Int) + 4) = 4 * k + 4 := by rw [IntKind.wrap_i64]; omega
        gi_wp2
        refine hR.mono ?_
        rintro e W3 (⟨rfl, hJ3, hk3⟩ | ⟨rfl, hJx3⟩)
        · have hk4 := HK2.out.trans hk3
          have c4 : W3.cell? ⟨Bn, 0, none⟩ = some (.int .i64 4) := (hk4.cell (p := ⟨Bn, 0, none⟩) hBn xBn).trans HCN.out
          have l4 : Bn < W3.heap.size := by have := hk4.size; omega
          have HK4 := Lib.hid hk4
          rw [← HT.out] at hJ3
          have HJ3 := Lib.hid hJ3
          clear hk3 hk4 hJ3 HK2 HR hR hy c1 c2
          gi_wp2
          go_roundw
          case rel => exact ⟨k + 1, by omega, congrArg (Value.int .i64) (by omega), HJ3.out, HK4.out⟩
          case measure => simp [intOf]; omega
        · clear HK2 HR hR hy
          gi_wp2
          refine bodyPost_ret (results_none rfl _ _ _) rfl ?_
          exact ⟨⟨_, rfl⟩, .inr ⟨_, trivial, hJx3⟩⟩
    · obtain rfl : k = m := by omega
      have d1 : ¬ 4 * (k : Int) < N := by omega
      rw [List.take_of_length_le (by simp)] at hJs
      have HJ := Lib.hid hJs
      clear hJs hN
      gi_wp2
      go_end0
      exact ⟨⟨_, rfl⟩, .inl HJ.out⟩

theorem chunk_stops (F : Fence) (n : Nat) (h7 : F.fn 189) (hro : F.round = none) (hn : 1 ≤ n) (Bs Bn n₀ : Nat) (A : Option Addr) (c m : Nat) (hm : m ≤ 1000) (hc : 4 * m ≤ c) (b off : Nat) (hA : 0 < m → A = some ⟨b, off, none⟩)
    (w : World) (bs : List Nat) (xBs : Bs ∉ bs) (xBn : Bn ∉ bs) (hBs : Bs < n₀) (hBn : Bn < n₀) (hn₀ : n₀ ≤ w.heap.size) (b0 : Blk w Bs 29 #[.slice A (4 * m) c]) (b1 : Blk w Bn 3 #[.int .i64 4]) :
    SeqStopsK F n Tryz.prog 189 #[.pointer (some ⟨Bs, 0, none⟩), .pointer (some ⟨Bn, 0, none⟩)] (fun x : Fin m => #[Value.slice (some ⟨b, off + 4 * x.val, none⟩) 4 4]) (KeepEx n₀ bs) (fun ys => ys = List.finRange m)
      (fun _ => True) m w := fun l J Jx W hW hJ _ hY h0 => by
  refine chunk1_in F n h7 hro hn l Bs Bn n₀ A c m hm hc b off hA bs hBs hBn xBs xBn J Jx W (fun pre V hJV => hJ pre V V.drew none hJV ⟨rfl, rfl, rfl, Nat.le_refl _, fun _ _ _ => rfl⟩ (fun r e => by cases e)) (fun pre x W h hl => hY pre x W h hl) ?_ ?_ (by have := hW.size; omega) h0
  · exact ((b0.belowAll hW).cells 0).trans rfl
  · exact ((b1.belowAll hW).cells 0).trans rfl
end Go.Proofs.YtjocnooekgnedaaGreatDoor
