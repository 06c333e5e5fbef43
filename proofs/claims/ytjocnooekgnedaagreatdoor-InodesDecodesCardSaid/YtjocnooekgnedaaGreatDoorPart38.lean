/- Layer 11: records.Encode at the form of inodes. -/
import Derived.Test.YtjocnooekgnedaaGreatDoorPart37
set_option linter.unusedVariables false
set_option linter.unusedSimpArgs false
namespace Go.Proofs.YtjocnooekgnedaaGreatDoor
open Go.RowKit Go.Maps

/-- An inode's bytes, value by value. -/
def encPs (v : Ino) : List (List Int) :=
  [[v.kind], [v.links], [v.size % 256, v.size / 256], [v.major], [v.minor], [v.parent], (v.blocks.length : Int) :: v.blocks.flatMap le4, (v.attrs.length : Int) :: v.attrs.flatMap le4]
def encP (v : Ino) (k : Nat) : List Int := ((encPs v).take k).flatten
theorem encP_8 (v : Ino) : encP v 8 = encI v := by
  show [v.kind] ++ ([v.links] ++ ([v.size % 256, v.size / 256] ++ ([v.major] ++ ([v.minor] ++ ([v.parent] ++ (((v.blocks.length : Int) :: v.blocks.flatMap le4) ++ (((v.attrs.length : Int) :: v.attrs.flatMap le4) ++ []))))))) = _
  unfold encI
  simp
def numAt (v : Ino) : Nat → Int
  | 0 => v.kind
  | 1 => v.links
  | 2 => v.size
  | 3 => v.major
  | 4 => v.minor
  | _ => v.parent
/-- The values of an inode's record, as they lie in memory. -/
abbrev rcN (n : Int) : List Value := [.int .u64 n, .string ⟨#[]⟩, .slice none 0 0]
abbrev rcL (s : Value) : List Value := [.int .u64 0, .string ⟨#[]⟩, s]
def rcAt (v : Ino) (s6 s7 : Value) (k : Nat) : List Value := if k < 6 then rcN (numAt v k) else rcL (if k = 6 then s6 else s7)
abbrev rcC (v : Ino) (s6 s7 : Value) : Array Value := (rcN v.kind ++ rcN v.links ++ rcN v.size ++ rcN v.major ++ rcN v.minor ++ rcN v.parent ++ rcL s6 ++ rcL s7).toArray
theorem rc_cells (v : Ino) (s6 s7 : Value) (k i : Nat) (hk : k < 8) (hi : i < 3) : (rcC v s6 s7)[k * 3 + i]? = (rcAt v s6 s7 k)[i]? := by
  have h1 : k = 0 ∨ k = 1 ∨ k = 2 ∨ k = 3 ∨ k = 4 ∨ k = 5 ∨ k = 6 ∨ k = 7 := by omega
  have h2 : i = 0 ∨ i = 1 ∨ i = 2 := by omega
  rcases h1 with rfl | rfl | rfl | rfl | rfl | rfl | rfl | rfl
  all_goals rcases h2 with rfl | rfl | rfl
  all_goals rfl
theorem frmV_cells (k i : Nat) (hk : k < 8) (hi : i < 4) : (frmV 8)[k * 4 + i]? = (kdAt (frmP k))[i]? := by
  have h1 : k = 0 ∨ k = 1 ∨ k = 2 ∨ k = 3 ∨ k = 4 ∨ k = 5 ∨ k = 6 ∨ k = 7 := by omega
  have h2 : i = 0 ∨ i = 1 ∨ i = 2 ∨ i = 3 := by omega
  rcases h1 with rfl | rfl | rfl | rfl | rfl | rfl | rfl | rfl
  all_goals rcases h2 with rfl | rfl | rfl | rfl
  all_goals rfl
/-- A number's place in the form. -/
theorem num_kd (v : Ino) (k : Nat) (hk : k < 6) (h1 : (0 ≤ v.kind ∧ v.kind ≤ 4) ∧ (0 ≤ v.links ∧ v.links ≤ 120) ∧ (0 ≤ v.size ∧ v.size ≤ 384) ∧ (0 ≤ v.major ∧ v.major ≤ 255) ∧ (0 ≤ v.minor ∧ v.minor ≤ 255) ∧ (0 ≤ v.parent ∧ v.parent ≤ 60)) :
    ∃ (c : Int) (m : Nat), kdAt (frmP k) = kdC c m 134 135 ∧ (m = 1 ∨ m = 2) ∧ (0 ≤ numAt v k ∧ numAt v k < 256 ^ m) ∧ encP v (k + 1) = encP v k ++ lowL (numAt v k) m := by
  obtain ⟨a, b, c, d, e, f⟩ := h1
  have hc : k = 0 ∨ k = 1 ∨ k = 2 ∨ k = 3 ∨ k = 4 ∨ k = 5 := by omega
  have hp : ∀ k m, (encPs v)[k]? = some (lowL (numAt v k) m) → encP v (k + 1) = encP v k ++ lowL (numAt v k) m := fun k m h => by
    unfold encP
    rw [List.take_add_one, h, List.flatten_append]; simp
  rcases hc with rfl | rfl | rfl | rfl | rfl | rfl
  · exact ⟨98, 1, rfl, .inl rfl, by simp [numAt]; omega, hp 0 1 (by simp [encPs, lowL, numAt]; omega)⟩
  · exact ⟨98, 1, rfl, .inl rfl, by simp [numAt]; omega, hp 1 1 (by simp [encPs, lowL, numAt]; omega)⟩
  · exact ⟨119, 2, rfl, .inr rfl, by simp [numAt]; omega, hp 2 2 (by simp [encPs, lowL, numAt]; omega)⟩
  · exact ⟨98, 1, rfl, .inl rfl, by simp [numAt]; omega, hp 3 1 (by simp [encPs, lowL, numAt]; omega)⟩
  · exact ⟨98, 1, rfl, .inl rfl, by simp [numAt]; omega, hp 4 1 (by simp [encPs, lowL, numAt]; omega)⟩
  · exact ⟨98, 1, rfl, .inl rfl, by simp [numAt]; omega, hp 5 1 (by simp [encPs, lowL, numAt]; omega)⟩

theorem list_kd (v : Ino) (k : Nat) (hk : ¬ k < 6) (hk8 : k < 8) (A : Option Addr) (c : Nat) (A2 : Option Addr) (c2 : Nat) (w : World) (hl : v.blocks.length ≤ 8 ∧ v.attrs.length ≤ 3) (hr : ∀ n ∈ v.all, 0 ≤ n ∧ n < 4294967296) (hA : Reads w A (v.blocks.map (.int .u32))) (hA2 : Reads w A2 (v.attrs.map (.int .u32))) :
    kdAt (frmP k) = kdC 108 0 140 141 ∧ ∃ (A' : Option Addr) (c' : Nat) (l : List Int), (if k = 6 then Value.slice A v.blocks.length c else .slice A2 v.attrs.length c2) = .slice A' l.length c' ∧ Reads w A' (l.map (.int .u32)) ∧ l.length ≤ 60 ∧ (∀ n ∈ l, 0 ≤ n ∧ n < 4294967296) ∧ encP v (k + 1) = encP v k ++ [(l.length : Int)] ++ l.flatMap le4 ∧ ((A' = A ∧ l = v.blocks) ∨ (A' = A2 ∧ l = v.attrs)) := by
  have hp : ∀ k x l, (encPs v)[k]? = some (x :: l) → encP v (k + 1) = encP v k ++ [x] ++ l := fun k x l h => by
    unfold encP
    rw [List.take_add_one, h, List.flatten_append]; simp
  have hc : k = 6 ∨ k = 7 := by omega
  rcases hc with rfl | rfl
  · exact ⟨rfl, A, c, v.blocks, rfl, hA, by omega, fun n hn => hr n (List.mem_append_left _ hn), hp 6 _ _ rfl, .inl ⟨rfl, rfl⟩⟩
  · exact ⟨rfl, A2, c2, v.attrs, rfl, hA2, by omega, fun n hn => hr n (List.mem_append_right _ hn), hp 7 _ _ rfl, .inr ⟨rfl, rfl⟩⟩
theorem encPs_len (v : Ino) (k : Nat) (hl : v.blocks.length ≤ 8 ∧ v.attrs.length ≤ 3) : (encP v k).length ≤ 60 := by
  have h : (encP v k).length ≤ (encP v 8).length := by
    unfold encP
    rw [show (encPs v).take 8 = encPs v from rfl]
    have := List.take_append_drop k (encPs v)
    conv => rhs; rw [← this, List.flatten_append, List.length_append]
    omega
  rw [encP_8, encI_length] at h
  omega
def RencPost (w : World) (v : Ino) (e : Ending) (w' : World) : Prop :=
  ∃ A c, e = .returned (.tuple #[.slice A (encI v).length c, .int .i64 0]) ∧ Below w.heap.size w w' ∧ Reads w' A ((encI v).map (.int .u8)) ∧ (encI v).length ≤ c
theorem own_cap {w : World} {base : Nat} {e : TypeId} {size n m c : Nat} {A : Option Addr} {xs : List Value} (h : w.ownsRow base e size (.slice A m c) n xs) : n ≤ c := by
  rcases h.2 with ⟨h1, rfl⟩ | ⟨g, cap, cur, h1, _, _, h2, _⟩
  · omega
  · injection h1 with _ _ h3; omega
set_option maxRecDepth 100000 in
set_option maxHeartbeats 4000000 in
theorem rencode_form (v : Ino) (hb : (0 ≤ v.kind ∧ v.kind ≤ 4) ∧ (0 ≤ v.links ∧ v.links ≤ 120) ∧ (0 ≤ v.size ∧ v.size ≤ 384) ∧ (0 ≤ v.major ∧ v.major ≤ 255) ∧ (0 ≤ v.minor ∧ v.minor ≤ 255) ∧ (0 ≤ v.parent ∧ v.parent ≤ 60))
    (hl : v.blocks.length ≤ 8 ∧ v.attrs.length ≤ 3) (hr : ∀ n ∈ v.all, 0 ≤ n ∧ n < 4294967296) (B : Nat) (A : Option Addr) (c : Nat) (A2 : Option Addr) (c2 : Nat) (w : World)
    (bB : Blk w B 79 (rcC v (.slice A v.blocks.length c) (.slice A2 v.attrs.length c2))) (hA : Reads w A (v.blocks.map (.int .u32))) (hA2 : Reads w A2 (v.attrs.map (.int .u32))) :
    Calls Tryz.prog 29 #[.string frm, .slice (some ⟨B, 0, none⟩) 8 8] w (RencPost w v) := by
  have hp := parse_form w
  have HB := Lib.hid hb
  have HL := Lib.hid hl
  have HR := Lib.hid hr
  have HA := Lib.hid hA
  have HA2 := Lib.hid hA2
  clear hb hl hr hA hA2
  go_enter Tryz.func29, Tryz.ntmps29
  go_wp2_with fail
  refine hp.mono ?_
  rintro e w1 ⟨kv, rfl, ho, hb1⟩
  obtain ⟨g, gc, rfl, hg1, hg2⟩ := own_form ho (by decide)
  obtain ⟨w2, hw2⟩ : ∃ w2, w1.alloc (.cells #[.slice none 0 0] 134) = w2 := ⟨_, rfl⟩
  obtain ⟨W0, hW0⟩ : ∃ W0, w1.heap.size = W0 := ⟨_, rfl⟩
  have bW : Blk w2 W0 134 #[.slice none 0 0] := by rw [← hw2, ← hW0]; exact Blk.new _ _ _
  have b12 : Below w1.heap.size w1 w2 := by rw [← hw2]; exact (Below.refl _ _).alloc (Nat.le_refl _) _
  have B2 := hb1.trans (b12.mono hb1.size)
  have hwr : WrAt w2 W0 (.slice none 0 0) [] := ⟨bW, World.ownsRow_nil _ _ _ _, by simp [Value.ownBlock]⟩
  have ho2 := own_below ho b12
  have hgW : g < W0 := by omega
  have hBW : B < W0 := by have := bB.lt; have := hb1.size; omega
  have bB2 := bB.belowAll B2
  have HW := Lib.hid hw2
  have HW0 := Lib.hid hW0
  have HO := Lib.hid ho2
  have hwl : W0 < w2.heap.size := bW.lt
  have hsz : w.heap.size ≤ W0 := by have := hb1.size; omega
  clear hp ho hw2 hW0 b12 bW ho2
  go_upto_region 7 with fail
  rw [HW.out, HW0.out]
  go_wp2_with fail
  go_loopw [29] (fun s29 wr => ∃ (k : Nat) (u : Value), k ≤ 8 ∧ s29 = .int .i64 k ∧ WrAt wr W0 u (encP v k) ∧ Grow w2 (wrF W0 (.slice none 0 0)) wr (wrF W0 u)) (fun s29 _ => 8 - (intOf s29).toNat)
  case atStart => exact ⟨0, _, Nat.zero_le _, rfl, hwr, Grow.refl _ _⟩
  case round =>
    obtain ⟨k, u, hk, rfl, hwk, hg⟩ := hrel
    by_cases hlt : k < 8
    · have hltI : (k : Int) < 8 := by omega
      have hlen := encPs_len v k HL.out
      have hgn : g ∉ wrF W0 (.slice none 0 0) := by unfold wrF; simp [Value.ownBlock]; omega
      have hBn : B ∉ wrF W0 (.slice none 0 0) := by unfold wrF; simp [Value.ownBlock]; omega
      have bBr := hg.blk bB2 hBn
      have hor : wr.ownsRow w.heap.size 138 4 (.slice (some ⟨g, 0, none⟩) 8 gc) 8 (frmV 8) := own_block HO.out (fun q e => by cases e; exact hg.keep.block g (by omega) hgn)
      have hgl : g < wr.heap.size := by have := hg.keep.size; omega
      have hkc : ∀ i u, (kdAt (frmP k))[i]? = some u → wr.cell? ⟨g, k * 4 + i, none⟩ = some u := fun i u hu => own_cell hor (by rw [frmV_cells k i hlt (by rw [← kdAt_len]; exact (List.getElem?_eq_some_iff.1 hu).1)]; exact hu)
      have hxc : ∀ W, Blk W B 79 (rcC v (.slice A v.blocks.length c) (.slice A2 v.attrs.length c2)) → ∀ i u, i < 3 → (rcAt v (.slice A v.blocks.length c) (.slice A2 v.attrs.length c2) k)[i]? = some u → W.cell? ⟨B, k * 3 + i, none⟩ = some u := fun W hb i u hi hu => by rw [hb.cells, rc_cells v _ _ k i hlt hi]; exact hu
      have hBn' : B ∉ wrF W0 u := hg.notin hBn (by omega)
      have HG := Lib.hid hg
      have HWK := Lib.hid hwk
      have HXC := Lib.hid hxc
      have HLN := Lib.hid hlen
      have hWl : W0 < wr.heap.size := hwk.blk.lt
      have hAn : ∀ (A' : Option Addr) (l : List Int), Reads w A' (l.map (.int .u32)) → ∀ a, A' = some a → 0 < l.length → a.block ∉ wrF W0 u := fun A' l hr a e h0 => by
        have hlt := hr.blk_lt (by rw [List.length_map]; exact h0) a e
        exact hg.notin (by unfold wrF; simp [Value.ownBlock]; omega) (by omega)
      have hRr : ∀ (A' : Option Addr) (l : List Int), Reads w A' (l.map (.int .u32)) → Reads wr A' (l.map (.int .u32)) := fun A' l hr => by
        rcases Nat.eq_zero_or_pos l.length with h0 | h0
        · rw [List.length_eq_zero_iff.1 h0]; exact .inl rfl
        · refine (hr.below B2).growF hg fun a e => ?_
          have hlt := hr.blk_lt (by rw [List.length_map]; exact h0) a e
          unfold wrF; simp [Value.ownBlock]; omega
      have HRR := Lib.hid hRr
      have HAN := Lib.hid hAn
      clear hRr hAn
      have HBr := Lib.hid bBr
      have hul : ∀ q, u.ownBlock = some q → q < wr.heap.size := fun q e => (own_lt hwk.own q e).2
      have HUL := Lib.hid hul
      clear hg hwk hxc hlen hor bBr hul
      by_cases hk6 : k < 6
      · skip
        obtain ⟨cc, m, hkd, hm, hn, hP⟩ := num_kd v k hk6 HB.out
        have hcall : ∀ W, Below wr.heap.size wr W → Calls Tryz.prog 134 #[.pointer (some ⟨W0, 0, none⟩), .agg (kdC cc m 134 135).toArray, .agg #[.int .u64 (numAt v k), .string ⟨#[]⟩, .slice none 0 0]] W (WrDid W W0 u (encP v (k + 1)) (.int .i64 0)) := fun W hb => by
          rw [hP]
          exact wnumber_any W0 u (encP v k) cc _ _ (numAt v k) m hm hn W (HWK.out.below hb) (by have := HLN.out; omega)
        have hx : rcAt v (.slice A v.blocks.length c) (.slice A2 v.attrs.length c2) k = [.int .u64 (numAt v k), .string ⟨#[]⟩, .slice none 0 0] := by unfold rcAt; rw [if_pos hk6]
        obtain ⟨M, hM⟩ : ∃ M : Int, M = m := ⟨_, rfl⟩
        obtain ⟨q0, hq0⟩ : ∃ q0 : Int, q0 = numAt v k := ⟨_, rfl⟩
        obtain ⟨sv, hsv⟩ : ∃ sv : Value, sv = .slice none 0 0 := ⟨_, rfl⟩
        rw [← hM, ← hq0, ← hsv] at hcall
        rw [← hq0, ← hsv] at hx
        rw [hkd, ← hM] at hkc
        clear hsv
        have c0 : wr.cell? ⟨g, k * 4, none⟩ = some (.int .u8 cc) := hkc 0 _ rfl
        have c1 : wr.cell? ⟨g, k * 4 + 1, none⟩ = some (.int .i64 M) := hkc 1 _ rfl
        have c2' : wr.cell? ⟨g, k * 4 + 2, none⟩ = some (.func (.func 134) #[] #[]) := hkc 2 _ rfl
        have c3 : wr.cell? ⟨g, k * 4 + 3, none⟩ = some (.func (.func 135) #[] #[]) := hkc 3 _ rfl
        have HXC2 : Hid (∀ W, Blk W B 79 (rcC v (.slice A v.blocks.length c) (.slice A2 v.attrs.length c2)) → W.cell? ⟨B, k * 3, none⟩ = some (.int .u64 q0) ∧ W.cell? ⟨B, k * 3 + 1, none⟩ = some (.string ⟨#[]⟩) ∧ W.cell? ⟨B, k * 3 + 2, none⟩ = some sv) := Lib.hid fun W hb =>
          ⟨HXC.out W hb 0 _ (by omega) (by rw [hx]; rfl), HXC.out W hb 1 _ (by omega) (by rw [hx]; rfl), HXC.out W hb 2 _ (by omega) (by rw [hx]; rfl)⟩
        have HC := Lib.hid hcall
        clear hkc hkd hM hq0 hx hcall
        go_upto_region 10 with fail
        obtain ⟨X, hX⟩ : ∃ X, wr.alloc (.cells #[.int .u8 cc, .int .i64 M, .func (.func 134) #[] #[], .func (.func 135) #[] #[]] 138) = X := ⟨_, rfl⟩
        obtain ⟨N, hN⟩ : ∃ N, wr.heap.size = N := ⟨_, rfl⟩
        have bN : Blk X N 138 #[.int .u8 cc, .int .i64 M, .func (.func 134) #[] #[], .func (.func 135) #[] #[]] := by rw [← hX, ← hN]; exact Blk.new _ _ _
        have bX : Below wr.heap.size wr X := by rw [← hX]; exact (Below.refl _ _).alloc (Nat.le_refl _) _
        rw [hX, hN]
        have hNF : N ∉ wrF W0 u := fun hm => by
          unfold wrF at hm
          rcases List.mem_cons.1 hm with e | e
          · omega
          · have := HUL.out N (by simpa using e); omega
        have HN := Lib.hid hN
        have hSN : ∀ W, Blk W N 138 #[.int .u8 cc, .int .i64 M, .func (.func 134) #[] #[], .func (.func 135) #[] #[]] → W.cell? ⟨N, 0, none⟩ = some (.int .u8 cc) ∧ W.cell? ⟨N, 1, none⟩ = some (.int .i64 M) ∧ W.cell? ⟨N, 2, none⟩ = some (.func (.func 134) #[] #[]) ∧ W.cell? ⟨N, 3, none⟩ = some (.func (.func 135) #[] #[]) := fun W b => ⟨(b.cells 0).trans rfl, (b.cells 1).trans rfl, (b.cells 2).trans rfl, (b.cells 3).trans rfl⟩
        have HSN := Lib.hid hSN
        clear hX hN hSN c0 c1 c2' c3
        obtain ⟨n0, n1, n2, n3⟩ := HSN.out X.drew bN.drew
        obtain ⟨x0, x1, x2⟩ := HXC2.out X.drew (HBr.out.belowAll bX).drew
        refine wp_region_mix [.take 0, .take 1, .take 2, .take 3, .take 4, .take 5, .take 6, .take 7, .one 8, .one 9] 9 (fun W => W.cell? ⟨N, 0, none⟩ = some (.int .u8 cc) ∧ W.cell? ⟨N, 1, none⟩ = some (.int .i64 M) ∧ W.cell? ⟨N, 2, none⟩ = some (.func (.func 134) #[] #[]) ∧ W.cell? ⟨N, 3, none⟩ = some (.func (.func 135) #[] #[]) ∧ W.cell? ⟨B, k * 3, none⟩ = some (.int .u64 q0) ∧ W.cell? ⟨B, k * 3 + 1, none⟩ = some (.string ⟨#[]⟩) ∧ W.cell? ⟨B, k * 3 + 2, none⟩ = some sv) (by kernel_rfl) (by kernel_rfl) (fun _ _ _ _ _ h => h) ⟨n0, n1, n2, n3, x0, x1, x2⟩ ?_
        simp only [List.map_cons, List.map_nil, Ms.fill, List.getD_cons_zero, List.getD_cons_succ]
        iterate 8 (refine mixT_take (by rfl) ?_ (fun w' hw' => ?_) ?_; rotate_left; (focus (go_simp; (try with_reducible rfl))); (try simp only [Act.put, List.setIfInBounds_toArray, List.set_cons_zero, List.set_cons_succ]))
        clear n0 n1 n2 n3 x0 x1 x2
        refine mixT_step (by rfl) fun K hK => ?_
        go_simp
        refine (HC.out X.drew bX.drew).mono ?_
        rintro e w5 ⟨rfl, u5, hw5, hg5⟩
        obtain ⟨n0, n1, n2, n3⟩ := HSN.out w5 (hg5.blk bN.drew hNF)
        obtain ⟨x0, x1, x2⟩ := HXC2.out w5 (hg5.blk (HBr.out.belowAll bX).drew hBn')
        refine hK _ _ (fun _ => ⟨n0, n1, n2, n3, x0, x1, x2⟩) ?_
        clear hK K n0 n1 n2 n3 x0 x1 x2
        have hg6 := (HG.out.trans (Grow.of_below bX.drew _)).trans hg5
        refine mixT_step (by rfl) fun K hK => ?_
        go_simp
        refine hK _ _ (fun h => absurd h (by decide)) ?_
        clear hK K
        refine mixT_nil ?_
        clear HC HSN HXC2 hg5 bX bN
        go_wp2_with fail
        go_roundw
        case rel => exact ⟨k + 1, u5, by omega, by go_num, hw5, hg6⟩
        case measure => simp [intOf]; omega
      · skip
        obtain ⟨hkd, A', c', l, hs, hRl, hl60, hlr, hP, hor⟩ := list_kd v k hk6 hlt A c A2 c2 wr HL.out HR.out (HRR.out _ _ HA.out) (HRR.out _ _ HA2.out)
        have hAF : ∀ a, A' = some a → 0 < l.length → a.block ∉ wrF W0 u := by
          rcases hor with ⟨rfl, rfl⟩ | ⟨rfl, rfl⟩
          · exact HAN.out _ _ HA.out
          · exact HAN.out _ _ HA2.out
        have hcall : ∀ W, Below wr.heap.size wr W → Calls Tryz.prog 140 #[.pointer (some ⟨W0, 0, none⟩), .agg (kdC 108 0 140 141).toArray, .agg #[.int .u64 0, .string ⟨#[]⟩, .slice A' l.length c']] W (WrDid W W0 u (encP v (k + 1)) (.int .i64 0)) := fun W hb => by
          rw [hP]
          exact wlist_any W0 u (encP v k) 108 0 _ _ A' c' l hl60 hlr W (HWK.out.below hb) (by have := HLN.out; omega) (hRl.below hb) hAF
        have hx : rcAt v (.slice A v.blocks.length c) (.slice A2 v.attrs.length c2) k = [.int .u64 0, .string ⟨#[]⟩, .slice A' l.length c'] := by unfold rcAt; rw [if_neg hk6, hs]
        obtain ⟨cc, hcc⟩ : ∃ cc : Int, cc = 108 := ⟨_, rfl⟩
        obtain ⟨M, hM⟩ : ∃ M : Int, M = 0 := ⟨_, rfl⟩
        obtain ⟨q0, hq0⟩ : ∃ q0 : Int, q0 = 0 := ⟨_, rfl⟩
        obtain ⟨sv, hsv⟩ : ∃ sv : Value, sv = .slice A' l.length c' := ⟨_, rfl⟩
        have hcall2 : ∀ W, Below wr.heap.size wr W → Calls Tryz.prog 140 #[.pointer (some ⟨W0, 0, none⟩), .agg (kdC cc M 140 141).toArray, .agg #[.int .u64 q0, .string ⟨#[]⟩, sv]] W (WrDid W W0 u (encP v (k + 1)) (.int .i64 0)) := by rw [hcc, hM, hq0, hsv]; exact hcall
        have hx2 : rcAt v (.slice A v.blocks.length c) (.slice A2 v.attrs.length c2) k = [.int .u64 q0, .string ⟨#[]⟩, sv] := by rw [hq0, hsv]; exact hx
        have hkc2 : ∀ i u, (kdC cc M 140 141)[i]? = some u → wr.cell? ⟨g, k * 4 + i, none⟩ = some u := by rw [hcc, hM, ← hkd]; exact hkc
        clear hcall hx hkc hsv hs hRl hl60 hlr hP hor hAF
        have hcall := hcall2
        have hx := hx2
        have hkc := hkc2
        clear hcall2 hx2 hkc2 hcc
        have c0 : wr.cell? ⟨g, k * 4, none⟩ = some (.int .u8 cc) := hkc 0 _ rfl
        have c1 : wr.cell? ⟨g, k * 4 + 1, none⟩ = some (.int .i64 M) := hkc 1 _ rfl
        have c2' : wr.cell? ⟨g, k * 4 + 2, none⟩ = some (.func (.func 140) #[] #[]) := hkc 2 _ rfl
        have c3 : wr.cell? ⟨g, k * 4 + 3, none⟩ = some (.func (.func 141) #[] #[]) := hkc 3 _ rfl
        have HXC2 : Hid (∀ W, Blk W B 79 (rcC v (.slice A v.blocks.length c) (.slice A2 v.attrs.length c2)) → W.cell? ⟨B, k * 3, none⟩ = some (.int .u64 q0) ∧ W.cell? ⟨B, k * 3 + 1, none⟩ = some (.string ⟨#[]⟩) ∧ W.cell? ⟨B, k * 3 + 2, none⟩ = some sv) := Lib.hid fun W hb =>
          ⟨HXC.out W hb 0 _ (by omega) (by rw [hx]; rfl), HXC.out W hb 1 _ (by omega) (by rw [hx]; rfl), HXC.out W hb 2 _ (by omega) (by rw [hx]; rfl)⟩
        have HC := Lib.hid hcall
        clear hkc hkd hM hq0 hx hcall
        go_upto_region 10 with fail
        obtain ⟨X, hX⟩ : ∃ X, wr.alloc (.cells #[.int .u8 cc, .int .i64 M, .func (.func 140) #[] #[], .func (.func 141) #[] #[]] 138) = X := ⟨_, rfl⟩
        obtain ⟨N, hN⟩ : ∃ N, wr.heap.size = N := ⟨_, rfl⟩
        have bN : Blk X N 138 #[.int .u8 cc, .int .i64 M, .func (.func 140) #[] #[], .func (.func 141) #[] #[]] := by rw [← hX, ← hN]; exact Blk.new _ _ _
        have bX : Below wr.heap.size wr X := by rw [← hX]; exact (Below.refl _ _).alloc (Nat.le_refl _) _
        rw [hX, hN]
        have hNF : N ∉ wrF W0 u := fun hm => by
          unfold wrF at hm
          rcases List.mem_cons.1 hm with e | e
          · omega
          · have := HUL.out N (by simpa using e); omega
        have HN := Lib.hid hN
        have hSN : ∀ W, Blk W N 138 #[.int .u8 cc, .int .i64 M, .func (.func 140) #[] #[], .func (.func 141) #[] #[]] → W.cell? ⟨N, 0, none⟩ = some (.int .u8 cc) ∧ W.cell? ⟨N, 1, none⟩ = some (.int .i64 M) ∧ W.cell? ⟨N, 2, none⟩ = some (.func (.func 140) #[] #[]) ∧ W.cell? ⟨N, 3, none⟩ = some (.func (.func 141) #[] #[]) := fun W b => ⟨(b.cells 0).trans rfl, (b.cells 1).trans rfl, (b.cells 2).trans rfl, (b.cells 3).trans rfl⟩
        have HSN := Lib.hid hSN
        clear hX hN hSN c0 c1 c2' c3
        obtain ⟨n0, n1, n2, n3⟩ := HSN.out X.drew bN.drew
        obtain ⟨x0, x1, x2⟩ := HXC2.out X.drew (HBr.out.belowAll bX).drew
        refine wp_region_mix [.take 0, .take 1, .take 2, .take 3, .take 4, .take 5, .take 6, .take 7, .one 8, .one 9] 9 (fun W => W.cell? ⟨N, 0, none⟩ = some (.int .u8 cc) ∧ W.cell? ⟨N, 1, none⟩ = some (.int .i64 M) ∧ W.cell? ⟨N, 2, none⟩ = some (.func (.func 140) #[] #[]) ∧ W.cell? ⟨N, 3, none⟩ = some (.func (.func 141) #[] #[]) ∧ W.cell? ⟨B, k * 3, none⟩ = some (.int .u64 q0) ∧ W.cell? ⟨B, k * 3 + 1, none⟩ = some (.string ⟨#[]⟩) ∧ W.cell? ⟨B, k * 3 + 2, none⟩ = some sv) (by kernel_rfl) (by kernel_rfl) (fun _ _ _ _ _ h => h) ⟨n0, n1, n2, n3, x0, x1, x2⟩ ?_
        simp only [List.map_cons, List.map_nil, Ms.fill, List.getD_cons_zero, List.getD_cons_succ]
        iterate 8 (refine mixT_take (by rfl) ?_ (fun w' hw' => ?_) ?_; rotate_left; (focus (go_simp; (try with_reducible rfl))); (try simp only [Act.put, List.setIfInBounds_toArray, List.set_cons_zero, List.set_cons_succ]))
        clear n0 n1 n2 n3 x0 x1 x2
        refine mixT_step (by rfl) fun K hK => ?_
        go_simp
        refine (HC.out X.drew bX.drew).mono ?_
        rintro e w5 ⟨rfl, u5, hw5, hg5⟩
        obtain ⟨n0, n1, n2, n3⟩ := HSN.out w5 (hg5.blk bN.drew hNF)
        obtain ⟨x0, x1, x2⟩ := HXC2.out w5 (hg5.blk (HBr.out.belowAll bX).drew hBn')
        refine hK _ _ (fun _ => ⟨n0, n1, n2, n3, x0, x1, x2⟩) ?_
        clear hK K n0 n1 n2 n3 x0 x1 x2
        have hg6 := (HG.out.trans (Grow.of_below bX.drew _)).trans hg5
        refine mixT_step (by rfl) fun K hK => ?_
        go_simp
        refine hK _ _ (fun h => absurd h (by decide)) ?_
        clear hK K
        refine mixT_nil ?_
        clear HC HSN HXC2 hg5 bX bN
        go_wp2_with fail
        go_roundw
        case rel => exact ⟨k + 1, u5, by omega, by go_num, hw5, hg6⟩
        case measure => simp [intOf]; omega
    · obtain rfl : k = 8 := by omega
      rw [encP_8] at hwk
      have hlen := encPs_len v 8 HL.out
      rw [encP_8] at hlen
      obtain ⟨ua, uc, rfl⟩ := own_slice hwk.own
      have cW : wr.cell? ⟨W0, 0, none⟩ = some (.slice ua (encI v).length uc) := (hwk.blk.cells 0).trans rfl
      have lW := hwk.blk.lt
      have hrd := Reads.of_own hwk.own
      have hcp := own_cap hwk.own
      have hbw : Below w.heap.size w wr := B2.trans (hg.below (by omega) (fun b hb => by unfold wrF at hb; simp [Value.ownBlock] at hb; omega))
      have d4 : ¬ (4000 : Int) < (encI v).length := by omega
      clear hwk hg
      go_wp2_with fail
      go_ret2
      exact ⟨ua, uc, rfl, hbw, hrd, hcp⟩
end Go.Proofs.YtjocnooekgnedaaGreatDoor
