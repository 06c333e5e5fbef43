/- Parts of the proof, put together by program: TP, TQ, TS. -/
import Derived.Test.YtfgfdjaiamaelaaGreatDoorPart44
import Derived.Test.YtfgfdjaiamaelaaGreatDoorPart23
import Derived.BigQuiet
import Derived.Test.YtfgfdjaiamaelaaGreatDoorPart42
/- The laws of layer 10: TxnBlocks: what is known between two calls. -/
namespace Go.Proofs.YtfgfdjaiamaelaaGreatDoor
open Go.RowKit Go.Maps

/-- Cells of a call that came in, in every later world. -/
theorem steps_cells {w : World} {b off : Nat} {xs : List StepV} (hR : Reads w (some ⟨b, off, none⟩) (xs.flatMap stepL)) {k : Nat} (hk : k < xs.length) :
    ∀ W, Below w.heap.size w W → b < W.heap.size ∧ W.cell? ⟨b, off + k * 6, none⟩ = some (.int .u8 xs[k].wh) ∧ W.cell? ⟨b, off + k * 6 + 1, none⟩ = some (.int .i64 xs[k].at_) ∧ W.cell? ⟨b, off + k * 6 + 3, none⟩ = some (.int .i64 xs[k].n) ∧
      W.cell? ⟨b, off + k * 6 + 5, none⟩ = some (.slice xs[k].A xs[k].l.length xs[k].c) := by
  intro W hb
  obtain ⟨b', off', e, h1, h2, h3, h4, h5, h6, h7⟩ := steps_at (hR.below hb) hk
  cases e
  exact ⟨h1, h2, h3, h5, h7⟩

/-- A state of the blocks in a box, and its bits in a block that the transaction does not touch. -/
structure StAt (w : World) (F : List Nat) (S : Nat) (A : Option Addr) (c : Nat) (us : List Bool) : Prop where
  box : Blk w S 69 #[.int .i64 64, .int .i64 8, .int .i64 40, .slice A 14 c]
  rd : Reads w A (us.map .bool)
  len : us.length = 14
  nb : S ∉ F
  na : ∀ a, A = some a → a.block ∉ F ∧ a.block < w.heap.size
section
variable {w w' w0 : World} {F F' : List Nat} {S S' : Nat} {A A' : Option Addr} {c c' : Nat} {us us' : List Bool}
theorem StAt.grow (h : StAt w F S A c us) (g : Grow w F w' F') : StAt w' F' S A c us :=
  ⟨g.blk h.box h.nb, h.rd.growF g fun a e => (h.na a e).1, h.len, g.notin h.nb h.box.lt, fun a e => ⟨g.notin (h.na a e).1 (h.na a e).2, Nat.lt_of_lt_of_le (h.na a e).2 g.keep.size⟩⟩
theorem StAt.below (h : StAt w F S A c us) (hb : Below w.heap.size w w') : StAt w' F S A c us := h.grow (Grow.of_below hb F)
/-- A bit. -/
theorem StAt.bit (h : StAt w F S A c us) {m : Nat} (hm : m < 14) : ∃ b off, A = some ⟨b, off, none⟩ ∧ b < w.heap.size ∧ w.cell? ⟨b, off + m, none⟩ = some (.bool (us.getD m false)) := by
  have hl := h.len
  obtain ⟨b, off, h1, h2, h3⟩ := h.rd.at_ (k := m) (by rw [List.length_map]; omega)
  refine ⟨b, off, h1, h2, ?_⟩
  rw [h3, List.getElem_map, List.getD_eq_getElem?_getD, List.getElem?_eq_getElem (by omega)]
  rfl
/-- It was just made. -/
theorem StAt.made {n0 : Nat} (ho : w.ownsRow n0 4 1 (.slice A 14 c) 14 (us.map .bool)) (hF : ∀ b ∈ F, b < n0) (hn : n0 ≤ w.heap.size) (hw : w' = w.alloc (.cells #[.int .i64 64, .int .i64 8, .int .i64 40, .slice A 14 c] 69)) : StAt w' F w.heap.size A c us := by
  have b2 : Below w.heap.size w w' := by rw [hw]; exact (Below.refl _ _).alloc (Nat.le_refl _) _
  have hlen : us.length = 14 := by have := ho.1; simpa using this
  refine ⟨by rw [hw]; exact Blk.new _ _ _, (Reads.of_own ho).below b2, hlen, fun hm => by have := hF _ hm; omega, fun a e => ?_⟩
  subst e
  have h1 := own_lt ho a.block rfl
  exact ⟨fun hm => by have := hF _ hm; omega, Nat.lt_of_lt_of_le h1.2 b2.size⟩
/-- Another box is written. -/
theorem StAt.row (h : StAt w F S A c us) {g : Nat} (hg : g ≠ S) (ha : ∀ a, A = some a → a.block ≠ g) (cs : Array Value) : StAt (w.setRow g cs) F S A c us :=
  ⟨(setRow_other _ _ _ _ (Ne.symm hg)).trans h.box, by
    rcases h.rd with h0 | ⟨b, off, e, hl, hc⟩
    · exact .inl h0
    · exact .inr ⟨b, off, e, by simpa using hl, fun j u hu => (World.cell?_of_block (w := w) (a := ⟨b, off + j, none⟩) (setRow_other _ _ _ _ (show b ≠ g from ha _ e))).trans (hc j u hu)⟩,
   h.len, h.nb, fun a e => ⟨(h.na a e).1, by simpa using (h.na a e).2⟩⟩
/-- Its box is written with another state. -/
theorem StAt.put {cs : Array Value} {t : TypeId} (b : Blk w S t cs) (ht : t = 69) (hS : S ∉ F) (rd : Reads w A (us.map .bool)) (len : us.length = 14) (na : ∀ a, A = some a → a.block ∉ F ∧ a.block < w.heap.size) (hne : ∀ a, A = some a → a.block ≠ S) :
    StAt (w.setRow S #[.int .i64 64, .int .i64 8, .int .i64 40, .slice A 14 c]) F S A c us := by
  subst ht
  refine ⟨b.setRow, ?_, len, hS, fun a e => ⟨(na a e).1, by simpa using (na a e).2⟩⟩
  rcases rd with h0 | ⟨b', off, e, hl, hc⟩
  · exact .inl h0
  · exact .inr ⟨b', off, e, by simpa using hl, fun j u hu => (World.cell?_of_block (w := w) (a := ⟨b', off + j, none⟩) (setRow_other _ _ _ _ (show b' ≠ S from hne _ e))).trans (hc j u hu)⟩
end
theorem Play.rowB {w0 w : World} {T : Nat} {F : List Nat} {D : Nat} {y : TxS} {B : List Nat} {x : DevS} (h : Play w0 w T F D y B x) {g : Nat} (hp : g ∉ F ++ B) (h00 : 0 < w0.heap.size) (h0 : w0.heap.size ≤ g) (cs : Array Value) : Play w0 (w.setRow g cs) T F D y B x :=
  ⟨h.td.keep (fun b hb => setRow_other w g b cs (fun e => by
    subst e
    rcases hb with hb | hb | hb
    · exact hp (List.mem_append_left _ hb)
    · exact hp (List.mem_append_right _ hb)
    · omega)) (by simp), Below.setRow h.bl h0 _, h.fl, h.bb⟩

/-- What is known of the transaction. -/
structure GoodTx (y : TxS) (us : List Bool) : Prop where
  clean : y.Clean
  like : (begTx 64 8 40 us).Like y
  nc : y.changed = false → y.now = us
theorem GoodTx.begun (us : List Bool) : GoodTx (begTx 64 8 40 us) us := ⟨begTx_clean (by decide) us, .refl _, fun _ => rfl⟩
theorem change_nc {y : TxS} {us vs : List Bool} {n : Nat} (h : y.changed = false → y.now = us) : (y.change vs n).changed = false → (y.change vs n).now = us := by
  unfold TxS.change
  split
  · exact h
  · split
    · exact h
    · intro e; cases e
theorem GoodTx.take {y : TxS} {us : List Bool} (h : GoodTx y us) (a n : Int) : GoodTx (y.take a n).2 us := by
  refine ⟨h.clean.take a n, h.like.trans (take_like y a n), ?_⟩
  unfold TxS.take
  split
  · exact h.nc
  · split
    · exact h.nc
    · exact change_nc h.nc
theorem GoodTx.free {y : TxS} {us : List Bool} (h : GoodTx y us) (l : List Int) : GoodTx (y.free l).2 us := by
  refine ⟨h.clean.free l, h.like.trans (free_like y l), ?_⟩
  unfold TxS.free
  split
  · exact h.nc
  · split
    · exact h.nc
    · exact change_nc h.nc
theorem change_state (y : TxS) (vs : List Bool) (n : Nat) : (y.change vs n).stateE = y.stateE := by
  unfold TxS.change
  split
  · rfl
  · split <;> rfl
theorem take_state {y : TxS} {a n : Int} (h : (y.take a n).1 = 0) : (y.take a n).2.stateE = 0 := by
  unfold TxS.take at h ⊢
  by_cases h1 : y.stateE ≠ 0
  · rw [if_pos h1] at h; exact absurd h h1
  · rw [if_neg h1] at h ⊢
    by_cases h2 : y.takeE a n ≠ 0
    · rw [if_pos h2] at h; exact absurd h h2
    · rw [if_neg h2]
      show (y.change _ _).stateE = 0
      rw [change_state]; simpa using h1
theorem take_broken {y : TxS} {a n : Int} (hs : y.stateE = 0) (h : (y.take a n).1 ≠ 0) : (y.take a n).2.stateE = 9 := by
  unfold TxS.take at h ⊢
  rw [if_neg (by simpa using hs)] at h ⊢
  by_cases h2 : y.takeE a n ≠ 0
  · rw [if_pos h2]
    show (if (true || y.ended) = true then (9 : Int) else 0) = 9
    simp
  · rw [if_neg h2] at h; exact absurd rfl h
theorem free_state {y : TxS} {l : List Int} (h : (y.free l).1 = 0) : (y.free l).2.stateE = 0 := by
  unfold TxS.free at h ⊢
  by_cases h1 : y.stateE ≠ 0
  · rw [if_pos h1] at h; exact absurd h h1
  · rw [if_neg h1] at h ⊢
    by_cases h2 : y.freeE l ≠ 0
    · rw [if_pos h2] at h; exact absurd h h2
    · rw [if_neg h2]
      show (y.change _ _).stateE = 0
      rw [change_state]; simpa using h1
theorem bad9 {y : TxS} (h : y.stateE ≠ 0) : y.stateE = 9 := (stateE_vals y).resolve_left h
theorem good_now {w : World} {T : Nat} {F : List Nat} {D : Nat} {y : TxS} {us : List Bool} (h : TxAt w T F D y) (g : GoodTx y us) : y.now.length = 14 := by
  rw [h.ok.now, show y.s = 64 from g.like.s, show y.j = 8 from g.like.j, show y.i = 40 from g.like.i, rgB64]
theorem good_was {w : World} {T : Nat} {F : List Nat} {D : Nat} {y : TxS} {us : List Bool} (h : TxAt w T F D y) (g : GoodTx y us) : us.length = 14 := by
  have := h.ok.was
  rw [show y.was = us from g.like.was, show y.s = 64 from g.like.s, show y.j = 8 from g.like.j, show y.i = 40 from g.like.i, rgB64] at this
  exact this
/-- Blocks of one that is good. -/
theorem play_blocks {w0 w : World} {T : Nat} {F : List Nat} {D : Nat} {y : TxS} {B : List Nat} {x : DevS} {us : List Bool} (h : Play w0 w T F D y B x) (g : GoodTx y us) (hE : y.stateE = 0) :
    Calls Tryz.prog 26 #[.pointer (some ⟨T, 0, none⟩)] w fun e w' => ∃ A c, e = .returned (.tuple #[.agg #[.int .i64 64, .int .i64 8, .int .i64 40, .slice A 14 c], .int .i64 0]) ∧ w'.ownsRow w.heap.size 4 1 (.slice A 14 c) 14 (y.now.map .bool) ∧ Below w.heap.size w w' := by
  have hn := good_now h.td.tx g
  refine (blocks_tx T F D y w h.td.tx hE).mono ?_
  rintro e w' ⟨v, he, ho, hb⟩
  rw [hn] at ho
  rw [show y.s = 64 from g.like.s, show y.j = 8 from g.like.j, show y.i = 40 from g.like.i] at he
  obtain ⟨A, c, rfl⟩ := own_slice ho
  exact ⟨A, c, he, ho, hb⟩
end Go.Proofs.YtfgfdjaiamaelaaGreatDoor
/- P10.10: TxnBlocks, walked. -/
namespace Go.Proofs.YtfgfdjaiamaelaaGreatDoor
open Go.RowKit Go.Maps

theorem getD_flip {l : List Bool} {b : Nat} (h : b < l.length) {v : Bool} (hv : l.getD b true = v) : l.getD b false = v := by
  rw [List.getD_eq_getElem?_getD, List.getElem?_eq_getElem h] at hv ⊢
  exact hv

set_option maxRecDepth 100000 in
set_option maxHeartbeats 16000000 in
theorem txnBlocks_any (A : Option Addr) (c : Nat) (xs : List StepV) (hl : xs.length ≤ maxLen) (w : World) (hok : ∀ a ∈ xs, StepOk w a) (hH : HalfAt w) (hR : Reads w A (xs.flatMap stepL)) :
    Calls Tryz.prog 6 #[.slice A xs.length c] w fun e w' => e = .returned (.bool true) ∧ Below w.heap.size w w' := by
  have hbg := begun10_any w hH
  have hp0 := hH.1
  have HH := Lib.hid hH
  have HOK := Lib.hid hok
  have HR := Lib.hid hR
  have hs : ∀ a ∈ xs, a.s.size ≤ maxLen ∧ a.l.length ≤ maxLen := fun a ha => ⟨(hok a ha).str, Nat.le_trans (hok a ha).cap.1 (hok a ha).cap.2⟩
  have HS := Lib.hid hs
  have HL := Lib.hid hl
  unfold maxLen at hl
  clear hH hok hR hs
  go_enter Tryz.func6, Tryz.ntmps6
  go_wp2_with fail
  refine hbg.mono ?_
  rintro e w1 ⟨D, T, F1, B, x, rfl, hF, -, h1⟩
  have hL := hF.live
  rw [rgB64] at hL
  have f1 := long_any A c xs HL.out HS.out w1 (h1.reads HR.out)
  clear hbg hF
  go_wp2_with fail
  refine f1.mono ?_
  rintro e w2 ⟨rfl, hb2⟩
  have h2 := h1.below hb2
  clear f1 h1 hb2
  by_cases hlong : longB xs = true
  · rw [hlong]
    have B2 := h2.bl
    have haw := awake10_any w2 (HH.out.below B2 hp0)
    clear h2
    go_wp2_with fail
    refine haw.mono ?_
    rintro e w3 ⟨rfl, hb3⟩
    go_wp2_with fail
    go_ret
    exact ⟨rfl, B2.trans (hb3.mono B2.size)⟩
  have hlong' : longB xs = false := by simpa using hlong
  rw [hlong']
  have hbb : (∀ a ∈ xs, bigB a = false) ∧ xs.length ≤ 40 := by
    unfold longB at hlong'
    simp only [Bool.or_eq_false_iff, decide_eq_false_iff_not] at hlong'
    refine ⟨fun a ha => ?_, by omega⟩
    have := List.any_eq_false.1 hlong'.1 a ha
    simpa using this
  have HB := Lib.hid hbb
  clear hlong hlong' hbb
  have fb := play_blocks h2 (GoodTx.begun (List.replicate 14 false)) rfl
  go_wp2_with fail
  refine fb.mono ?_
  rintro e w3 ⟨A3, c3, rfl, o3, hb3⟩
  obtain ⟨w4, hw4⟩ : ∃ w4, w4 = w3.alloc (.cells #[.int .i64 64, .int .i64 8, .int .i64 40, .slice A3 14 c3] 69) := ⟨_, rfl⟩
  have s4 := StAt.made (F := F1 ++ B) o3 h2.devlt hb3.size hw4
  have h4 : Play w w4 T F1 D (begTx 64 8 40 (List.replicate 14 false)) B x := h2.below (by rw [hw4]; exact hb3.alloc hb3.size _)
  obtain ⟨WB, hWBe⟩ : ∃ WB, WB = w3.heap.size := ⟨_, rfl⟩
  have hWB : w.heap.size ≤ WB := by rw [hWBe]; exact Nat.le_trans h2.size hb3.size
  rw [← hWBe] at s4
  have HW := Lib.hid hw4
  have HWB := Lib.hid hWBe
  have cW := s4.box.cells
  have lW := s4.box.lt
  clear fb o3 hb3 h2 hw4 hWBe
  go_wp2_with fail
  rw [← HW.out, ← HWB.out]
  clear HW HWB
  go_wp2_with fail
  clear cW lW
  go_loopw [4, 7] (fun q4 q7 wr => ∃ (k T : Nat) (F : List Nat) (y : TxS) (us : List Bool) (B : List Nat) (x : DevS) (A5 : Option Addr) (c5 : Nat), k ≤ xs.length ∧ q4 = .pointer (some ⟨T, 0, none⟩) ∧ q7 = .int .i64 k ∧ Play w wr T F D y B x ∧ GoodTx y us ∧ Live x 64 8 40 us (1000 * (41 - k)) ∧ StAt wr (F ++ B) WB A5 c5 us) (fun _ q _ => xs.length - (intOf q).toNat)
  case atStart => exact ⟨0, T, F1, _, List.replicate 14 false, B, x, A3, c3, Nat.zero_le _, rfl, rfl, h4, GoodTx.begun _, hL.mono (by omega), s4⟩
  case round =>
    obtain ⟨k, T, F, y, us, B, x, A5, c5, hk, rfl, rfl, hp, hg, hlv, s5⟩ := hrel
    clear h4 s4 hL
    by_cases hlt : k < xs.length
    · have hget := steps_at (hp.reads HR.out) hlt
      obtain ⟨ab, ao, rfl, -⟩ := hget
      have hce := steps_cells HR.out hlt
      have hm := List.getElem_mem hlt
      have hoka := HOK.out _ hm
      have hbig := HB.out.1 _ hm
      have hk40 : k < 40 := by have := HB.out.2; omega
      generalize xs[k] = st at *
      obtain ⟨wh, at_, kd, n, sd, LA, l, lc⟩ := st
      simp only at hce
      have HCE := Lib.hid hce
      have hwh : 0 ≤ wh ∧ wh ≤ 255 := hoka.wh
      have hl300 : l.length ≤ 1000 := by unfold bigB at hbig; simp at hbig; omega
      have hlr : Reads w LA (l.map (.int .i64)) := hoka.list
      have hlcb : l.length ≤ 9223372036854775807 := by omega
      have hn63 : n ≤ 9223372036854775807 := hoka.n.2
      clear hce hm hoka hbig
      by_cases hs : y.stateE = 0
      · have fb := play_blocks hp hg hs
        have hnow := good_now hp.td.tx hg
        have hwas : y.was = us := hg.like.was
        go_wp2_with fail
        refine fb.mono ?_
        rintro e w5 ⟨A8, c8, rfl, o8, hb5⟩
        obtain ⟨w6, hw6⟩ : ∃ w6, w6 = w5.alloc (.cells #[.int .i64 64, .int .i64 8, .int .i64 40, .slice A8 14 c8] 69) := ⟨_, rfl⟩
        have s8 := StAt.made (F := F ++ B) o8 hp.devlt hb5.size hw6
        have b6 : Below wr.heap.size wr w6 := by rw [hw6]; exact hb5.alloc hb5.size _
        have hJ := hp.below b6
        replace s5 := s5.below b6
        obtain ⟨W8, hW8⟩ : ∃ W8, W8 = w5.heap.size := ⟨_, rfl⟩
        rw [← hW8] at s8
        have hWr := hw6.symm
        have hW8r := hW8.symm
        have cb8 := s8.box.cells
        have lb8 := s8.box.lt
        clear fb o8 hb5 hp hw6 hW8 b6
        have hcJ := HCE.out _ hJ.bl
        have hsteps : wh % 9 = 4 ∨ wh % 9 = 5 ∨ wh % 9 = 7 ∨ (wh % 9 ≠ 4 ∧ wh % 9 ≠ 5 ∧ wh % 9 ≠ 7) := by omega
        rcases hsteps with hr | hr | hr | hr
        · as_aux_lemma =>
          have g1 : wh.tmod 9 = 4 := by rw [← hr]; exact Int.tmod_eq_emod_of_nonneg hwh.1
          obtain ⟨e0, e1, e2, e3, e4⟩ := hcJ
          go_wp2_with fail
          clear cb8 lb8 hWr hW8r
          have q1 := hJ.drewN 1
          have t5 := s5.below (below_drewN' (Below.refl _ _) 1)
          have t8 := s8.below (below_drewN' (Below.refl _ _) 1)
          clear hJ s5 s8 e0 e1 e2 e3 e4
          have ff := play_take q1 at_ n
          have hgood := take_good (near := at_) (many := n) q1.td.tx.ok hs
          have htst := @take_state y at_ n
          have htbk := @take_broken y at_ n hs
          have htb := @takeL_bad y at_ n
          have hgT := hg.take at_ n
          generalize y.takeL at_ n = L at *
          generalize hyt : (y.take at_ n).2 = y2 at *
          generalize (y.take at_ n).1 = E at *
          clear hyt
          have HGO := Lib.hid hgood
          have HTS := Lib.hid htst
          have HTK := Lib.hid htbk
          have HTB := Lib.hid htb
          clear hgood htst htbk htb
          refine wp_region_mix [.take 0, .take 1, .take 2, .take 3, .take 4, .take 5, .take 6, .take 7, .take 8, .take 9, .take 10, .one 11, .take 12, .take 13, .take 14, .take 15, .take 16] 17 (fun W => W.cell? ⟨ab, ao + k * 6 + 1, none⟩ = some (.int .i64 at_) ∧ W.cell? ⟨ab, ao + k * 6 + 3, none⟩ = some (.int .i64 n)) (by kernel_rfl) (by kernel_rfl) (fun _ _ _ _ _ h => h) ⟨(HCE.out _ q1.bl).2.2.1, (HCE.out _ q1.bl).2.2.2.1⟩ ?_
          simp only [List.map_cons, List.map_nil, Ms.fill, List.getD_cons_zero, List.getD_cons_succ]
          iterate 11 (refine mixT_take (by rfl) ?_ (fun w' hw' => ?_) ?_; rotate_left; (focus (go_simp; (try with_reducible rfl))); (try simp only [Act.put, List.setIfInBounds_toArray, List.set_cons_zero, List.set_cons_succ]))
          refine mixT_step (by rfl) fun K hK => ?_
          go_simp
          refine ff.mono ?_
          rintro e wT ⟨TA, tc, rfl, FT, hT, gT, kT⟩
          have u5 := t5.grow gT
          have u8 := t8.grow gT
          refine hK _ _ (fun _ => ⟨(HCE.out _ hT.bl).2.2.1, (HCE.out _ hT.bl).2.2.2.1⟩) ?_
          clear hK K ff t5 t8 q1 gT
          iterate 5 (refine mixT_take (by rfl) ?_ (fun w' hw' => ?_) ?_; rotate_left; (focus (go_simp; (try with_reducible rfl))); (try simp only [Act.put, List.setIfInBounds_toArray, List.set_cons_zero, List.set_cons_succ]))
          refine mixT_nil ?_
          by_cases hE0 : E = 0
          · subst hE0
            have fb := play_blocks hT hgT (HTS.out rfl)
            obtain ⟨hlen, hall⟩ := HGO.out rfl
            go_wp2_with fail
            refine fb.mono ?_
            rintro e wU ⟨A14, c14, rfl, o14, hbU⟩
            obtain ⟨wV, hwV⟩ : ∃ wV, wV = wU.alloc (.cells #[.int .i64 64, .int .i64 8, .int .i64 40, .slice A14 14 c14] 69) := ⟨_, rfl⟩
            have s14 := StAt.made (F := FT ++ B) o14 hT.devlt hbU.size hwV
            have bUV : Below wT.heap.size wT wV := by rw [hwV]; exact hbU.alloc hbU.size _
            have hV := hT.below bUV
            have v5 := u5.below bUV
            have v8 := u8.below bUV
            have kV := kT.below bUV
            have HWV := Lib.hid hwV
            obtain ⟨S14, hS14⟩ : ∃ S14, S14 = wU.heap.size := ⟨_, rfl⟩
            rw [← hS14] at s14
            have HS14 := Lib.hid hS14
            have cb5 := v5.box.cells
            have lb5 := v5.box.lt
            have cb8 := v8.box.cells
            have lb8 := v8.box.lt
            have cb14 := s14.box.cells
            have lb14 := s14.box.lt
            clear fb hT o14 hbU u5 u8 kT hwV hS14 bUV
            go_wp2_with fail
            rw [← HWV.out, ← HS14.out]
            clear HWV HS14
            go_loopw [16] (fun q wr => ∃ m : Nat, m ≤ L.length ∧ q = .int .i64 m ∧ wr = wV) (fun q _ => L.length - (intOf q).toNat)
            case atStart => exact ⟨0, Nat.zero_le _, rfl, rfl⟩
            case round =>
              obtain ⟨m, hm, rfl, rfl⟩ := hrel
              by_cases hml : m < L.length
              · obtain ⟨lb, lo, rfl, hlb, lc⟩ := kV.sl.reads.at_ (k := m) (by simpa using hml)
                rw [List.getElem_map] at lc
                obtain ⟨j1, j2, j3, j4, j5⟩ := hall _ (List.getElem_mem hml)
                generalize L[m] = bI at *
                obtain ⟨b, rfl⟩ := Int.eq_ofNat_of_zero_le j1
                rw [hnow] at j2
                simp only [Int.toNat_natCast] at j3 j4 j5
                have hb14 : b < 14 := by omega
                obtain ⟨p5, o5, rfl, lp5, cp5⟩ := v5.bit hb14
                obtain ⟨p8, o8, e8, lp8, cp8⟩ := v8.bit hb14
                cases e8
                obtain ⟨p14, o14, rfl, lp14, cp14⟩ := s14.bit hb14
                rw [show us.getD b false = false from by rw [← hwas]; exact getD_flip (by rw [hwas]; have := v5.len; omega) j3] at cp5
                rw [show y.now.getD b false = false from getD_flip (by omega) j4] at cp8
                rw [j5] at cp14
                have hbi : (0 : Int) ≤ b ∧ (b : Int) < 14 := by omega
                go_wp2_with fail
                go_roundw
                case rel => exact ⟨m + 1, by omega, by go_num, by trivial⟩
                case measure => simp [intOf]; omega
              · obtain rfl : m = L.length := by omega
                obtain ⟨e0, e1, e2, e3, e4⟩ := HCE.out _ hV.bl
                clear cb5 lb5 cb8 lb8 cb14 lb14
                go_wp2_with fail
                go_roundw
                case rel => exact ⟨k + 1, T, FT, y2, us, B, x, A5, c5, by omega, rfl, by go_num, hV, hgT, hlv.mono (by omega), v5⟩
                case measure => simp [intOf]; omega
          · have hq : (E == 0) = false := by simpa using hE0
            obtain rfl := HTB.out hE0
            have h9 := HTK.out hE0
            have fb := blocks_bad _ _ wT hT.td.tx.st (by rw [h9]; decide)
            rw [h9] at fb
            have hfin : ∀ wU, Below wT.heap.size wT wU → Play w wU T FT D y2 B x ∧ StAt wU (FT ++ B) WB A5 c5 us := fun wU hb => ⟨hT.below hb, u5.below hb⟩
            have HFIN := Lib.hid hfin
            clear hE0 hfin
            go_wp2_with fail
            refine fb.mono ?_
            rintro e wU ⟨rfl, hbU⟩
            obtain ⟨wV, hwV⟩ : ∃ wV, wV = wU.alloc (.cells #[.int .i64 0, .int .i64 0, .int .i64 0, .slice none 0 0] 69) := ⟨_, rfl⟩
            obtain ⟨hV, v5⟩ := HFIN.out wV (by rw [hwV]; exact hbU.alloc hbU.size _)
            have HWV := Lib.hid hwV
            clear fb hT u5 u8 hwV hbU
            go_wp2_with fail
            rw [← HWV.out]
            clear HWV
            go_loopw [16] (fun q wr => q = .int .i64 0 ∧ wr = wV) (fun _ _ => 0)
            case atStart => exact ⟨rfl, rfl⟩
            case round =>
              obtain ⟨rfl, rfl⟩ := hrel
              obtain ⟨e0, e1, e2, e3, e4⟩ := HCE.out _ hV.bl
              go_wp2_with fail
              go_roundw
              case rel => exact ⟨k + 1, T, FT, y2, us, B, x, A5, c5, by omega, rfl, by go_num, hV, hgT, hlv.mono (by omega), v5⟩
              case measure => simp [intOf]; omega
        · as_aux_lemma =>
          have g1 : wh.tmod 9 = 5 := by rw [← hr]; exact Int.tmod_eq_emod_of_nonneg hwh.1
          obtain ⟨e0, e1, e2, e3, e4⟩ := hcJ
          have ff := play_free hJ LA lc l hl300 (hJ.reads hlr)
          have hgood := free_good (l := l) (ok_ckE hJ.td.tx.ok) hs
          have hfst := @free_state y l
          have hgF := hg.free l
          generalize hyt : (y.free l).2 = y2 at *
          generalize (y.free l).1 = E at *
          clear hyt
          have HGO := Lib.hid hgood
          have HFS := Lib.hid hfst
          have HT5 := Lib.hid s5
          clear hgood hfst s8 s5 hJ
          go_wp2_with fail
          clear cb8 lb8 hWr hW8r
          refine ff.mono ?_
          rintro e wT ⟨rfl, FT, hT, gT⟩
          have u5 := HT5.out.grow gT
          clear ff gT HT5 e0 e1 e2 e3 e4
          by_cases hE0 : E = 0
          · subst hE0
            have fb := play_blocks hT hgF (HFS.out rfl)
            have hall := HGO.out rfl
            go_wp2_with fail
            refine fb.mono ?_
            rintro e wU ⟨A14, c14, rfl, o14, hbU⟩
            obtain ⟨wV, hwV⟩ : ∃ wV, wV = wU.alloc (.cells #[.int .i64 64, .int .i64 8, .int .i64 40, .slice A14 14 c14] 69) := ⟨_, rfl⟩
            have s14 := StAt.made (F := FT ++ B) o14 hT.devlt hbU.size hwV
            have bUV : Below wT.heap.size wT wV := by rw [hwV]; exact hbU.alloc hbU.size _
            have hV := hT.below bUV
            have v5 := u5.below bUV
            have HWV := Lib.hid hwV
            obtain ⟨S14, hS14⟩ : ∃ S14, S14 = wU.heap.size := ⟨_, rfl⟩
            rw [← hS14] at s14
            have HS14 := Lib.hid hS14
            clear fb hT o14 hbU u5 hwV hS14 bUV
            go_wp2_with fail
            rw [← HWV.out, ← HS14.out]
            clear HWV HS14
            go_loopw [20] (fun q wr => ∃ m : Nat, m ≤ l.length ∧ q = .int .i64 m ∧ Play w wr T FT D y2 B x ∧ StAt wr (FT ++ B) WB A5 c5 us ∧ StAt wr (FT ++ B) S14 A14 c14 y2.now) (fun q _ => l.length - (intOf q).toNat)
            case atStart => exact ⟨0, Nat.zero_le _, rfl, hV, v5, s14⟩
            case round =>
              obtain ⟨m, hm, rfl, hV', v5', s14'⟩ := hrel
              clear hV v5 s14
              obtain ⟨e0, e1, e2, e3, e4⟩ := HCE.out _ hV'.bl
              by_cases hml : m < l.length
              · obtain ⟨lb, lo, rfl, hlb, lcc⟩ := (hV'.reads hlr).at_ (k := m) (by simpa using hml)
                rw [List.getElem_map] at lcc
                obtain ⟨j1, j2, j3⟩ := hall _ (List.getElem_mem hml)
                generalize l[m] = bI at *
                obtain ⟨b, rfl⟩ := Int.eq_ofNat_of_zero_le j1
                rw [hnow] at j2
                simp only [Int.toNat_natCast] at j3
                have hb14 : b < 14 := by omega
                have cb14 := s14'.box.cells
                have lb14 := s14'.box.lt
                obtain ⟨p14, o14, rfl, lp14, cp14⟩ := s14'.bit hb14
                rw [show y2.now.getD b false = false from getD_flip (by have := s14'.len; omega) j3] at cp14
                have hbi : (0 : Int) ≤ b ∧ (b : Int) < 14 := by omega
                go_wp2_with fail
                go_quiet (fail)
                rename_i nq
                have hV2 := hV'.drewN nq
                have v52 := v5'.below (below_drewN' (Below.refl _ _) nq)
                have s142 := s14'.below (below_drewN' (Below.refl _ _) nq)
                go_wp2_with fail
                go_roundw
                case rel => exact ⟨m + 1, by omega, by go_num, hV2, v52, s142⟩
                case measure => simp [intOf]; omega
              · obtain rfl : m = l.length := by omega
                go_wp2_with fail
                go_roundw
                case rel => exact ⟨k + 1, T, FT, y2, us, B, x, A5, c5, by omega, rfl, by go_num, hV', hgF, hlv.mono (by omega), v5'⟩
                case measure => simp [intOf]; omega
          · have hq : (E == 0) = false := by simpa using hE0
            obtain ⟨e0, e1, e2, e3, e4⟩ := HCE.out _ hT.bl
            clear hE0
            go_wp2_with fail
            go_roundw
            case rel => exact ⟨k + 1, T, FT, y2, us, B, x, A5, c5, by omega, rfl, by go_num, hT, hgF, hlv.mono (by omega), u5⟩
            case measure => simp [intOf]; omega
        · as_aux_lemma =>
          have g1 : wh.tmod 9 = 7 := by rw [← hr]; exact Int.tmod_eq_emod_of_nonneg hwh.1
          obtain ⟨e0, e1, e2, e3, e4⟩ := hcJ
          obtain ⟨x', hcm, hl', -, -⟩ := commit_live (x := x) (y := y) (us := us) (N := 1000 * (41 - (k + 1))) hJ.td.tx.ok hg.clean (by rw [show y.s = 64 from hg.like.s, show y.j = 8 from hg.like.j, show y.i = 40 from hg.like.i]; exact hlv.mono (by omega)) hg.nc
          rw [show y.s = 64 from hg.like.s, show y.j = 8 from hg.like.j, show y.i = 40 from hg.like.i] at hl'
          have ff := play_commit hJ hg.clean hs hcm
          have HT5 := Lib.hid s5
          clear s8 s5 hJ
          go_wp2_with fail
          clear cb8 lb8 hWr hW8r
          refine ff.mono ?_
          rintro e w20 ⟨rfl, B20, h20, g20⟩
          have s20 := HT5.out.grow g20
          clear ff g20 HT5 e0 e1 e2 e3 e4
          go_wp2_with fail
          refine (plain_any w20).mono ?_
          rintro e w21 ⟨rfl, hb21⟩
          have h21 := h20.below hb21
          have s21 := s20.below hb21
          have f21 := play_begin h21 rg64 hl'
          clear hb21 h20 s20
          go_wp2_with fail
          refine f21.mono ?_
          rintro e w22 ⟨U, FU, rfl, h22, g22⟩
          have s22 := s21.grow g22
          clear f21 h21 s21 g22
          have fb := play_blocks h22 (GoodTx.begun y.now) rfl
          go_wp2_with fail
          refine fb.mono ?_
          rintro e w23 ⟨A23, c23, rfl, o23, hb23⟩
          have h23 := h22.below hb23
          have s23 := s22.below hb23
          have hlt22 := h22.devlt
          obtain ⟨w24, hw24⟩ : ∃ w24, w24 = w23.setRow WB #[.int .i64 64, .int .i64 8, .int .i64 40, .slice A23 14 c23] := ⟨_, rfl⟩
          have hst := storeRow (ty := 69) (vs := #[.int .i64 64, .int .i64 8, .int .i64 40, .slice A23 14 c23]) s23.box rfl (by simp [Value.oneCell']) (by kernel_rfl)
          rw [← hw24] at hst
          have hna : ∀ a, A23 = some a → a.block ∉ FU ++ B20 ∧ a.block < w23.heap.size := fun a e => by
            subst e
            have h1 := own_lt o23 a.block rfl
            exact ⟨fun hm => by have := hlt22 _ hm; omega, h1.2⟩
          have hne : ∀ a, A23 = some a → a.block ≠ WB := fun a e => by
            subst e
            have h1 := own_lt o23 a.block rfl
            have h2 := s22.box.lt
            omega
          have s24 := StAt.put (c := c23) (us := y.now) s23.box rfl s23.nb (Reads.of_own o23) hnow hna hne
          have h24 := h23.rowB s23.nb hp0 hWB #[.int .i64 64, .int .i64 8, .int .i64 40, .slice A23 14 c23]
          rw [← hw24] at s24 h24
          clear fb o23 hb23 h22 s22 hw24 h23 s23 hna hne hlt22
          go_wp2_with (refine wpList_storeBy rfl _ _ _ rfl _ _ rfl rfl hst ?_)
          go_roundw
          case rel => exact ⟨k + 1, U, FU, _, y.now, B20, x', A23, c23, by omega, rfl, by go_num, h24, GoodTx.begun _, hl', s24⟩
          case measure => simp [intOf]; omega
        · as_aux_lemma =>
          have g1 : wh.tmod 9 = wh % 9 := Int.tmod_eq_emod_of_nonneg hwh.1
          have g3 : IntKind.u8.wrap (wh % 9) = wh % 9 := by rw [IntKind.wrap_u8]; omega
          obtain ⟨e0, e1, e2, e3, e4⟩ := hcJ
          generalize wh % 9 = r at *
          have r4 : (r == 4) = false := by simpa using hr.1
          have r5 : (r == 5) = false := by simpa using hr.2.1
          have r7 : (r == 7) = false := by simpa using hr.2.2
          go_wp2_with fail
          clear cb8 lb8 hWr hW8r
          go_roundw
          case rel => exact ⟨k + 1, T, F, y, us, B, x, A5, c5, by omega, rfl, by go_num, hJ, hg, hlv.mono (by omega), s5⟩
          case measure => simp [intOf]; omega
      · have h9 := bad9 hs
        have fb := blocks_bad _ _ wr hp.td.tx.st hs
        rw [h9] at fb
        clear hs h9
        go_wp2_with fail
        refine fb.mono ?_
        rintro e w5 ⟨rfl, hb5⟩
        obtain ⟨w6, hw6⟩ : ∃ w6, w6 = w5.alloc (.cells #[.int .i64 0, .int .i64 0, .int .i64 0, .slice none 0 0] 69) := ⟨_, rfl⟩
        have b8 : Blk w6 w5.heap.size 69 #[.int .i64 0, .int .i64 0, .int .i64 0, .slice none 0 0] := by rw [hw6]; exact Blk.new _ _ _
        have b6 : Below wr.heap.size wr w6 := by rw [hw6]; exact hb5.alloc hb5.size _
        have h6 := hp.below b6
        have s6 := s5.below b6
        have hW8F : w5.heap.size ∉ F ++ B := fun hm => by have := hp.devlt _ hm; have := hb5.size; omega
        have hW8n : w5.heap.size ≠ WB := fun e => by have := s5.box.lt; have := hb5.size; omega
        have hW8g : w.heap.size ≤ w5.heap.size := Nat.le_trans hp.size hb5.size
        obtain ⟨W8, hW8⟩ : ∃ W8, W8 = w5.heap.size := ⟨_, rfl⟩
        rw [← hW8] at b8 hW8F hW8n hW8g
        have HW := Lib.hid hw6
        have HW8 := Lib.hid hW8
        clear fb hb5 hp hw6 hW8 b6 s5
        go_wp2_with fail
        rw [← HW.out, ← HW8.out]
        clear HW HW8
        go_wp2_with fail
        refine (plain_any w6).mono ?_
        rintro e w7 ⟨rfl, hb7⟩
        have h7 := h6.below hb7
        have s7 := s6.below hb7
        have b7 := b8.belowAll hb7
        have f7 := play_begin h7 rg64 hlv
        clear hb7 h6 s6 b8
        go_wp2_with fail
        refine f7.mono ?_
        rintro e w8 ⟨U, FU, rfl, h8, g8⟩
        have s8 := s7.grow g8
        have b8 := g8.blk b7 hW8F
        have hW8F2 := g8.notin hW8F b7.lt
        clear f7 h7 s7 b7 g8 hW8F
        have fb := play_blocks h8 (GoodTx.begun us) rfl
        go_wp2_with fail
        refine fb.mono ?_
        rintro e w9 ⟨A9, c9, rfl, o9, hb9⟩
        have h9 := h8.below hb9
        have s9 := s8.below hb9
        have b9 := b8.belowAll hb9
        have hlt8 := h8.devlt
        have hus := s8.len
        obtain ⟨w10, hw10⟩ : ∃ w10, w10 = w9.setRow WB #[.int .i64 64, .int .i64 8, .int .i64 40, .slice A9 14 c9] := ⟨_, rfl⟩
        have hst := storeRow (ty := 69) (vs := #[.int .i64 64, .int .i64 8, .int .i64 40, .slice A9 14 c9]) s9.box rfl (by simp [Value.oneCell']) (by kernel_rfl)
        rw [← hw10] at hst
        have hna : ∀ a, A9 = some a → a.block ∉ FU ++ B ∧ a.block < w9.heap.size := fun a e => by
          subst e
          have h1 := own_lt o9 a.block rfl
          exact ⟨fun hm => by have := hlt8 _ hm; omega, h1.2⟩
        have hne : ∀ a, A9 = some a → a.block ≠ WB := fun a e => by
          subst e
          have h1 := own_lt o9 a.block rfl
          have h2 := s8.box.lt
          omega
        have hne8 : ∀ a, A9 = some a → a.block ≠ W8 := fun a e => by
          subst e
          have h1 := own_lt o9 a.block rfl
          have h2 := b8.lt
          omega
        have s10 := StAt.put (c := c9) (us := us) s9.box rfl s9.nb (Reads.of_own o9) hus hna hne
        have h10 := h9.rowB s9.nb hp0 hWB #[.int .i64 64, .int .i64 8, .int .i64 40, .slice A9 14 c9]
        have b10 : Blk (w9.setRow WB #[.int .i64 64, .int .i64 8, .int .i64 40, .slice A9 14 c9]) W8 69 #[.int .i64 0, .int .i64 0, .int .i64 0, .slice none 0 0] := (setRow_other _ _ _ _ hW8n).trans b9
        rw [← hw10] at s10 h10 b10
        obtain ⟨w11, hw11⟩ : ∃ w11, w11 = w10.setRow W8 #[.int .i64 64, .int .i64 8, .int .i64 40, .slice A9 14 c9] := ⟨_, rfl⟩
        have hst2 := storeRow (ty := 69) (vs := #[.int .i64 64, .int .i64 8, .int .i64 40, .slice A9 14 c9]) b10 rfl (by simp [Value.oneCell']) (by kernel_rfl)
        rw [← hw11] at hst2
        have hJ := h10.rowB hW8F2 hp0 hW8g #[.int .i64 64, .int .i64 8, .int .i64 40, .slice A9 14 c9]
        have s5 := s10.row hW8n hne8 #[.int .i64 64, .int .i64 8, .int .i64 40, .slice A9 14 c9]
        have s8' := StAt.put (c := c9) (us := us) (F := FU ++ B) b10 rfl hW8F2 s10.rd s10.len s10.na hne8
        rw [← hw11] at hJ s5 s8'
        have c10 := s10.box.cells
        have l10 := s10.box.lt
        have c11 := s5.box.cells
        have l11 := s5.box.lt
        clear fb o9 hb9 h8 s8 b8 hw10 hw11 h9 s9 b9 hna hne hne8 hlt8 h10 b10
        have s8 : StAt w11 (FU ++ B) W8 A9 c9 (begTx 64 8 40 us).now := s8'
        clear s8'
        clear hg
        have hg := GoodTx.begun us
        have hs : (begTx 64 8 40 us).stateE = 0 := rfl
        have hnow : (begTx 64 8 40 us).now.length = 14 := hus
        have hwas : (begTx 64 8 40 us).was = us := rfl
        generalize begTx 64 8 40 us = y at *
        have hcJ := HCE.out _ hJ.bl
        have hsteps : wh % 9 = 4 ∨ wh % 9 = 5 ∨ wh % 9 = 7 ∨ (wh % 9 ≠ 4 ∧ wh % 9 ≠ 5 ∧ wh % 9 ≠ 7) := by omega
        rcases hsteps with hr | hr | hr | hr
        · as_aux_lemma =>
          have g1 : wh.tmod 9 = 4 := by rw [← hr]; exact Int.tmod_eq_emod_of_nonneg hwh.1
          obtain ⟨e0, e1, e2, e3, e4⟩ := hcJ
          go_wp2_with (first | (refine wpList_storeBy rfl _ _ _ rfl _ _ rfl rfl hst ?_) | (refine wpList_storeBy rfl _ _ _ rfl _ _ rfl rfl hst2 ?_))
          clear c10 l10 c11 l11 s10 hst hst2
          have q1 := hJ.drewN 1
          have t5 := s5.below (below_drewN' (Below.refl _ _) 1)
          have t8 := s8.below (below_drewN' (Below.refl _ _) 1)
          clear hJ s5 s8 e0 e1 e2 e3 e4
          have ff := play_take q1 at_ n
          have hgood := take_good (near := at_) (many := n) q1.td.tx.ok hs
          have htst := @take_state y at_ n
          have htbk := @take_broken y at_ n hs
          have htb := @takeL_bad y at_ n
          have hgT := hg.take at_ n
          generalize y.takeL at_ n = L at *
          generalize hyt : (y.take at_ n).2 = y2 at *
          generalize (y.take at_ n).1 = E at *
          clear hyt
          have HGO := Lib.hid hgood
          have HTS := Lib.hid htst
          have HTK := Lib.hid htbk
          have HTB := Lib.hid htb
          clear hgood htst htbk htb
          refine wp_region_mix [.take 0, .take 1, .take 2, .take 3, .take 4, .take 5, .take 6, .take 7, .take 8, .take 9, .take 10, .one 11, .take 12, .take 13, .take 14, .take 15, .take 16] 17 (fun W => W.cell? ⟨ab, ao + k * 6 + 1, none⟩ = some (.int .i64 at_) ∧ W.cell? ⟨ab, ao + k * 6 + 3, none⟩ = some (.int .i64 n)) (by kernel_rfl) (by kernel_rfl) (fun _ _ _ _ _ h => h) ⟨(HCE.out _ q1.bl).2.2.1, (HCE.out _ q1.bl).2.2.2.1⟩ ?_
          simp only [List.map_cons, List.map_nil, Ms.fill, List.getD_cons_zero, List.getD_cons_succ]
          iterate 11 (refine mixT_take (by rfl) ?_ (fun w' hw' => ?_) ?_; rotate_left; (focus (go_simp; (try with_reducible rfl))); (try simp only [Act.put, List.setIfInBounds_toArray, List.set_cons_zero, List.set_cons_succ]))
          refine mixT_step (by rfl) fun K hK => ?_
          go_simp
          refine ff.mono ?_
          rintro e wT ⟨TA, tc, rfl, FT, hT, gT, kT⟩
          have u5 := t5.grow gT
          have u8 := t8.grow gT
          refine hK _ _ (fun _ => ⟨(HCE.out _ hT.bl).2.2.1, (HCE.out _ hT.bl).2.2.2.1⟩) ?_
          clear hK K ff t5 t8 q1 gT
          iterate 5 (refine mixT_take (by rfl) ?_ (fun w' hw' => ?_) ?_; rotate_left; (focus (go_simp; (try with_reducible rfl))); (try simp only [Act.put, List.setIfInBounds_toArray, List.set_cons_zero, List.set_cons_succ]))
          refine mixT_nil ?_
          by_cases hE0 : E = 0
          · subst hE0
            have fb := play_blocks hT hgT (HTS.out rfl)
            obtain ⟨hlen, hall⟩ := HGO.out rfl
            go_wp2_with fail
            refine fb.mono ?_
            rintro e wU ⟨A14, c14, rfl, o14, hbU⟩
            obtain ⟨wV, hwV⟩ : ∃ wV, wV = wU.alloc (.cells #[.int .i64 64, .int .i64 8, .int .i64 40, .slice A14 14 c14] 69) := ⟨_, rfl⟩
            have s14 := StAt.made (F := FT ++ B) o14 hT.devlt hbU.size hwV
            have bUV : Below wT.heap.size wT wV := by rw [hwV]; exact hbU.alloc hbU.size _
            have hV := hT.below bUV
            have v5 := u5.below bUV
            have v8 := u8.below bUV
            have kV := kT.below bUV
            have HWV := Lib.hid hwV
            obtain ⟨S14, hS14⟩ : ∃ S14, S14 = wU.heap.size := ⟨_, rfl⟩
            rw [← hS14] at s14
            have HS14 := Lib.hid hS14
            have cb5 := v5.box.cells
            have lb5 := v5.box.lt
            have cb8 := v8.box.cells
            have lb8 := v8.box.lt
            have cb14 := s14.box.cells
            have lb14 := s14.box.lt
            clear fb hT o14 hbU u5 u8 kT hwV hS14 bUV
            go_wp2_with fail
            rw [← HWV.out, ← HS14.out]
            clear HWV HS14
            go_loopw [16] (fun q wr => ∃ m : Nat, m ≤ L.length ∧ q = .int .i64 m ∧ wr = wV) (fun q _ => L.length - (intOf q).toNat)
            case atStart => exact ⟨0, Nat.zero_le _, rfl, rfl⟩
            case round =>
              obtain ⟨m, hm, rfl, rfl⟩ := hrel
              by_cases hml : m < L.length
              · obtain ⟨lb, lo, rfl, hlb, lc⟩ := kV.sl.reads.at_ (k := m) (by simpa using hml)
                rw [List.getElem_map] at lc
                obtain ⟨j1, j2, j3, j4, j5⟩ := hall _ (List.getElem_mem hml)
                generalize L[m] = bI at *
                obtain ⟨b, rfl⟩ := Int.eq_ofNat_of_zero_le j1
                rw [hnow] at j2
                simp only [Int.toNat_natCast] at j3 j4 j5
                have hb14 : b < 14 := by omega
                obtain ⟨p5, o5, rfl, lp5, cp5⟩ := v5.bit hb14
                obtain ⟨p8, o8, e8, lp8, cp8⟩ := v8.bit hb14
                cases e8
                obtain ⟨p14, o14, rfl, lp14, cp14⟩ := s14.bit hb14
                rw [show us.getD b false = false from by rw [← hwas]; exact getD_flip (by rw [hwas]; have := v5.len; omega) j3] at cp5
                rw [show y.now.getD b false = false from getD_flip (by omega) j4] at cp8
                rw [j5] at cp14
                have hbi : (0 : Int) ≤ b ∧ (b : Int) < 14 := by omega
                go_wp2_with fail
                go_roundw
                case rel => exact ⟨m + 1, by omega, by go_num, by trivial⟩
                case measure => simp [intOf]; omega
              · obtain rfl : m = L.length := by omega
                obtain ⟨e0, e1, e2, e3, e4⟩ := HCE.out _ hV.bl
                clear cb5 lb5 cb8 lb8 cb14 lb14
                go_wp2_with fail
                go_roundw
                case rel => exact ⟨k + 1, U, FT, y2, us, B, x, A9, c9, by omega, rfl, by go_num, hV, hgT, hlv.mono (by omega), v5⟩
                case measure => simp [intOf]; omega
          · have hq : (E == 0) = false := by simpa using hE0
            obtain rfl := HTB.out hE0
            have h9 := HTK.out hE0
            have fb := blocks_bad _ _ wT hT.td.tx.st (by rw [h9]; decide)
            rw [h9] at fb
            have hfin : ∀ wU, Below wT.heap.size wT wU → Play w wU U FT D y2 B x ∧ StAt wU (FT ++ B) WB A9 c9 us := fun wU hb => ⟨hT.below hb, u5.below hb⟩
            have HFIN := Lib.hid hfin
            clear hE0 hfin
            go_wp2_with fail
            refine fb.mono ?_
            rintro e wU ⟨rfl, hbU⟩
            obtain ⟨wV, hwV⟩ : ∃ wV, wV = wU.alloc (.cells #[.int .i64 0, .int .i64 0, .int .i64 0, .slice none 0 0] 69) := ⟨_, rfl⟩
            obtain ⟨hV, v5⟩ := HFIN.out wV (by rw [hwV]; exact hbU.alloc hbU.size _)
            have HWV := Lib.hid hwV
            clear fb hT u5 u8 hwV hbU
            go_wp2_with fail
            rw [← HWV.out]
            clear HWV
            go_loopw [16] (fun q wr => q = .int .i64 0 ∧ wr = wV) (fun _ _ => 0)
            case atStart => exact ⟨rfl, rfl⟩
            case round =>
              obtain ⟨rfl, rfl⟩ := hrel
              obtain ⟨e0, e1, e2, e3, e4⟩ := HCE.out _ hV.bl
              go_wp2_with fail
              go_roundw
              case rel => exact ⟨k + 1, U, FT, y2, us, B, x, A9, c9, by omega, rfl, by go_num, hV, hgT, hlv.mono (by omega), v5⟩
              case measure => simp [intOf]; omega
        · as_aux_lemma =>
          have g1 : wh.tmod 9 = 5 := by rw [← hr]; exact Int.tmod_eq_emod_of_nonneg hwh.1
          obtain ⟨e0, e1, e2, e3, e4⟩ := hcJ
          have ff := play_free hJ LA lc l hl300 (hJ.reads hlr)
          have hgood := free_good (l := l) (ok_ckE hJ.td.tx.ok) hs
          have hfst := @free_state y l
          have hgF := hg.free l
          generalize hyt : (y.free l).2 = y2 at *
          generalize (y.free l).1 = E at *
          clear hyt
          have HGO := Lib.hid hgood
          have HFS := Lib.hid hfst
          have HT5 := Lib.hid s5
          clear hgood hfst s8 s5 hJ
          go_wp2_with (first | (refine wpList_storeBy rfl _ _ _ rfl _ _ rfl rfl hst ?_) | (refine wpList_storeBy rfl _ _ _ rfl _ _ rfl rfl hst2 ?_))
          clear c10 l10 c11 l11 s10 hst hst2
          refine ff.mono ?_
          rintro e wT ⟨rfl, FT, hT, gT⟩
          have u5 := HT5.out.grow gT
          clear ff gT HT5 e0 e1 e2 e3 e4
          by_cases hE0 : E = 0
          · subst hE0
            have fb := play_blocks hT hgF (HFS.out rfl)
            have hall := HGO.out rfl
            go_wp2_with fail
            refine fb.mono ?_
            rintro e wU ⟨A14, c14, rfl, o14, hbU⟩
            obtain ⟨wV, hwV⟩ : ∃ wV, wV = wU.alloc (.cells #[.int .i64 64, .int .i64 8, .int .i64 40, .slice A14 14 c14] 69) := ⟨_, rfl⟩
            have s14 := StAt.made (F := FT ++ B) o14 hT.devlt hbU.size hwV
            have bUV : Below wT.heap.size wT wV := by rw [hwV]; exact hbU.alloc hbU.size _
            have hV := hT.below bUV
            have v5 := u5.below bUV
            have HWV := Lib.hid hwV
            obtain ⟨S14, hS14⟩ : ∃ S14, S14 = wU.heap.size := ⟨_, rfl⟩
            rw [← hS14] at s14
            have HS14 := Lib.hid hS14
            clear fb hT o14 hbU u5 hwV hS14 bUV
            go_wp2_with fail
            rw [← HWV.out, ← HS14.out]
            clear HWV HS14
            go_loopw [20] (fun q wr => ∃ m : Nat, m ≤ l.length ∧ q = .int .i64 m ∧ Play w wr U FT D y2 B x ∧ StAt wr (FT ++ B) WB A9 c9 us ∧ StAt wr (FT ++ B) S14 A14 c14 y2.now) (fun q _ => l.length - (intOf q).toNat)
            case atStart => exact ⟨0, Nat.zero_le _, rfl, hV, v5, s14⟩
            case round =>
              obtain ⟨m, hm, rfl, hV', v5', s14'⟩ := hrel
              clear hV v5 s14
              obtain ⟨e0, e1, e2, e3, e4⟩ := HCE.out _ hV'.bl
              by_cases hml : m < l.length
              · obtain ⟨lb, lo, rfl, hlb, lcc⟩ := (hV'.reads hlr).at_ (k := m) (by simpa using hml)
                rw [List.getElem_map] at lcc
                obtain ⟨j1, j2, j3⟩ := hall _ (List.getElem_mem hml)
                generalize l[m] = bI at *
                obtain ⟨b, rfl⟩ := Int.eq_ofNat_of_zero_le j1
                rw [hnow] at j2
                simp only [Int.toNat_natCast] at j3
                have hb14 : b < 14 := by omega
                have cb14 := s14'.box.cells
                have lb14 := s14'.box.lt
                obtain ⟨p14, o14, rfl, lp14, cp14⟩ := s14'.bit hb14
                rw [show y2.now.getD b false = false from getD_flip (by have := s14'.len; omega) j3] at cp14
                have hbi : (0 : Int) ≤ b ∧ (b : Int) < 14 := by omega
                go_wp2_with fail
                go_quiet (fail)
                rename_i nq
                have hV2 := hV'.drewN nq
                have v52 := v5'.below (below_drewN' (Below.refl _ _) nq)
                have s142 := s14'.below (below_drewN' (Below.refl _ _) nq)
                go_wp2_with fail
                go_roundw
                case rel => exact ⟨m + 1, by omega, by go_num, hV2, v52, s142⟩
                case measure => simp [intOf]; omega
              · obtain rfl : m = l.length := by omega
                go_wp2_with fail
                go_roundw
                case rel => exact ⟨k + 1, U, FT, y2, us, B, x, A9, c9, by omega, rfl, by go_num, hV', hgF, hlv.mono (by omega), v5'⟩
                case measure => simp [intOf]; omega
          · have hq : (E == 0) = false := by simpa using hE0
            obtain ⟨e0, e1, e2, e3, e4⟩ := HCE.out _ hT.bl
            clear hE0
            go_wp2_with fail
            go_roundw
            case rel => exact ⟨k + 1, U, FT, y2, us, B, x, A9, c9, by omega, rfl, by go_num, hT, hgF, hlv.mono (by omega), u5⟩
            case measure => simp [intOf]; omega
        · as_aux_lemma =>
          have g1 : wh.tmod 9 = 7 := by rw [← hr]; exact Int.tmod_eq_emod_of_nonneg hwh.1
          obtain ⟨e0, e1, e2, e3, e4⟩ := hcJ
          obtain ⟨x', hcm, hl', -, -⟩ := commit_live (x := x) (y := y) (us := us) (N := 1000 * (41 - (k + 1))) hJ.td.tx.ok hg.clean (by rw [show y.s = 64 from hg.like.s, show y.j = 8 from hg.like.j, show y.i = 40 from hg.like.i]; exact hlv.mono (by omega)) hg.nc
          rw [show y.s = 64 from hg.like.s, show y.j = 8 from hg.like.j, show y.i = 40 from hg.like.i] at hl'
          have ff := play_commit hJ hg.clean hs hcm
          have HT5 := Lib.hid s5
          clear s8 s5 hJ
          go_wp2_with (first | (refine wpList_storeBy rfl _ _ _ rfl _ _ rfl rfl hst ?_) | (refine wpList_storeBy rfl _ _ _ rfl _ _ rfl rfl hst2 ?_))
          clear c10 l10 c11 l11 s10 hst hst2
          refine ff.mono ?_
          rintro e w20 ⟨rfl, B20, h20, g20⟩
          have s20 := HT5.out.grow g20
          clear ff g20 HT5 e0 e1 e2 e3 e4
          go_wp2_with fail
          refine (plain_any w20).mono ?_
          rintro e w21 ⟨rfl, hb21⟩
          have h21 := h20.below hb21
          have s21 := s20.below hb21
          have f21 := play_begin h21 rg64 hl'
          clear hb21 h20 s20
          go_wp2_with fail
          refine f21.mono ?_
          rintro e w22 ⟨U, FU, rfl, h22, g22⟩
          have s22 := s21.grow g22
          clear f21 h21 s21 g22
          have fb := play_blocks h22 (GoodTx.begun y.now) rfl
          go_wp2_with fail
          refine fb.mono ?_
          rintro e w23 ⟨A23, c23, rfl, o23, hb23⟩
          have h23 := h22.below hb23
          have s23 := s22.below hb23
          have hlt22 := h22.devlt
          obtain ⟨w24, hw24⟩ : ∃ w24, w24 = w23.setRow WB #[.int .i64 64, .int .i64 8, .int .i64 40, .slice A23 14 c23] := ⟨_, rfl⟩
          have hst := storeRow (ty := 69) (vs := #[.int .i64 64, .int .i64 8, .int .i64 40, .slice A23 14 c23]) s23.box rfl (by simp [Value.oneCell']) (by kernel_rfl)
          rw [← hw24] at hst
          have hna : ∀ a, A23 = some a → a.block ∉ FU ++ B20 ∧ a.block < w23.heap.size := fun a e => by
            subst e
            have h1 := own_lt o23 a.block rfl
            exact ⟨fun hm => by have := hlt22 _ hm; omega, h1.2⟩
          have hne : ∀ a, A23 = some a → a.block ≠ WB := fun a e => by
            subst e
            have h1 := own_lt o23 a.block rfl
            have h2 := s22.box.lt
            omega
          have s24 := StAt.put (c := c23) (us := y.now) s23.box rfl s23.nb (Reads.of_own o23) hnow hna hne
          have h24 := h23.rowB s23.nb hp0 hWB #[.int .i64 64, .int .i64 8, .int .i64 40, .slice A23 14 c23]
          rw [← hw24] at s24 h24
          clear fb o23 hb23 h22 s22 hw24 h23 s23 hna hne hlt22
          go_wp2_with (refine wpList_storeBy rfl _ _ _ rfl _ _ rfl rfl hst ?_)
          go_roundw
          case rel => exact ⟨k + 1, U, FU, _, y.now, B20, x', A23, c23, by omega, rfl, by go_num, h24, GoodTx.begun _, hl', s24⟩
          case measure => simp [intOf]; omega
        · as_aux_lemma =>
          have g1 : wh.tmod 9 = wh % 9 := Int.tmod_eq_emod_of_nonneg hwh.1
          have g3 : IntKind.u8.wrap (wh % 9) = wh % 9 := by rw [IntKind.wrap_u8]; omega
          obtain ⟨e0, e1, e2, e3, e4⟩ := hcJ
          generalize wh % 9 = r at *
          have r4 : (r == 4) = false := by simpa using hr.1
          have r5 : (r == 5) = false := by simpa using hr.2.1
          have r7 : (r == 7) = false := by simpa using hr.2.2
          go_wp2_with (first | (refine wpList_storeBy rfl _ _ _ rfl _ _ rfl rfl hst ?_) | (refine wpList_storeBy rfl _ _ _ rfl _ _ rfl rfl hst2 ?_))
          clear c10 l10 c11 l11 s10 hst hst2
          go_roundw
          case rel => exact ⟨k + 1, U, FU, y, us, B, x, A9, c9, by omega, rfl, by go_num, hJ, hg, hlv.mono (by omega), s5⟩
          case measure => simp [intOf]; omega
    · obtain rfl : k = xs.length := by omega
      have BW := hp.bl
      have haw := awake10_any wr (HH.out.below BW hp0)
      clear hp s5
      go_wp2_with fail
      refine haw.mono ?_
      rintro e w3 ⟨rfl, hb3⟩
      go_wp2_with fail
      go_ret
      exact ⟨rfl, BW.trans (hb3.mono BW.size)⟩
end Go.Proofs.YtfgfdjaiamaelaaGreatDoor
/- P10.10: TxnBlocks: the row proved, and its tied card. -/
namespace Go.Proofs.YtfgfdjaiamaelaaGreatDoor
open Go.ChangeShapes Go.WideShapes Go.ChangeAt Go.RowKit Go.Joins

set_option maxRecDepth 100000 in
theorem tblocks_lifted (os : Os) (started : os.Started) (H : Type) (enc : TypeId × Value → H) :
    ReturnsInHanded {} Tryz.checked os 6 .any (fun w args => (Rows.txnBlocksSpec.pre enc Tryz.prog Tryz.f6 [] false w args ∧ laidMetH Tryz.prog half1 w) ∧ sizedMet enc Tryz.prog Tryz.f6 (OpenSpec.ofChange Rows.txnBlocksSpec) false w args)
      (Rows.txnBlocksSpec.post enc Tryz.prog Tryz.f6 false true false false) := by
  refine returnsInHanded_of_change_and (C := Tryz.checked) (X := fun w _ => laidMetH Tryz.prog half1 w) (fun _ _ _ hh h => h.of_heap hh) Tryz.own started (by kernel_rfl) Tryz.func6
    (ChangeSpec.witness_shaped (enc := enc) (C := Tryz.checked) (os := os) (X := fun w _ => laidMetH Tryz.prog half1 w) false (World.doorLaid Tryz.prog 400 os) #[.slice none 0 0] 8 rfl (World.shaped_of_RefB (by kernel_rfl) (by kernel_rfl)) (by kernel_rfl) (by kernel_rfl) (by kernel_rfl) (door_met os _)) ?_
  intro W base args ds gs before hval0 hW _ _ hL _
  have hval : ∀ (j : Nat) t v, Tryz.f6.params[j]? = some t → args[j]? = some v → Value.okWide Tryz.prog W .any base t v := hval0
  have hW' := hW
  obtain ⟨p, q, hA0, hV, rfl, hfz, hnd⟩ := hW
  have hA : DataW.TrodAll enc Tryz.prog W 0 (fun _ => true) true Tryz.f6.params.toList args.toList ds p := hA0
  rw [Tryz.params6] at hA hval
  obtain ⟨v0, d0, rfl, rfl, h0⟩ := trodAll_one hA
  obtain ⟨rfl, rfl⟩ := trodVars_none hV
  have hH := half_of_laid hL
  have h0k := h0
  clear hA0 hval0
  simp only [List.append_nil] at hW'
  have hlt0 : ∀ x ∈ p, x.block < W.heap.size := fun x hx => by simpa using hW'.lt x (by simpa using hx)
  obtain ⟨A, c, xs, rfl, hR, hok, hl⟩ := open_stepv (hval 0 56 v0 rfl rfl) h0
  refine (txnBlocks_any A c xs hl W hok hH hR).mono fun e W' ⟨he, hnx⟩ => ?_
  subst he
  refine ⟨_, rfl, _, _, _, [], p, [], hW', ?_, ?_, rfl, hnx.frame _, fun h => by cases h⟩
  · exact trodAll_mk1 (shut_bool Tryz.underlying4 true)
  · exact trodAll_mk1 (Below.trod Tryz.laidOut (by kernel_rfl) (of_decide_eq_true (by kernel_rfl)) h0k hnx hlt0)

theorem txnBlocks_holds : Rows.TxnBlocksSaid :=
  OpenClaim.holds_of_wide 6 Tryz.f6 rfl rfl rfl rfl rfl rfl rfl ⟨rfl, rfl, rfl, rfl, rfl⟩ rfl rfl rfl rfl rfl (by kernel_rfl) Tryz.func6 (by kernel_rfl)
    (of_decide_eq_true (by kernel_rfl)) (by unfold Func.isWrapper; first | (rw [if_pos (by decide +kernel)]; kernel_rfl) | (rw [if_neg (by decide +kernel)]; exact ⟨rfl, rfl⟩))
    (fun os started H enc _ => tblocks_lifted os started H enc)

theorem txnBlocksCard_holds : Rows.TxnBlocksCardSaid :=
  Claim7.holds_tied_plain_at .later [] [.data] true (true, "b7afe181b4b591abc8eba0f6329cadd95c6e57db5f0b149c0081f6ae433a3486") false
    txnBlocks_holds (fun _ h => by cases h) (by kernel_rfl) (fun _ h => by cases h) txnBlocks_row_tie rfl ⟨rfl, rfl⟩ (by kernel_rfl) rfl
    (fun f fn hf hfn => by
      obtain rfl : f = 6 := Option.some.inj ((show Tryz.prog.funcNamed "limewash/limewashlaw10.TxnBlocks" = some 6 by kernel_rfl).symm.trans hf) |>.symm
      obtain rfl : fn = Tryz.f6 := (Option.some.inj (Tryz.func6.symm.trans hfn)).symm
      exact ⟨by kernel_rfl, fun j t ht => by
        rw [Tryz.params6] at ht
        have hm : t ∈ [56] := by simpa using Array.mem_of_getElem? ht
        have hall : ([56].all fun u => !Tryz.prog.wantsStandIn u) = true := by kernel_rfl
        exact (show Tryz.prog.wantsStandIn t = false by simpa using List.all_eq_true.1 hall t hm)⟩)
    (by kernel_rfl)

#print axioms txnBlocksCard_holds
end Go.Proofs.YtfgfdjaiamaelaaGreatDoor
