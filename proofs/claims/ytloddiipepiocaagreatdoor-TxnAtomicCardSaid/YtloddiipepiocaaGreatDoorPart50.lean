/- Parts of the proof, put together by program: TP, US. -/
import Derived.Test.YtloddiipepiocaaGreatDoorPart49
import Derived.Test.YtloddiipepiocaaGreatDoorPart22
import Derived.Test.YtloddiipepiocaaGreatDoorPart47
import Derived.Test.YtloddiipepiocaaGreatDoorPart48
set_option linter.unusedVariables false
set_option linter.unusedSimpArgs false
/- The laws of layer 10: TxnBlocks: what is known between two calls. -/
namespace Go.Proofs.YtloddiipepiocaaGreatDoor
open Go.RowKit Go.Maps

/-- Cells of a call that came in, in every later world. -/
theorem steps_cells {w : World} {b off : Nat} {xs : List StepV} (hR : Reads w (some ⟨b, off, none⟩) (xs.flatMap stepL)) {k : Nat} (hk : k < xs.length) :
    ∀ W, Below w.heap.size w W → b < W.heap.size ∧ W.cell? ⟨b, off + k * 6, none⟩ = some (.int .u8 xs[k].wh) ∧ W.cell? ⟨b, off + k * 6 + 1, none⟩ = some (.int .i64 xs[k].at_) ∧ W.cell? ⟨b, off + k * 6 + 3, none⟩ = some (.int .i64 xs[k].n) ∧
      W.cell? ⟨b, off + k * 6 + 5, none⟩ = some (.slice xs[k].A xs[k].l.length xs[k].c) := by
  intro W hb
  obtain ⟨b', off', e, h1, h2, h3, h4, h5, h6, h7⟩ := steps_at (hR.below hb) hk
  cases e
  exact ⟨h1, h2, h3, h5, h7⟩

/-- A state of the blocks in a box, and its bits in a block that the transaction does not touch. -/
structure StAt (w : World) (F : List Nat) (S : Nat) (A : Option Addr) (c : Nat) (us : List Bool) : Prop where
  box : Blk w S 53 #[.int .i64 64, .int .i64 8, .int .i64 40, .slice A 14 c]
  rd : Reads w A (us.map .bool)
  len : us.length = 14
  nb : S ∉ F
  na : ∀ a, A = some a → a.block ∉ F ∧ a.block < w.heap.size
section
variable {w w' w0 : World} {F F' : List Nat} {S S' : Nat} {A A' : Option Addr} {c c' : Nat} {us us' : List Bool}
theorem StAt.grow (h : StAt w F S A c us) (g : Grow w F w' F') : StAt w' F' S A c us :=
  ⟨g.blk h.box h.nb, h.rd.growF g fun a e => (h.na a e).1, h.len, g.notin h.nb h.box.lt, fun a e => ⟨g.notin (h.na a e).1 (h.na a e).2, Nat.lt_of_lt_of_le (h.na a e).2 g.keep.size⟩⟩
theorem StAt.below (h : StAt w F S A c us) (hb : Below w.heap.size w w') : StAt w' F S A c us := h.grow (Grow.of_below hb F)
/-- A bit. -/
theorem StAt.bit (h : StAt w F S A c us) {m : Nat} (hm : m < 14) : ∃ b off, A = some ⟨b, off, none⟩ ∧ b < w.heap.size ∧ w.cell? ⟨b, off + m, none⟩ = some (.bool (us.getD m false)) := by
  have hl := h.len
  obtain ⟨b, off, h1, h2, h3⟩ := h.rd.at_ (k := m) (by rw [List.length_map]; omega)
  refine ⟨b, off, h1, h2, ?_⟩
  rw [h3, List.getElem_map, List.getD_eq_getElem?_getD, List.getElem?_eq_getElem (by omega)]
  rfl
/-- It was just made. -/
theorem StAt.made {n0 : Nat} (ho : w.ownsRow n0 4 1 (.slice A 14 c) 14 (us.map .bool)) (hF : ∀ b ∈ F, b < n0) (hn : n0 ≤ w.heap.size) (hw : w' = w.alloc (.cells #[.int .i64 64, .int .i64 8, .int .i64 40, .slice A 14 c] 53)) : StAt w' F w.heap.size A c us := by
  have b2 : Below w.heap.size w w' := by rw [hw]; exact (Below.refl _ _).alloc (Nat.le_refl _) _
  have hlen : us.length = 14 := by have := ho.1; simpa using this
  refine ⟨by rw [hw]; exact Blk.new _ _ _, (Reads.of_own ho).below b2, hlen, fun hm => by have := hF _ hm; omega, fun a e => ?_⟩
  subst e
  have h1 := own_lt ho a.block rfl
  exact ⟨fun hm => by have := hF _ hm; omega, Nat.lt_of_lt_of_le h1.2 b2.size⟩
/-- Another box is written. -/
theorem StAt.row (h : StAt w F S A c us) {g : Nat} (hg : g ≠ S) (ha : ∀ a, A = some a → a.block ≠ g) (cs : Array Value) : StAt (w.setRow g cs) F S A c us :=
  ⟨(setRow_other _ _ _ _ (Ne.symm hg)).trans h.box, by
    rcases h.rd with h0 | ⟨b, off, e, hl, hc⟩
    · exact .inl h0
    · exact .inr ⟨b, off, e, by simpa using hl, fun j u hu => (World.cell?_of_block (w := w) (a := ⟨b, off + j, none⟩) (setRow_other _ _ _ _ (show b ≠ g from ha _ e))).trans (hc j u hu)⟩,
   h.len, h.nb, fun a e => ⟨(h.na a e).1, by simpa using (h.na a e).2⟩⟩
/-- Its box is written with another state. -/
theorem StAt.put {cs : Array Value} {t : TypeId} (b : Blk w S t cs) (ht : t = 53) (hS : S ∉ F) (rd : Reads w A (us.map .bool)) (len : us.length = 14) (na : ∀ a, A = some a → a.block ∉ F ∧ a.block < w.heap.size) (hne : ∀ a, A = some a → a.block ≠ S) :
    StAt (w.setRow S #[.int .i64 64, .int .i64 8, .int .i64 40, .slice A 14 c]) F S A c us := by
  subst ht
  refine ⟨b.setRow, ?_, len, hS, fun a e => ⟨(na a e).1, by simpa using (na a e).2⟩⟩
  rcases rd with h0 | ⟨b', off, e, hl, hc⟩
  · exact .inl h0
  · exact .inr ⟨b', off, e, by simpa using hl, fun j u hu => (World.cell?_of_block (w := w) (a := ⟨b', off + j, none⟩) (setRow_other _ _ _ _ (show b' ≠ S from hne _ e))).trans (hc j u hu)⟩
end
theorem Play.rowB {w0 w : World} {T : Nat} {F : List Nat} {D : Nat} {y : TxS} {B : List Nat} {x : DevS} (h : Play w0 w T F D y B x) {g : Nat} (hp : g ∉ F ++ B) (h00 : 0 < w0.heap.size) (h0 : w0.heap.size ≤ g) (cs : Array Value) : Play w0 (w.setRow g cs) T F D y B x :=
  ⟨h.td.keep (fun b hb => setRow_other w g b cs (fun e => by
    subst e
    rcases hb with hb | hb | hb
    · exact hp (List.mem_append_left _ hb)
    · exact hp (List.mem_append_right _ hb)
    · omega)) (by simp), Below.setRow h.bl h0 _, h.fl, h.bb⟩

/-- What is known of the transaction. -/
structure GoodTx (y : TxS) (us : List Bool) : Prop where
  clean : y.Clean
  like : (begTx 64 8 40 us).Like y
  nc : y.changed = false → y.now = us
theorem GoodTx.begun (us : List Bool) : GoodTx (begTx 64 8 40 us) us := ⟨begTx_clean (by decide) us, .refl _, fun _ => rfl⟩
theorem change_nc {y : TxS} {us vs : List Bool} {n : Nat} (h : y.changed = false → y.now = us) : (y.change vs n).changed = false → (y.change vs n).now = us := by
  unfold TxS.change
  split
  · exact h
  · split
    · exact h
    · intro e; cases e
theorem GoodTx.take {y : TxS} {us : List Bool} (h : GoodTx y us) (a n : Int) : GoodTx (y.take a n).2 us := by
  refine ⟨h.clean.take a n, h.like.trans (take_like y a n), ?_⟩
  unfold TxS.take
  split
  · exact h.nc
  · split
    · exact h.nc
    · exact change_nc h.nc
theorem GoodTx.free {y : TxS} {us : List Bool} (h : GoodTx y us) (l : List Int) : GoodTx (y.free l).2 us := by
  refine ⟨h.clean.free l, h.like.trans (free_like y l), ?_⟩
  unfold TxS.free
  split
  · exact h.nc
  · split
    · exact h.nc
    · exact change_nc h.nc
theorem change_state (y : TxS) (vs : List Bool) (n : Nat) : (y.change vs n).stateE = y.stateE := by
  unfold TxS.change
  split
  · rfl
  · split <;> rfl
theorem take_state {y : TxS} {a n : Int} (h : (y.take a n).1 = 0) : (y.take a n).2.stateE = 0 := by
  unfold TxS.take at h ⊢
  by_cases h1 : y.stateE ≠ 0
  · rw [if_pos h1] at h; exact absurd h h1
  · rw [if_neg h1] at h ⊢
    by_cases h2 : y.takeE a n ≠ 0
    · rw [if_pos h2] at h; exact absurd h h2
    · rw [if_neg h2]
      show (y.change _ _).stateE = 0
      rw [change_state]; simpa using h1
theorem take_broken {y : TxS} {a n : Int} (hs : y.stateE = 0) (h : (y.take a n).1 ≠ 0) : (y.take a n).2.stateE = 9 := by
  unfold TxS.take at h ⊢
  rw [if_neg (by simpa using hs)] at h ⊢
  by_cases h2 : y.takeE a n ≠ 0
  · rw [if_pos h2]
    show (if (true || y.ended) = true then (9 : Int) else 0) = 9
    simp
  · rw [if_neg h2] at h; exact absurd rfl h
theorem free_state {y : TxS} {l : List Int} (h : (y.free l).1 = 0) : (y.free l).2.stateE = 0 := by
  unfold TxS.free at h ⊢
  by_cases h1 : y.stateE ≠ 0
  · rw [if_pos h1] at h; exact absurd h h1
  · rw [if_neg h1] at h ⊢
    by_cases h2 : y.freeE l ≠ 0
    · rw [if_pos h2] at h; exact absurd h h2
    · rw [if_neg h2]
      show (y.change _ _).stateE = 0
      rw [change_state]; simpa using h1
theorem bad9 {y : TxS} (h : y.stateE ≠ 0) : y.stateE = 9 := (stateE_vals y).resolve_left h
theorem good_now {w : World} {T : Nat} {F : List Nat} {D : Nat} {y : TxS} {us : List Bool} (h : TxAt w T F D y) (g : GoodTx y us) : y.now.length = 14 := by
  rw [h.ok.now, show y.s = 64 from g.like.s, show y.j = 8 from g.like.j, show y.i = 40 from g.like.i, rgB64]
theorem good_was {w : World} {T : Nat} {F : List Nat} {D : Nat} {y : TxS} {us : List Bool} (h : TxAt w T F D y) (g : GoodTx y us) : us.length = 14 := by
  have := h.ok.was
  rw [show y.was = us from g.like.was, show y.s = 64 from g.like.s, show y.j = 8 from g.like.j, show y.i = 40 from g.like.i, rgB64] at this
  exact this
/-- Blocks of one that is good. -/
theorem play_blocks {w0 w : World} {T : Nat} {F : List Nat} {D : Nat} {y : TxS} {B : List Nat} {x : DevS} {us : List Bool} (h : Play w0 w T F D y B x) (g : GoodTx y us) (hE : y.stateE = 0) :
    Calls Tryz.prog 76 #[.pointer (some ⟨T, 0, none⟩)] w fun e w' => ∃ A c, e = .returned (.tuple #[.agg #[.int .i64 64, .int .i64 8, .int .i64 40, .slice A 14 c], .int .i64 0]) ∧ w'.ownsRow w.heap.size 4 1 (.slice A 14 c) 14 (y.now.map .bool) ∧ Below w.heap.size w w' := by
  have hn := good_now h.td.tx g
  refine (blocks_tx T F D y w h.td.tx hE).mono ?_
  rintro e w' ⟨v, he, ho, hb⟩
  rw [hn] at ho
  rw [show y.s = 64 from g.like.s, show y.j = 8 from g.like.j, show y.i = 40 from g.like.i] at he
  obtain ⟨A, c, rfl⟩ := own_slice ho
  exact ⟨A, c, he, ho, hb⟩
end Go.Proofs.YtloddiipepiocaaGreatDoor
/- P10.9: words for the walk of TxnAtomic. -/
namespace Go.Proofs.YtloddiipepiocaaGreatDoor
open Go.RowKit Go.Maps

theorem GoodTx.write {y : TxS} {us : List Bool} (h : GoodTx y us) (a k : Int) (d : ByteArray) : GoodTx (y.write a k d).2 us := by
  refine ⟨h.clean.write _ _ _, h.like.trans (write_like _ _ _ _), ?_⟩
  unfold TxS.write
  split
  · exact h.nc
  · split
    · exact h.nc
    · exact h.nc
theorem GoodTx.step {y : TxS} {us : List Bool} (h : GoodTx y us) (a : StepV) : GoodTx (y.step a) us := by
  unfold TxS.step
  split
  · exact h.write _ _ _
  · split
    · exact h.take _ _
    · split
      · exact h.free _
      · exact h
/-- A device's operation beside a transaction. -/
theorem Play.dev {w0 w w' : World} {T D : Nat} {F B B' : List Nat} {y : TxS} {x x' : DevS} (h : Play w0 w T F D y B x) (hd : DevAt w' D B' x') (g : Grow w B w' B') : Play w0 w' T F D y B' x' ∧ Grow w (F ++ B) w' (F ++ B') := by
  have gg : Grow w (F ++ B) w' (F ++ B') := ⟨g.keep.widen fun k hk => List.mem_append_right _ hk, fun b hb => (List.mem_append.1 hb).elim (fun hb => .inl (List.mem_append_left _ hb)) (fun hb => (g.new b hb).imp (List.mem_append_right _) id)⟩
  exact ⟨h.keep ⟨h.td.tx.grow g h.td.dis, hd, fun b hb => g.notin (h.td.dis b hb) (h.td.tx.lt b hb).2⟩ gg, gg⟩
theorem play_limit {w0 w : World} {T D : Nat} {F B : List Nat} {y : TxS} {x : DevS} (h : Play w0 w T F D y B x) (n : Int) (hn : -1 ≤ n ∧ n ≤ 1000000000000) :
    Calls Tryz.prog 25 #[.pointer (some ⟨D, 0, none⟩), .int .i64 n] w fun e w' => e = .returned (.int .i64 0) ∧ Play w0 w' T F D y B (x.limit n) ∧ Grow w (F ++ B) w' (F ++ B) := by
  obtain ⟨S, c, M, cv, m, hD, -⟩ := h.td.dev.mem
  refine (limit_dev D B x w h.td.dev n hn).mono ?_
  rintro e w' ⟨he, rfl⟩
  have g : Grow w B (w.setCell ⟨D, 3, none⟩ (.int .i64 n)) B := ⟨KeepEx.setCell _ (.inl hD) _, fun b hb => .inl hb⟩
  exact ⟨he, h.dev (h.td.dev.limit hn) g⟩
theorem play_replay {w0 w : World} {T D : Nat} {F B : List Nat} {y : TxS} {x : DevS} (h : Play w0 w T F D y B x) :
    Calls Tryz.prog 34 #[.pointer (some ⟨D, 0, none⟩), .agg #[.int .i64 1, .int .i64 8]] w fun e w' => e = .returned (.tuple #[.int .i64 (x.replay 1 8).1, .int .i64 (x.replay 1 8).2.1]) ∧ ∃ B', Play w0 w' T F D y B' (x.replay 1 8).2.2 ∧ Grow w (F ++ B) w' (F ++ B') := by
  refine (replay_dev D 1 8 B x w h.td.dev).mono ?_
  rintro e w' ⟨he, B', hd, g⟩
  exact ⟨he, B', h.dev hd g⟩
theorem play_crash {w0 w : World} {T D : Nat} {F B : List Nat} {y : TxS} {x : DevS} (h : Play w0 w T F D y B x) (A : Option Addr) (ca : Nat) (keep : List Nat) (hk : KeepOk x keep) (hasc : keep.Pairwise (· < ·)) (hl : keep.length ≤ 1000) (hR : Reads w A (natsV keep)) (hAB : ∀ ad, A = some ad → ad.block ∉ B) :
    Calls Tryz.prog 31 #[.pointer (some ⟨D, 0, none⟩), .slice A keep.length ca] w fun e w' => e = .returned (.int .i64 0) ∧ ∃ B', Play w0 w' T F D y B' (x.crashed keep) ∧ Grow w (F ++ B) w' (F ++ B') := by
  refine (crash_dev D B x A ca keep hk hasc hl w h.td.dev hR hAB).mono ?_
  rintro e w' ⟨he, B', hd, g⟩
  exact ⟨he, B', h.dev hd g⟩

/-- A view that is held. -/
structure ViewAt (w : World) (G : List Nat) (X : Nat) (A : Option Addr) (c : Nat) (y : TxS) (x : DevS) : Prop where
  box : Blk w X 92 (viewA y.s y.j y.i A y.now.length c (seenK y x 64) (seenD y x 64))
  rd : Reads w A (y.now.map .bool)
  nb : X ∉ G
  na : ∀ a, A = some a → a.block ∉ G ∧ a.block < w.heap.size
section
variable {w w' : World} {G G' : List Nat} {X : Nat} {A : Option Addr} {c : Nat} {y : TxS} {x : DevS}
theorem ViewAt.grow (h : ViewAt w G X A c y x) (g : Grow w G w' G') : ViewAt w' G' X A c y x :=
  ⟨g.blk h.box h.nb, h.rd.growF g fun a e => (h.na a e).1, g.notin h.nb h.box.lt, fun a e => ⟨g.notin (h.na a e).1 (h.na a e).2, Nat.lt_of_lt_of_le (h.na a e).2 g.keep.size⟩⟩
theorem ViewAt.below (h : ViewAt w G X A c y x) (hb : Below w.heap.size w w') : ViewAt w' G X A c y x := h.grow (Grow.of_below hb G)
end

/-- What a new transaction finds in the end. -/
def FinV (us : List Bool) (y : TxS) (x : DevS) (E : Int) (wb : Bool) (u : DevS) : Prop :=
  (E ≠ 0 ∧ Live u 64 8 40 us 1000 ∧ Alike (begTx 64 8 40 us) u (begTx 64 8 40 us) x) ∨ (wb = true ∧ Live u 64 8 40 y.now 1000 ∧ Alike (begTx 64 8 40 y.now) u y x)
theorem After.mono {z : DevS} {p : Int} {N : Nat} {Fin Fin' : DevS → Prop} (h : After z p N Fin) (k : ∀ u : DevS, u.Runs N → u.stable.length = 64 → Fin u → Fin' u) : After z p N Fin' := fun k1 hk1 => by
  obtain ⟨h1, h2⟩ := h k1 hk1
  refine ⟨h1, fun k2 hk2 => ?_⟩
  obtain ⟨g1, g2, g3, g4⟩ := h2 k2 hk2
  exact ⟨g1, g2, g3, k _ g2 g3 g4⟩
theorem fin_old {x u : DevS} {us : List Bool} {q E p1 : Int} {N : Nat} (hx : Live x 64 8 40 us (N + 1000)) (hr : u.Runs N) (hu : u.stable.length = 64) (h : Fin64 (x.limit p1) q [] E u) :
    Live u 64 8 40 us N ∧ Alike (begTx 64 8 40 us) u (begTx 64 8 40 us) x := by
  obtain ⟨hh, h⟩ := h
  have hsz : (x.limit p1).stable.length = 64 := by have := hx.size; show x.stable.length = 64; omega
  have hs9 : ∀ b : Int, OutJ 1 8 64 b → sameFr x u b := fun b hb => by
    refine (limit_sameFr x p1 b).trans ?_
    rcases h with ⟨-, h⟩ | h
    · exact h b (by rw [hsz]; exact hb)
    · exact h.far b (by rw [hsz]; exact hb) (by simp)
  have h99 := hs9 9 ⟨by decide, by decide, by decide⟩
  obtain ⟨g1, q1, f1⟩ := hx.map_
  refine ⟨⟨hr, by rw [hu]; rfl, hh, ⟨h99.1.trans g1, q1, h99.2.trans f1⟩, hx.len⟩, rfl, fun i hi hi2 => ?_⟩
  rw [beg_read us u hi, beg_read us x hi]
  have := hs9 i ⟨by omega, by omega, by omega⟩
  rw [this.1, this.2]
  exact ⟨rfl, rfl⟩
theorem view_load {w : World} {X : Nat} {t : TypeId} {vw : Array Value} (b : Blk w X t vw) (hsz : vw.size = 132) : (Instr.loadAt 92 (.pointer (some ⟨X, 0, none⟩))).run Tryz.prog w = .ok (.agg vw) w := by
  simp only [Instr.loadAt, Instr.sureAddr, Sem.run_bind, Sem.run_pure, Result.andThen]
  exact run_loadVar_row w X t 92 vw (0, 0) _ b Tryz.underlying92 rfl (by rw [hsz]; exact infoView)

/-- What begun hands back. -/
def BegunR (w : World) (e : Ending) (w' : World) : Prop :=
  ∃ D T F B y, e = .returned (.tuple #[.pointer (some ⟨D, 0, none⟩), .pointer (some ⟨T, 0, none⟩)]) ∧ LiveR y (List.replicate 14 false) 1 1000000 ∧ Play w w' T F D yA B y

set_option maxRecDepth 100000 in
set_option maxHeartbeats 2000000 in
theorem begun10R_any (w : World) (hH : HalfAt w) : Calls Tryz.prog 27 #[] w (BegunR w) := by
  obtain ⟨y, hy, hF, hLR⟩ := fresh_rest
  obtain ⟨hb1, hb2, hb3⟩ := begin_fresh rg64 hF
  have hnew := new_dev 64 (by omega) w hH
  have hp0 := hH.1
  unfold BegunR
  go_enter Tryz.func27, Tryz.ntmps27
  go_wp2_with fail
  refine hnew.mono ?_
  rintro e w1 ⟨D, B0, rfl, hd1, hw1, hB0⟩
  clear hnew hH
  go_wp2_with fail
  refine (plain_any w1).mono ?_
  rintro e w2 ⟨rfl, hb12⟩
  have B2 := hw1.trans (hb12.mono hw1.size)
  have hd2 := hd1.below hb12
  clear hd1 hw1 hb12
  go_wp2_with fail
  refine (tformat_dev D 64 8 40 B0 (newDev 64) w2 hd2).mono ?_
  rintro e w3 ⟨rfl, B, hd3, g3⟩
  rw [hy] at hd3 ⊢
  have B3 : Below w.heap.size w w3 := B2.trans (g3.below B2.size hB0)
  have hBB := g3.lo B2.size hB0
  have Hb1 := Lib.hid hb1
  have Hb2 := Lib.hid hb2
  have HF := Lib.hid hLR
  clear hy hb1 hb2 hF hLR hd2 g3 B2 hB0
  go_wp2_with fail
  refine (plain_any w3).mono ?_
  rintro e w4 ⟨rfl, hb4⟩
  have B4 := B3.trans (hb4.mono B3.size)
  have hd4 := hd3.below hb4
  clear hd3 B3 hb4
  go_wp2_with fail
  refine (begin_dev D 64 8 40 B y w4 hd4 hb3).mono ?_
  rintro e w5 ⟨hb5, E, hE, ⟨h5, -⟩ | ⟨-, T, F, rfl, ht, hFF⟩⟩
  · exact absurd ((Hb1.out E).1 hE) h5
  rw [Hb2.out] at ht
  have B5 := B4.trans (hb5.mono B4.size)
  have hd5 := hd4.below hb5
  have hlt := hd4.lt
  clear hb5 hE
  go_wp2_with fail
  go_ret2
  exact ⟨D, T, F, B, y, rfl, HF.out, ⟨⟨ht, hd5, fun b hb hm => by have := hFF b hb; have := (hlt b hm).2; omega⟩, B5, fun b hb => by have := hFF b hb; have := B4.size; omega, hBB⟩⟩
end Go.Proofs.YtloddiipepiocaaGreatDoor
