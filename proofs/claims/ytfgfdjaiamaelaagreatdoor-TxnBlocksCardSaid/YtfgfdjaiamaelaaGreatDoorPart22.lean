/- Parts of the proof, put together by program: G6, G7, G8, A5. -/
import Derived.Test.YtfgfdjaiamaelaaGreatDoorPart20
import Derived.Test.YtfgfdjaiamaelaaGreatDoorPart21
import Derived.Test.YtfgfdjaiamaelaaGreatDoorPart02
/- Layer 10: Format. -/
namespace Go.Proofs.YtfgfdjaiamaelaaGreatDoor
open Go.RowKit Go.Maps

theorem findE_zero {n s j i : Int} (h : findE n s j i = 0) : rgE s j i = 0 ∧ n = s := by
  unfold findE at h
  by_cases h1 : rgE s j i = 0
  · rw [if_neg (by simpa using h1)] at h
    split at h
    · omega
    · split at h
      · omega
      · exact ⟨h1, by omega⟩
  · rw [if_pos h1] at h; exact absurd h h1
def freeRec (s j i : Int) : Rec := ⟨1 + j, 5, mapS (List.replicate (rgB s j i).toNat false)⟩
def DevS.tfmt (x : DevS) (s j i : Int) : Int × DevS :=
  if findE x.stable.length s j i ≠ 0 then (findE x.stable.length s j i, x) else if (x.jfmt 1 j).1 ≠ 0 then x.jfmt 1 j else (x.jfmt 1 j).2.commit 1 j [freeRec s j i]
theorem ckE_rgB {s j i : Int} (h : rgE s j i = 0) : CkE s j i (rgB s j i).toNat = 0 := by
  unfold CkE
  have := rgB_bds s j i
  rw [if_pos h, if_pos (by omega)]

set_option maxRecDepth 100000 in
set_option maxHeartbeats 2000000 in
theorem tformat_dev (D : Nat) (s j i : Int) (B : List Nat) (x : DevS) (w : World) (h : DevAt w D B x) :
    Calls Tryz.prog 28 #[.pointer (some ⟨D, 0, none⟩), .agg #[.int .i64 s, .int .i64 j, .int .i64 i]] w (DevDid w D B (x.tfmt s j i)) := by
  obtain ⟨wA, hA⟩ : ∃ wA, wA = w.alloc (.cells #[.int .i64 s, .int .i64 j, .int .i64 i] 45) := ⟨_, rfl⟩
  have bL : Blk wA w.heap.size 45 #[.int .i64 s, .int .i64 j, .int .i64 i] := by rw [hA]; exact (by (repeat' (first | (with_reducible assumption) | exact Blk.new' (by simp) | refine Blk.alloc ?_ _)))
  have BA : Below w.heap.size w wA := by rw [hA]; (repeat' (first | (with_reducible exact Below.refl _ _) | (with_reducible assumption) | (with_reducible refine Below.alloc ?_ ?_ _) | (with_reducible refine Below.drew ?_) | (with_reducible refine below_drewN' ?_ _) | (with_reducible refine Below.setCell ?_ ?_ _) | (with_reducible exact Nat.le_refl _) | omega | (simp; done) | (simp; omega)))
  have hfi := find_dev D s j i B x wA (h.below BA)
  have HT := show x.tfmt s j i = if findE x.stable.length s j i ≠ 0 then (findE x.stable.length s j i, x) else if (x.jfmt 1 j).1 ≠ 0 then x.jfmt 1 j else (x.jfmt 1 j).2.commit 1 j [freeRec s j i] from rfl
  have HT0 := Lib.hid HT
  have cL := bL.cells
  have lL := bL.lt
  clear HT
  unfold DevDid
  by_cases hE : findE x.stable.length s j i = 0
  rotate_left
  · have HL : Hid (x.tfmt s j i = (findE x.stable.length s j i, x)) := Lib.hid (by rw [HT0.out, if_pos hE])
    have hv : findV D x.stable.length s j i = PV none 0 0 0 0 0 0 0 0 := by unfold findV; rw [if_neg hE]; rfl
    rw [hv] at hfi
    generalize findE x.stable.length s j i = E at *
    have hE' : (E != 0) = true := by simpa using hE
    clear hE hv HT0
    go_enter Tryz.func28, Tryz.ntmps28
    go_wp2_with fail
    rw [← hA]
    go_wp2_with fail
    refine hfi.mono ?_
    rintro e w1 ⟨rfl, hb1⟩
    have B1 := BA.trans (hb1.mono BA.size)
    clear hA
    go_wp2_with fail
    go_ret
    exact ⟨by rw [HL.out]; rfl, B, by rw [HL.out]; exact (h.below B1).alloc _, Grow.of_below (B1.alloc B1.size _) B⟩
  obtain ⟨hrg, hns⟩ := findE_zero hE
  have hbd := rg_bds hrg
  obtain ⟨r1, r2, r3, r4, r5⟩ := rg_ok hrg
  have hv : findV D x.stable.length s j i = PV (some ⟨D, 0, none⟩) s j i 1 (1 + j) (2 + j) (2 + j + i) (s - (2 + j + i)) := by unfold findV placeR; rw [if_pos hE, r1, r2, r3, r4, r5]; rfl
  rw [hv, hE] at hfi
  have hck := ckE_rgB hrg
  have hnew := fun W => new_any s j i W
  have HT1 : Hid (x.tfmt s j i = if (x.jfmt 1 j).1 ≠ 0 then x.jfmt 1 j else (x.jfmt 1 j).2.commit 1 j [freeRec s j i]) := Lib.hid (by rw [HT0.out, if_neg (by rw [hE]; simp)])
  obtain ⟨nb, hnb⟩ : ∃ nb, (rgB s j i).toNat = nb := ⟨_, rfl⟩
  have hnb2 : (nb : Int) = s - (2 + j + i) := by omega
  have HFR : Hid (freeRec s j i = ⟨1 + j, 5, mapS (List.replicate nb false)⟩) := Lib.hid (by unfold freeRec; rw [hnb])
  rw [hnb] at hck
  have HNB := Lib.hid hnb
  have HCK := Lib.hid hck
  have HRG := Lib.hid hrg
  clear hE hv HT0 r1 r2 r3 r4 r5 hrg hnb hck
  go_enter Tryz.func28, Tryz.ntmps28
  go_wp2_with fail
  rw [← hA]
  go_wp2_with fail
  refine hfi.mono ?_
  rintro e w1 ⟨rfl, hb1⟩
  have B1 := BA.trans (hb1.mono BA.size)
  have bL1 := bL.belowAll hb1
  clear hA hb1 cL lL bL BA hfi
  obtain ⟨PB, hPB⟩ : ∃ PB, PB = w1.heap.size := ⟨_, rfl⟩
  obtain ⟨w2, hw2⟩ : ∃ w2, w2 = w1.alloc (.cells (PV (some ⟨D, 0, none⟩) s j i 1 (1 + j) (2 + j) (2 + j + i) (s - (2 + j + i))) 100) := ⟨_, rfl⟩
  have bP2 : Blk w2 PB 100 (PV (some ⟨D, 0, none⟩) s j i 1 (1 + j) (2 + j) (2 + j + i) (s - (2 + j + i))) := by rw [hw2, hPB]; exact Blk.new _ _ _
  have bL2 : Blk w2 w.heap.size 45 #[.int .i64 s, .int .i64 j, .int .i64 i] := by rw [hw2]; exact bL1.alloc _
  have B2 : Below w.heap.size w w2 := by rw [hw2]; exact B1.alloc B1.size _
  have hPB2 : w.heap.size ≤ PB := by rw [hPB]; exact B1.size
  go_wp2_with fail
  rw [← hw2, ← hPB]
  clear hw2 hPB bL1 B1
  refine (tjournal_any PB _ _ j 1 w2 bP2 rfl rfl).mono ?_
  rintro e w3 ⟨rfl, hb3⟩
  have bP3 := bP2.belowAll hb3
  have bL3 := bL2.belowAll hb3
  have B3 := B2.trans (hb3.mono B2.size)
  clear bP2 bL2 B2 hb3
  go_wp2_with fail
  refine (jformat_any D 1 j B x w3 (h.below B3)).mono ?_
  unfold DevDid
  rintro e w4 ⟨rfl, B4, hd4, hg4⟩
  obtain ⟨p, hp⟩ : ∃ p, x.jfmt 1 j = p := ⟨_, rfl⟩
  rw [hp] at hd4 HT1 ⊢
  have nP : PB ∉ B := h.far hPB2
  have nL : w.heap.size ∉ B := h.far (Nat.le_refl _)
  have bP4 := hg4.blk bP3 nP
  have bL4 := hg4.blk bL3 nL
  have gw4 := (Grow.of_below B3 B).trans hg4
  have nP4 := hg4.notin nP bP3.lt
  have nL4 := hg4.notin nL bL3.lt
  clear hp bP3 bL3 nP nL hg4 B3
  by_cases hE : p.1 = 0
  rotate_left
  · have HL : Hid (x.tfmt s j i = p) := Lib.hid (by rw [HT1.out, if_pos hE])
    have hE' : (p.1 != 0) = true := by simpa using hE
    clear hE HT1
    go_wp2_with fail
    go_ret
    exact ⟨by rw [HL.out]; rfl, B4, by rw [HL.out]; exact hd4, gw4⟩
  have HL : Hid (x.tfmt s j i = p.2.commit 1 j [⟨1 + j, 5, mapS (List.replicate nb false)⟩]) := Lib.hid (by rw [HT1.out, if_neg (by rw [hE]; simp), HFR.out])
  have hE' : (p.1 != 0) = false := by simpa using hE
  clear hE HT1 HFR
  have cL4 := bL4.cells
  have lL4 := bL4.lt
  go_wp2_with fail
  refine (hnew w4).mono ?_
  rintro e w5 ⟨hb5, he⟩
  obtain ⟨-, us, rfl, hus, hcells⟩ := he.resolve_left (fun hh => hh.1 HRG.out)
  rw [HNB.out] at hcells ⊢
  obtain ⟨SB, hSB⟩ : ∃ SB, SB = w5.heap.size := ⟨_, rfl⟩
  obtain ⟨w6, hw6⟩ : ∃ w6, w6 = w5.alloc (.cells #[.int .i64 s, .int .i64 j, .int .i64 i, .slice (some ⟨us, 0, none⟩) nb nb] 69) := ⟨_, rfl⟩
  have bS6 : Blk w6 SB 69 #[.int .i64 s, .int .i64 j, .int .i64 i, .slice (some ⟨us, 0, none⟩) nb nb] := by rw [hw6, hSB]; exact Blk.new _ _ _
  have B56 : Below w5.heap.size w5 w6 := by rw [hw6]; exact (Below.refl _ _).alloc (Nat.le_refl _) _
  have z45 := hb5.size
  have B46 : Below w4.heap.size w4 w6 := hb5.trans (B56.mono z45)
  have bP6 := bP4.belowAll B46
  have hR6 : Reads w6 (some ⟨us, 0, none⟩) ((List.replicate nb false).map .bool) := by
    have b : Blk w5 us 4 (boolsV (List.replicate nb false)) := by rw [boolsV_rep]; exact hcells
    refine Reads.below (.inr ⟨us, 0, rfl, b.lt, fun k u hu => ?_⟩) B56
    rw [Nat.zero_add, b.cells]
    show (((List.replicate nb false).map Value.bool).toArray)[k]? = some u
    rw [List.getElem?_toArray]; exact hu
  have hd6 := hd4.below B46
  have hSBl : w4.heap.size ≤ SB := by rw [hSB]; exact z45
  have nS6 : SB ∉ B4 := hd4.far hSBl
  go_wp2_with fail
  rw [← hw6, ← hSB]
  clear hw6 hSB hcells B56 hb5 z45 cL4 lL4 bP4
  have hS0 : w6.cell? ⟨SB, 0, none⟩ = some (.int .i64 s) ∧ w6.cell? ⟨SB, 1, none⟩ = some (.int .i64 j) ∧ w6.cell? ⟨SB, 2, none⟩ = some (.int .i64 i) ∧ w6.cell? ⟨SB, 3, none⟩ = some (.slice (some ⟨us, 0, none⟩) nb nb) := ⟨by rw [bS6.cells]; rfl, by rw [bS6.cells]; rfl, by rw [bS6.cells]; rfl, by rw [bS6.cells]; rfl⟩
  have hSk : ∀ W, Blk W SB 69 #[.int .i64 s, .int .i64 j, .int .i64 i, .slice (some ⟨us, 0, none⟩) nb nb] → W.cell? ⟨SB, 0, none⟩ = some (.int .i64 s) ∧ W.cell? ⟨SB, 1, none⟩ = some (.int .i64 j) ∧ W.cell? ⟨SB, 2, none⟩ = some (.int .i64 i) ∧ W.cell? ⟨SB, 3, none⟩ = some (.slice (some ⟨us, 0, none⟩) nb nb) := fun W b => ⟨by rw [b.cells]; rfl, by rw [b.cells]; rfl, by rw [b.cells]; rfl, by rw [b.cells]; rfl⟩
  refine wp_region_mix [.take 0, .take 2, .one 1, .one 3, .one 4, .one 5, .one 6] 7 (fun w' => w'.cell? ⟨SB, 0, none⟩ = some (.int .i64 s) ∧ w'.cell? ⟨SB, 1, none⟩ = some (.int .i64 j) ∧ w'.cell? ⟨SB, 2, none⟩ = some (.int .i64 i) ∧ w'.cell? ⟨SB, 3, none⟩ = some (.slice (some ⟨us, 0, none⟩) nb nb)) (by kernel_rfl) (by kernel_rfl) (fun _ _ _ _ _ h => h) hS0 ?_
  simp only [List.map_cons, List.map_nil, Ms.fill, List.getD_cons_zero, List.getD_cons_succ]
  iterate 2 (refine mixT_take (by rfl) ?_ (fun w' hw' => ?_) ?_; rotate_left; (focus (go_simp; (try with_reducible rfl))); (try simp only [Act.put, List.setIfInBounds_toArray, List.set_cons_zero, List.set_cons_succ]))
  refine mixT_step (by rfl) fun K hK => ?_
  go_simp
  refine (tjournal_any PB _ _ j 1 w6.drew bP6.drew rfl rfl).mono ?_
  rintro e w7 ⟨rfl, hb7⟩
  have B67 : Below w6.heap.size w6 w7 := (Below.refl _ _).drew.trans hb7
  have bP7 := bP6.belowAll B67
  have bS7 := bS6.belowAll B67
  have hR7 := hR6.below B67
  have B47 : Below w4.heap.size w4 w7 := B46.trans (B67.mono B46.size)
  refine hK _ _ (fun _ => hSk _ bS7) ?_
  clear hK K hb7 B67 bP6 bS6 hR6 B46 hS0 hd6
  refine mixT_step (by rfl) fun K hK => ?_
  go_simp
  have hbm := bitmap_any PB _ _ (1 + j) s j i (some ⟨us, 0, none⟩) nb (List.replicate nb false) (by rw [List.length_replicate]; omega) (by rw [List.length_replicate]; exact HCK.out) w7 bP7 rfl hR7
  rw [List.length_replicate] at hbm
  refine hbm.mono ?_
  rintro e w8 ⟨rfl, hb8⟩
  have bS8 := bS7.belowAll hb8
  have B48 : Below w4.heap.size w4 w8 := B47.trans (hb8.mono B47.size)
  refine hK _ _ (fun _ => hSk _ bS8) ?_
  clear hK K hbm hb8 bP7 bS7 hR7 B47
  have hms := mapS_size (List.replicate nb false)
  generalize mapS (List.replicate nb false) = ms at *
  obtain ⟨w9, hw9⟩ : ∃ w9, w9 = w8.alloc (.cells #[.int .i64 (1 + j), .int .i64 5, .string ms] 40) := ⟨_, rfl⟩
  have bN9 : Blk w9 w8.heap.size 40 #[.int .i64 (1 + j), .int .i64 5, .string ms] := by rw [hw9]; exact Blk.new _ _ _
  have B89 : Below w8.heap.size w8 w9 := by rw [hw9]; exact (Below.refl _ _).alloc (Nat.le_refl _) _
  have bS9 := bS8.belowAll B89
  have B49 : Below w4.heap.size w4 w9 := B48.trans (B89.mono B48.size)
  refine mixT_step (by rfl) fun K hK => ?_
  go_simp
  rw [← hw9]
  refine hK _ _ (fun _ => hSk _ bS9) ?_
  have z8 := B48.size
  clear hK K hw9 bS8 B89 B48
  have hcm := commit_dev D 1 j B4 p.2 (some ⟨w8.heap.size, 0, none⟩) 1 [⟨1 + j, 5, ms⟩] ⟨by simp, fun r hr => by
    have e : r = ⟨1 + j, 5, ms⟩ := by simpa using hr
    subst e
    exact ⟨by simp only; omega, by simp only [maxLen]; omega⟩⟩ w9 (hd4.below B49) (.inr ⟨w8.heap.size, 0, rfl, bN9.lt, fun k u hu => by
      rw [Nat.zero_add, bN9.cells]
      simpa [recV] using hu⟩) (fun ad e => by cases e; exact hd4.far z8)
  unfold DevDid at hcm
  refine mixT_step (by rfl) fun K hK => ?_
  go_simp
  refine hcm.mono ?_
  rintro e w10 ⟨rfl, B10, hd10, hg10⟩
  have bS10 := hg10.blk bS9 nS6
  refine hK _ _ (fun _ => hSk _ bS10) ?_
  clear hK K hcm
  refine mixT_step (by rfl) fun K hK => ?_
  go_simp
  refine hK _ _ (fun _ => hSk _ bS10) ?_
  clear hK K
  refine mixT_nil ?_
  go_wp2_with fail
  go_ret
  rw [HL.out]
  exact ⟨rfl, B10, hd10, (gw4.trans (Grow.of_below B49 B4)).trans hg10⟩

end Go.Proofs.YtfgfdjaiamaelaaGreatDoor
/- Layer 10: a transaction in plain words, and the blocks that hold it; its state, and what is left. -/
namespace Go.Proofs.YtfgfdjaiamaelaaGreatDoor
open Go.RowKit Go.Maps

/-- A transaction's state in plain words. -/
structure TxS where
  s : Int
  j : Int
  i : Int
  was : List Bool
  now : List Bool
  writes : List Rec
  changed : Bool
  broken : Bool
  ended : Bool

def TxS.most (y : TxS) : Int := min (y.j - 2) 80
def TxS.left (y : TxS) : Int := y.most - y.writes.length - (if y.changed then 1 else 0)
def TxS.stateE (y : TxS) : Int := if y.broken || y.ended then 9 else 0
structure TxS.Ok (y : TxS) : Prop where
  rg : rgE y.s y.j y.i = 0
  was : y.was.length = (rgB y.s y.j y.i).toNat
  now : y.now.length = (rgB y.s y.j y.i).toNat
  recs : ∀ r ∈ y.writes, 0 ≤ r.at_ ∧ r.at_ < y.s ∧ 1 ≤ r.kind ∧ r.kind ≤ 255 ∧ r.data.data.size ≤ 112
  len : 0 ≤ y.left

abbrev txC (D : Nat) (s j i : Int) (wv nv : Value) (M : Nat) (ch br en : Bool) : Array Value :=
  #[.pointer (some ⟨D, 0, none⟩), .int .i64 s, .int .i64 j, .int .i64 i, .int .i64 1, .int .i64 (1 + j), .int .i64 (2 + j), .int .i64 (2 + j + i), .int .i64 (s - (2 + j + i)), .int .i64 s, .int .i64 j, .int .i64 i, wv, .int .i64 s, .int .i64 j, .int .i64 i, nv, .map (some M), .bool ch, .bool br, .bool en]

/-- A slice that reads as a list of bits, in a block of F other than T and M. -/
def SlB (w : World) (F : List Nat) (T M : Nat) (v : Value) (l : List Bool) : Prop :=
  ∃ A c, v = .slice A l.length c ∧ Reads w A (l.map .bool) ∧ ∀ a, A = some a → a.block ∈ F ∧ a.block ≠ T ∧ a.block ≠ M
theorem SlB.mono {w : World} {F F' : List Nat} {T M : Nat} {v : Value} {l : List Bool} (h : SlB w F T M v l) (hF : ∀ b ∈ F, b ∈ F') : SlB w F' T M v l := by
  obtain ⟨A, c, h1, h2, h3⟩ := h
  exact ⟨A, c, h1, h2, fun a ha => ⟨hF _ (h3 a ha).1, (h3 a ha).2⟩⟩

/-- The records that a map block holds. -/
def RecsAt (w : World) (M : Nat) (l : List Rec) : Prop := ∃ E, RecMap E l ∧ w.ownsMap Tryz.prog 3 recR M l.length E

/-- Block T holds a transaction on the device in block D; it lies in the blocks of F. -/
structure TxAt (w : World) (T : Nat) (F : List Nat) (D : Nat) (y : TxS) : Prop where
  ok : y.Ok
  mem : ∃ M wv nv, Blk w T 103 (txC D y.s y.j y.i wv nv M y.changed y.broken y.ended) ∧ T ∈ F ∧ M ∈ F ∧ M ≠ T ∧ RecsAt w M y.writes ∧ SlB w F T M wv y.was ∧ SlB w F T M nv y.now
  lt : ∀ b ∈ F, 0 < b ∧ b < w.heap.size

theorem TxAt.frame {w w' : World} {T : Nat} {F : List Nat} {D : Nat} {y : TxS} (h : TxAt w T F D y) (hb : ∀ b ∈ F, w'.heap[b]? = w.heap[b]?) (hs : w.heap.size ≤ w'.heap.size) : TxAt w' T F D y := by
  obtain ⟨ok, ⟨M, wv, nv, bT, hT, hM, hMT, ⟨E, hE, hO⟩, hw, hn⟩, lt⟩ := h
  have sl : ∀ v l, SlB w F T M v l → SlB w' F T M v l := by
    rintro v l ⟨A, c, h1, h2, h3⟩
    refine ⟨A, c, h1, ?_, h3⟩
    rcases h2 with h2 | ⟨b, off, rfl, hl, hc⟩
    · exact .inl h2
    · have hbF := (h3 _ rfl).1
      exact .inr ⟨b, off, rfl, Nat.lt_of_lt_of_le hl hs, fun k u hu => (World.cell?_of_block (w := w) (a := ⟨b, off + k, none⟩) (hb b hbF)).trans (hc k u hu)⟩
  exact ⟨ok, ⟨M, wv, nv, (hb T hT).trans bT, hT, hM, hMT, ⟨E, hE, map_block hO (hb M hM)⟩, sl _ _ hw, sl _ _ hn⟩, fun b hm => ⟨(lt b hm).1, Nat.lt_of_lt_of_le (lt b hm).2 hs⟩⟩
theorem TxAt.below {w w' : World} {T : Nat} {F : List Nat} {D : Nat} {y : TxS} (h : TxAt w T F D y) (hb : Below w.heap.size w w') : TxAt w' T F D y :=
  h.frame (fun b hm => hb.block b (h.lt b hm).2) hb.size
theorem TxAt.alloc {w : World} {T : Nat} {F : List Nat} {D : Nat} {y : TxS} (h : TxAt w T F D y) (o : Obj) : TxAt (w.alloc o) T F D y := h.below ((Below.refl _ _).alloc (Nat.le_refl _) _)
theorem TxAt.drew {w : World} {T : Nat} {F : List Nat} {D : Nat} {y : TxS} (h : TxAt w T F D y) : TxAt w.drew T F D y := h.below (Below.refl _ _).drew
theorem TxAt.set_ {w : World} {T : Nat} {F : List Nat} {D : Nat} {y : TxS} (h : TxAt w T F D y) {p : Addr} (hp : p.block ∉ F) (u : Value) : TxAt (w.setCell p u) T F D y :=
  h.frame (fun b hm => Below.heap_setCell w p u b (fun e => by subst e; exact hp hm)) (by simp)
theorem TxAt.row {w : World} {T : Nat} {F : List Nat} {D : Nat} {y : TxS} (h : TxAt w T F D y) {g : Nat} (hp : g ∉ F) (cs : Array Value) : TxAt (w.setRow g cs) T F D y :=
  h.frame (fun b hm => setRow_other w g b cs (fun e => by subst e; exact hp hm)) (by simp)
theorem TxAt.far {w : World} {T : Nat} {F : List Nat} {D : Nat} {y : TxS} (h : TxAt w T F D y) {g : Nat} (hg : w.heap.size ≤ g) : g ∉ F := fun hm => by have := (h.lt g hm).2; omega
theorem TxAt.grow {w w' : World} {T : Nat} {F B B' : List Nat} {D : Nat} {y : TxS} (h : TxAt w T F D y) (g : Grow w B w' B') (hn : ∀ b ∈ F, b ∉ B) : TxAt w' T F D y :=
  h.frame (fun b hm => g.keep.block b (h.lt b hm).2 (hn b hm)) g.keep.size
theorem DevAt.grow {w w' : World} {D : Nat} {B F F' : List Nat} {x : DevS} (h : DevAt w D B x) (g : Grow w F w' F') (hn : ∀ b ∈ F, b ∉ B) (h0 : 0 ∉ F) : DevAt w' D B x :=
  h.frame (fun b hm => g.keep.block b (by rcases hm with hm | rfl; exact (h.lt b hm).2; exact h.half.1) (fun hf => by rcases hm with hm | rfl; exact hn b hf hm; exact h0 hf)) g.keep.size

/-- What state says. -/
def StE (w : World) (tv : Value) (E : Int) : Prop :=
  (tv = .pointer none ∧ E = 1) ∨ (∃ T cs, tv = .pointer (some ⟨T, 0, none⟩) ∧ Blk w T 103 cs ∧ ((E = 1 ∧ cs[17]? = some (.map none)) ∨ (∃ M br en, cs[17]? = some (.map (some M)) ∧ cs[19]? = some (.bool br) ∧ cs[20]? = some (.bool en) ∧ E = if br || en then 9 else 0)))
theorem TxAt.st {w : World} {T : Nat} {F : List Nat} {D : Nat} {y : TxS} (h : TxAt w T F D y) : StE w (.pointer (some ⟨T, 0, none⟩)) y.stateE := by
  obtain ⟨ok, ⟨M, wv, nv, bT, -⟩, lt⟩ := h
  exact .inr ⟨T, _, rfl, bT, .inr ⟨M, y.broken, y.ended, rfl, rfl, rfl, rfl⟩⟩

theorem StE.below {w w' : World} {tv : Value} {E : Int} (h : StE w tv E) (hb : Below w.heap.size w w') : StE w' tv E := by
  rcases h with h | ⟨T, cs, h1, bT, h⟩
  · exact .inl h
  · exact .inr ⟨T, cs, h1, bT.belowAll hb, h⟩

set_option maxRecDepth 100000 in
set_option maxHeartbeats 1000000 in
theorem state_any (tv : Value) (E : Int) (w : World) (h : StE w tv E) :
    Calls Tryz.prog 38 #[tv] w fun e w' => e = .returned (.int .i64 E) ∧ Below w.heap.size w w' := by
  have qT : ∀ (w : World) (r : Option Nat), (binOp .eql 101 (.map r) (.map none)).run Tryz.prog w = .ok (.bool r.isNone) w := fun w r => run_eql_map_nil w _ _ _ r Tryz.underlying101
  rcases h with ⟨rfl, rfl⟩ | ⟨T, cs, rfl, bT, h⟩
  · go_enter Tryz.func38, Tryz.ntmps38
    go_wp2_with fail
    go_ret
    exact ⟨rfl, by (repeat' (first | (with_reducible exact Below.refl _ _) | (with_reducible assumption) | (with_reducible refine Below.alloc ?_ ?_ _) | (with_reducible refine Below.drew ?_) | (with_reducible refine below_drewN' ?_ _) | (with_reducible refine Below.setCell ?_ ?_ _) | (with_reducible exact Nat.le_refl _) | omega | (simp; done) | (simp; omega)))⟩
  · have cT := bT.cells
    have lT := bT.lt
    rcases h with ⟨rfl, h17⟩ | ⟨M, br, en, h17, h19, h20, rfl⟩
    · have c17 : w.cell? ⟨T, 17, none⟩ = some (.map none) := (cT 17).trans h17
      clear cT h17 bT
      go_enter Tryz.func38, Tryz.ntmps38
      go_wp2_with fail
      go_ret
      exact ⟨rfl, by (repeat' (first | (with_reducible exact Below.refl _ _) | (with_reducible assumption) | (with_reducible refine Below.alloc ?_ ?_ _) | (with_reducible refine Below.drew ?_) | (with_reducible refine below_drewN' ?_ _) | (with_reducible refine Below.setCell ?_ ?_ _) | (with_reducible exact Nat.le_refl _) | omega | (simp; done) | (simp; omega)))⟩
    · have c17 : w.cell? ⟨T, 17, none⟩ = some (.map (some M)) := (cT 17).trans h17
      have c19 : w.cell? ⟨T, 19, none⟩ = some (.bool br) := (cT 19).trans h19
      have c20 : w.cell? ⟨T, 20, none⟩ = some (.bool en) := (cT 20).trans h20
      clear cT h17 h19 h20 bT
      cases br <;> cases en
      all_goals
        go_enter Tryz.func38, Tryz.ntmps38
        go_wp2_with fail
        go_ret
        exact ⟨rfl, by (repeat' (first | (with_reducible exact Below.refl _ _) | (with_reducible assumption) | (with_reducible refine Below.alloc ?_ ?_ _) | (with_reducible refine Below.drew ?_) | (with_reducible refine below_drewN' ?_ _) | (with_reducible refine Below.setCell ?_ ?_ _) | (with_reducible exact Nat.le_refl _) | omega | (simp; done) | (simp; omega)))⟩

end Go.Proofs.YtfgfdjaiamaelaaGreatDoor
/- Layer 10: what is left; the blocks. -/
namespace Go.Proofs.YtfgfdjaiamaelaaGreatDoor
open Go.RowKit Go.Maps

theorem TxS.Ok.bds {y : TxS} (h : y.Ok) : 64 ≤ y.s ∧ y.s ≤ 256 ∧ 8 ≤ y.j ∧ y.j ≤ 96 ∧ 1 ≤ y.i ∧ y.i ≤ 60 ∧ 8 ≤ y.s - (2 + y.j + y.i) ∧ (y.was.length : Int) = y.s - (2 + y.j + y.i) ∧ (y.now.length : Int) = y.s - (2 + y.j + y.i) := by
  have h1 := rg_bds h.rg
  have h2 : rgB y.s y.j y.i = y.s - (2 + y.j + y.i) := (rg_ok h.rg).2.2.2.2
  have h3 := h.was
  have h4 := h.now
  omega
theorem TxS.Ok.left_bds {y : TxS} (h : y.Ok) : 0 ≤ y.left ∧ y.left ≤ 80 ∧ (y.writes.length : Int) ≤ 80 := by
  have h1 := h.len
  have h2 := h.bds
  have e : y.left = min (y.j - 2) 80 - y.writes.length - (if y.changed then 1 else 0) := rfl
  cases hc : y.changed
  · rw [hc, if_neg (by simp)] at e; omega
  · rw [hc, if_pos rfl] at e; omega

set_option maxRecDepth 100000 in
set_option maxHeartbeats 1000000 in
theorem left_any (T : Nat) (F : List Nat) (D : Nat) (y : TxS) (w : World) (h : TxAt w T F D y) :
    Calls Tryz.prog 46 #[.pointer (some ⟨T, 0, none⟩)] w fun e w' => e = .returned (.int .i64 y.left) ∧ Below w.heap.size w w' := by
  have hb := h.ok.bds
  have hl := h.ok.left_bds
  have hlf : y.left = min (y.j - 2) 80 - y.writes.length - (if y.changed then 1 else 0) := rfl
  obtain ⟨ok, ⟨M, wv, nv, bT, hT, hM, hMT, ⟨E, hE, hO⟩, hw, hn⟩, lt⟩ := h
  have cT := bT.cells
  have lT := bT.lt
  have c2 : w.cell? ⟨T, 2, none⟩ = some (.int .i64 y.j) := (cT 2).trans rfl
  have c17 : w.cell? ⟨T, 17, none⟩ = some (.map (some M)) := (cT 17).trans rfl
  have c18 : w.cell? ⟨T, 18, none⟩ = some (.bool y.changed) := (cT 18).trans rfl
  have hln := fun (n : Nat) ty => World.ownsMap.len (w := w.drewN n) (map_block hO (by simp)) Tryz.underlying101 ty
  have hszE := hE.size_
  simp only [hszE] at hln
  clear cT bT ok hw hn hE hszE hO
  have hj1 : IntKind.i64.wrap (y.j - 2) = y.j - 2 := by rw [IntKind.wrap_i64]; omega
  generalize hm : min (y.j - 2) 80 = m at *
  go_enter Tryz.func46, Tryz.ntmps46
  go_wp2_with fail
  have hj2 : IntKind.i64.wrap (m - y.writes.length) = m - y.writes.length := by rw [IntKind.wrap_i64]; omega
  go_quiet (fail)
  cases hch : y.changed
  · rw [hch] at c18 hlf
    rw [if_neg (by simp)] at hlf
    go_wp2_with fail
    go_ret
    exact ⟨by rw [hlf, Int.sub_zero]; rfl, by (repeat' (first | (with_reducible exact Below.refl _ _) | (with_reducible assumption) | (with_reducible refine Below.alloc ?_ ?_ _) | (with_reducible refine Below.drew ?_) | (with_reducible refine below_drewN' ?_ _) | (with_reducible refine Below.setCell ?_ ?_ _) | (with_reducible exact Nat.le_refl _) | omega | (simp; done) | (simp; omega)))⟩
  · rw [hch] at c18 hlf
    rw [if_pos rfl] at hlf
    have hj3 : IntKind.i64.wrap (m - y.writes.length - 1) = m - y.writes.length - 1 := by rw [IntKind.wrap_i64]; omega
    go_wp2_with fail
    go_ret
    exact ⟨by rw [hlf]; rfl, by (repeat' (first | (with_reducible exact Below.refl _ _) | (with_reducible assumption) | (with_reducible refine Below.alloc ?_ ?_ _) | (with_reducible refine Below.drew ?_) | (with_reducible refine below_drewN' ?_ _) | (with_reducible refine Below.setCell ?_ ?_ _) | (with_reducible exact Nat.le_refl _) | omega | (simp; done) | (simp; omega)))⟩

end Go.Proofs.YtfgfdjaiamaelaaGreatDoor
/- slices.Clone over a slice of bools; set, with. -/
namespace Go.Proofs.YtfgfdjaiamaelaaGreatDoor
open Go.RowKit

theorem oneCell_bools (us : List Bool) : ∀ u ∈ us.map Value.bool, u.oneCell' = true := by
  intro u hu; simp at hu; rcases hu with ⟨_, rfl⟩ | ⟨_, rfl⟩ <;> rfl

set_option maxHeartbeats 400000 in
theorem clone_any (A : Option Addr) (c : Nat) (us : List Bool) (w : World) (hR : Reads w A (us.map .bool)) (hA : A ≠ none) (hn : us.length ≤ 1000) :
    Calls Tryz.prog 61 #[.slice A us.length c] w fun e w' => ∃ v, e = .returned v ∧ w'.ownsRow w.heap.size 4 1 v us.length (us.map .bool) ∧ Below w.heap.size w w' := by
  obtain ⟨i0, hi, hz0, hz1, hz2⟩ := info_parts Tryz.info4
  have hm := oneCell_bools us
  obtain ⟨ad, rfl⟩ := Option.ne_none_iff_exists'.1 hA
  have hnil := fun (w : World) => Lib.run_eql_slice_nil (P := Tryz.prog) w 67 4 (some ad) us.length c 0 0 Tryz.underlying67
  go_enter Tryz.func61, Tryz.ntmps61
  go_wp2_with (at_builtin; refine wpList_append_any _ rfl (.tmp 5) (.tmp 6) _ rfl w.heap.size 4 i0 (.bool false) 1 Tryz.underlying67 hi hz0 hz1 hz2 rfl (.slice (some ⟨w.heap.size, 0, none⟩) 0 0) 0 [] rfl (World.ownsRow_made w #[] 0 (Nat.le_refl _) (by simp) rfl) (some ad) us.length c (us.map .bool) rfl (by simp) (by simp) (hR.alloc _) hm (by simp only [maxLen]; omega) (by omega) (by simp) ?_; intro v1 w1 hown1 hg1 hat1)
  go_ret
  refine ⟨v1, rfl, by simpa using hown1, ((Below.refl _ _).alloc (Nat.le_refl _) _).grown hg1 (by simp) (fun k hk => ?_)⟩
  simp [Value.ownBlock] at hk; omega

end Go.Proofs.YtfgfdjaiamaelaaGreatDoor
