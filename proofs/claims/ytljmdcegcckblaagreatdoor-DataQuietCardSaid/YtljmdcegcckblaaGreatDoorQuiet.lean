/- Parts of the proof, put together by program: FE, FF. -/
import Derived.Test.YtljmdcegcckblaaGreatDoorQuart43
import Derived.Test.YtljmdcegcckblaaGreatDoorQuart45
import Derived.Test.YtljmdcegcckblaaGreatDoorQuart44
import Derived.Test.YtljmdcegcckblaaGreatDoorQuart41
import Derived.Test.YtljmdcegcckblaaGreatDoorQuart06
import Derived.BigQuiet
import Derived.Deep.CutRange
import Derived.Deep.CutBlock
/- P12.8, P12.9: DataQuiet, walked. -/
namespace Go.Proofs.YtljmdcegcckblaaGreatDoor
open Go.RowKit Go.Maps

/-- A transaction on its device; both are younger than the world w0. -/
structure Play (w0 w : World) (T : Nat) (F : List Nat) (D : Nat) (y : TxS) (B : List Nat) (x : DevS) : Prop where
  td : TD w T F D y B x
  bl : Below w0.heap.size w0 w
  fl : ∀ b ∈ F, w0.heap.size ≤ b
  bb : ∀ b ∈ B, w0.heap.size ≤ b

section
variable {w0 w w' : World} {T : Nat} {F F' : List Nat} {D : Nat} {y y' : TxS} {B B' : List Nat} {x x' : DevS}
theorem Play.below (h : Play w0 w T F D y B x) (hb : Below w.heap.size w w') : Play w0 w' T F D y B x := ⟨h.td.below hb, h.bl.trans (hb.mono h.bl.size), h.fl, h.bb⟩
theorem Play.did (h : Play w0 w T F D y B x) (ht : TxAt w' T F' D y') (g : Grow w F w' F') : Play w0 w' T F' D y' B x :=
  ⟨h.td.grow ht g, h.bl.trans (g.below h.bl.size h.fl), g.lo h.bl.size h.fl, h.bb⟩
theorem Play.drewN (h : Play w0 w T F D y B x) (n : Nat) : Play w0 (w.drewN n) T F D y B x := h.below (below_drewN' (Below.refl _ _) n)
theorem Play.size (h : Play w0 w T F D y B x) : w0.heap.size ≤ w.heap.size := h.bl.size
theorem Play.half (h : Play w0 w T F D y B x) : HalfAt w := h.td.dev.half
theorem Play.endKeep (h : Play w0 w T F D y B x) : Grow w F (w.setCell ⟨T, 20, none⟩ (.bool true)) F := ⟨KeepEx.setCell w (.inl h.td.tx.TF) _, fun _ hb => .inl hb⟩
theorem Play.end_ (h : Play w0 w T F D y B x) : Play w0 (w.setCell ⟨T, 20, none⟩ (.bool true)) T F D y.end_ B x := h.did h.td.tx.ended h.endKeep
theorem Play.keep (h : Play w0 w T F D y B x) (ht : TD w' T F' D y' B' x') (g : Grow w (F ++ B) w' (F' ++ B')) : Play w0 w' T F' D y' B' x' :=
  have hF : ∀ b ∈ F ++ B, w0.heap.size ≤ b := fun b hb => (List.mem_append.1 hb).elim (h.fl b) (h.bb b)
  have hn := g.lo h.bl.size hF
  ⟨ht, h.bl.trans (g.below h.bl.size hF), fun b hb => hn b (List.mem_append_left _ hb), fun b hb => hn b (List.mem_append_right _ hb)⟩
theorem Grow.appR (h : Grow w F w' F') (B : List Nat) : Grow w (F ++ B) w' (F' ++ B) :=
  ⟨h.keep.widen fun _k hk => List.mem_append_left _ hk, fun b hb => (List.mem_append.1 hb).elim (fun hb => (h.new b hb).imp (List.mem_append_left _) id) (fun hb => .inl (List.mem_append_right _ hb))⟩
theorem Play.row (h : Play w0 w T F D y B x) {g : Nat} (h1 : g ∉ F) (h2 : g ∉ B) (h00 : 0 < w0.heap.size) (h0 : w0.heap.size ≤ g) (cs : Array Value) : Play w0 (w.setRow g cs) T F D y B x :=
  have r := Run.row (⟨h.td, h.bl, h.fl⟩ : Run w0 w T F D y B x) h1 h2 h00 h0 cs
  ⟨r.td, r.bl, r.fl, h.bb⟩
theorem Play.full (h : Play w0 w T F D y B x) (ht : TD w' T F' D y' B x) (g : Grow w F w' F') : Play w0 w' T F' D y' B x := ⟨ht, h.bl.trans (g.below h.bl.size h.fl), g.lo h.bl.size h.fl, h.bb⟩
theorem Play.reads (h : Play w0 w T F D y B x) {A : Option Addr} {xs : List Value} (hr : Reads w0 A xs) : Reads w A xs := hr.below h.bl
end

section
variable {w0 w : World} {T : Nat} {F : List Nat} {D : Nat} {y : TxS} {B : List Nat} {x : DevS}
theorem play_abort (h : Play w0 w T F D y B x) (he : y.ended = false) :
    Calls Tryz.prog 20 #[.pointer (some ⟨T, 0, none⟩)] w (fun e w' => e = .returned (.int .i64 0) ∧ ∃ F', Play w0 w' T F' D y.end_ B x ∧ Grow w (F ++ B) w' (F' ++ B)) := by
  refine (abort_tx T F D y w h.td.tx he).mono ?_
  rintro e w' ⟨rfl, rfl⟩
  exact ⟨rfl, F, h.end_, h.endKeep.appR B⟩
theorem play_commit {x' : DevS} (h : Play w0 w T F D y B x) (hc : y.Clean) (hE : y.stateE = 0) (hcm : y.commit x = (0, x')) :
    Calls Tryz.prog 21 #[.pointer (some ⟨T, 0, none⟩)] w fun e w' => e = .returned (.int .i64 0) ∧ ∃ B', Play w0 w' T F D y.end_ B' x' ∧ Grow w (F ++ B) w' (F ++ B') := by
  refine (commit_tx T F D y B x w h.td hc hE).mono ?_
  rintro e w' ⟨he, B', ht, g⟩
  rw [hcm] at he ht
  exact ⟨he, B', h.keep ht g, g⟩
theorem play_begin {s j i : Int} {us : List Bool} {N : Nat} (h : Play w0 w T F D y B x) (hr : rgE s j i = 0) (hl : Live x s j i us N) :
    Calls Tryz.prog 22 #[.pointer (some ⟨D, 0, none⟩), .agg #[.int .i64 s, .int .i64 j, .int .i64 i]] w fun e w' => ∃ T' F', e = .returned (.tuple #[.pointer (some ⟨T', 0, none⟩), .int .i64 0]) ∧ Play w0 w' T' F' D (begTx s j i us) B x ∧ Grow w (F ++ B) w' (F' ++ B) := by
  obtain ⟨h1, h2, h3⟩ := begin_live hr hl
  refine (begin_dev D s j i B x w h.td.dev h3).mono ?_
  rintro e w' ⟨hb, E, hE, ⟨h5, -⟩ | ⟨-, T', F', rfl, ht, hF⟩⟩
  · exact absurd ((h1 E).1 hE) h5
  rw [h2] at ht
  exact ⟨T', F', rfl, ⟨⟨ht, h.td.dev.below hb, fun b hb hm => by have := hF b hb; have := (h.td.dev.lt b hm).2; omega⟩, h.bl.trans (hb.mono h.bl.size), fun b hb => Nat.le_trans h.bl.size (hF b hb), h.bb⟩, KeepEx.of_below hb, fun b hm => (List.mem_append.1 hm).elim (fun hm => .inr (hF b hm)) (fun hm => .inl (List.mem_append_right _ hm))⟩
end
theorem Keeps.app {w w' : World} {F' B : List Nat} {A : Option Addr} {c : Nat} {l : List Int} (h : Keeps w' F' A c l) (hge : ∀ a, A = some a → w.heap.size ≤ a.block) (hB : ∀ b ∈ B, b < w.heap.size) : Keeps w' (F' ++ B) A c l :=
  ⟨h.sl, fun a e => ⟨fun hm => (List.mem_append.1 hm).elim (h.out a e).1 (fun hm => by have := hB _ hm; have := hge a e; omega), (h.out a e).2⟩⟩
theorem Keeps.left {w : World} {F B : List Nat} {A : Option Addr} {c : Nat} {l : List Int} (h : Keeps w (F ++ B) A c l) : Keeps w F A c l := ⟨h.sl, fun a e => ⟨fun hm => (h.out a e).1 (List.mem_append_left _ hm), (h.out a e).2⟩⟩
theorem dwrite_same {y : TxS} {x : DevS} {kd : Int} {l : List Int} {t : ByteArray} (hs : y.stateE = 0) (hl : Lst y l) (h : Holds y x kd l t) {a b : Nat} (hab : a ≤ b) (hb : b ≤ t.size) : y.dwrite x kd l t.size a (t.extract a b) = (0, y, l, (t.size : Int)) := by
  have hz := h.sz
  obtain ⟨i1, i2, i3⟩ := dwrite_is (s := t.extract a b) (off := a) hs hl h ⟨by omega, by omega⟩ (by rw [ByteArray.size_extract]; omega)
  rw [dw_back t hab hb, store_same h] at i1 i2 i3
  exact Prod.ext i1 (Prod.ext i2 (Prod.ext (i3 rfl).1 (i3 rfl).2))
theorem dread_same {y : TxS} {x : DevS} {kd : Int} {l : List Int} {t : ByteArray} (hs : y.stateE = 0) (hl : Lst y l) (h : Holds y x kd l t) : y.dread x kd l t.size 0 t.size = (t, 0) := by
  have hz := h.sz
  rw [read_holds hs hl h (by omega) (by omega)]
  rw [show (min (0 : Int) t.size).toNat = 0 by omega, show (min (0 : Int) t.size + min (t.size : Int) (t.size - min (0 : Int) t.size)).toNat = t.size by omega, extract_all]
set_option maxRecDepth 100000 in
theorem blocks_law (a b c : Int) (ha : 64 ≤ a ∧ a ≤ 256) (hb : 8 ≤ b ∧ b ≤ 96) (hc : 1 ≤ c ∧ c ≤ 60) (w : World) :
    Calls Tryz.prog 27 #[.agg #[.int .i64 a, .int .i64 b, .int .i64 c]] w fun e w' => e = .returned (.int .i64 (a - 2 - b - c)) ∧ Below w.heap.size w w' := by
  obtain ⟨wA, hA⟩ : ∃ wA, wA = w.alloc (.cells #[.int .i64 a, .int .i64 b, .int .i64 c] 32) := ⟨_, rfl⟩
  have bA : Blk wA w.heap.size 32 #[.int .i64 a, .int .i64 b, .int .i64 c] := by rw [hA]; exact Blk.new _ _ _
  have BA : Below w.heap.size w wA := by rw [hA]; exact (Below.refl _ _).alloc (Nat.le_refl _) _
  have w1 : IntKind.i64.wrap (a - 2) = a - 2 := by rw [IntKind.wrap_i64]; omega
  have w2 : IntKind.i64.wrap (a - 2 - b) = a - 2 - b := by rw [IntKind.wrap_i64]; omega
  have w3 : IntKind.i64.wrap (a - 2 - b - c) = a - 2 - b - c := by rw [IntKind.wrap_i64]; omega
  have cA := bA.cells
  have lA := bA.lt
  clear ha hb hc
  go_enter Tryz.func27, Tryz.ntmps27
  go_wp2_with fail
  rw [← hA]
  clear hA
  go_wp2_with fail
  go_ret
  exact ⟨rfl, BA⟩
/-- A list, the layout's box and the act's box beside a transaction. -/
structure QSt (w0 w : World) (T : Nat) (F : List Nat) (D : Nat) (y : TxS) (B : List Nat) (x : DevS) (NL NY : Nat) (LC YC : Array Value) (LA : Option Addr) (lc : Nat) (L : List Int) : Prop where
  pl : Play w0 w T F D y B x
  kp : Keeps w (F ++ B) LA lc L
  lay : Blk w NL 32 LC
  lf : NL ∉ F ++ B
  act : Blk w NY 41 YC
  yf : NY ∉ F ++ B
section
variable {w0 w w' : World} {T T' : Nat} {F F' : List Nat} {D : Nat} {y y' : TxS} {B B' : List Nat} {x x' : DevS} {NL NY : Nat} {LC YC : Array Value} {LA : Option Addr} {lc : Nat} {L : List Int}
theorem QSt.grow (h : QSt w0 w T F D y B x NL NY LC YC LA lc L) (pl : Play w0 w' T' F' D y' B' x') (g : Grow w (F ++ B) w' (F' ++ B')) : QSt w0 w' T' F' D y' B' x' NL NY LC YC LA lc L :=
  ⟨pl, h.kp.grow g, g.blk h.lay h.lf, g.notin h.lf h.lay.lt, g.blk h.act h.yf, g.notin h.yf h.act.lt⟩
theorem QSt.below (h : QSt w0 w T F D y B x NL NY LC YC LA lc L) (hb : Below w.heap.size w w') : QSt w0 w' T F D y B x NL NY LC YC LA lc L := h.grow (h.pl.below hb) (Grow.of_below hb _)
theorem QSt.full (h : QSt w0 w T F D y B x NL NY LC YC LA lc L) (ht : TD w' T F' D y' B x) (g : Grow w F w' F') : QSt w0 w' T F' D y' B x NL NY LC YC LA lc L := h.grow (h.pl.full ht g) (g.appR B)
theorem QSt.list (h : QSt w0 w T F D y B x NL NY LC YC LA lc L) {LA' : Option Addr} {lc' : Nat} {L' : List Int} (hk : Keeps w (F ++ B) LA' lc' L') : QSt w0 w T F D y B x NL NY LC YC LA' lc' L' := ⟨h.pl, hk, h.lay, h.lf, h.act, h.yf⟩
end

set_option maxRecDepth 100000 in
set_option maxHeartbeats 16000000 in
theorem dataQuiet_any (jn ino : Int) (hjn : 0 ≤ jn ∧ jn ≤ 255) (hin : 0 ≤ ino ∧ ino ≤ 255) (s : ByteArray) (hs : s.size ≤ maxLen) (wh f kd off n size : Int) (A : Option Addr) (m c : Nat) (p : ByteArray) (hp : p.size ≤ maxLen) (hoff : -9223372036854775808 ≤ off ∧ off ≤ 9223372036854775807) (hn : -9223372036854775808 ≤ n ∧ n ≤ 9223372036854775807) (w : World) (hH : HalfAt w) :
    Calls Tryz.prog 5 #[.agg #[.int .u8 jn, .int .u8 ino], .string s, .agg (actC wh f kd off n size (.slice A m c) p)] w fun e w' => e = .returned (.bool true) ∧ Below w.heap.size w w' := by
  have hp0 := hH.1
  have HH := Lib.hid hH
  obtain ⟨wA, hA⟩ : ∃ wA, wA = (w.alloc (.cells #[.int .u8 jn, .int .u8 ino] 23)).alloc (.cells (actC wh f kd off n size (.slice A m c) p) 41) := ⟨_, rfl⟩
  have bA : Blk wA w.heap.size 23 #[.int .u8 jn, .int .u8 ino] := by rw [hA]; exact (Blk.new _ _ _).alloc _
  have bY : Blk wA (w.heap.size + 1) 41 (actC wh f kd off n size (.slice A m c) p) := by rw [hA]; exact Blk.new' (by simp)
  have BA : Below w.heap.size w wA := by rw [hA]; (repeat' (first | (with_reducible exact Below.refl _ _) | (with_reducible assumption) | (with_reducible refine Below.alloc ?_ ?_ _) | (with_reducible refine Below.drew ?_) | (with_reducible refine below_drewN' ?_ _) | (with_reducible refine Below.setCell ?_ ?_ _) | (with_reducible exact Nat.le_refl _) | omega | (simp; done) | (simp; omega)))
  have cY7 : wA.cell? ⟨w.heap.size + 1, 7, none⟩ = some (.string p) := (bY.cells 7).trans rfl
  have cA := bA.cells
  have lA := bA.lt
  have lY := bY.lt
  unfold maxLen at hs hp
  have HB := Lib.hid BA
  clear hH BA
  go_enter Tryz.func5, Tryz.ntmps5
  by_cases hbig : 768 < s.size ∨ 900 < p.size
  · have haw : Calls Tryz.prog 8 #[] wA (fun e w' => e = .returned (.bool true) ∧ Below wA.heap.size wA w') := awake_any wA (HH.out.below HB.out hp0)
    by_cases h1 : 768 < s.size
    all_goals
      as_aux_lemma =>
        first
          | have d1 : (768 : Int) < (s.size : Int) := by omega
          | (have d1 : ¬ (768 : Int) < (s.size : Int) := by omega
             have d2 : (900 : Int) < (p.size : Int) := by omega)
        clear hbig h1
        go_wp2_with fail
        rw [← hA]
        clear hA
        go_wp2_with fail
        refine haw.mono ?_
        rintro e w2 ⟨rfl, hb2⟩
        go_wp2_with fail
        go_ret
        exact ⟨rfl, HB.out.trans (hb2.mono HB.out.size)⟩
  · have d1 : ¬ (768 : Int) < (s.size : Int) := by omega
    have d2 : ¬ (900 : Int) < (p.size : Int) := by omega
    have hs7 : s.size ≤ 768 := by omega
    have hp9 : p.size ≤ 900 := by omega
    clear hbig
    go_wp2_with fail
    rw [← hA]
    clear hA
    go_wp2_with fail
    refine (layout_any jn ino hjn hin wA).mono ?_
    rintro e w2 ⟨rfl, hb2⟩
    have B2 := HB.out.trans (hb2.mono HB.out.size)
    have bY2 := bY.belowAll hb2
    obtain ⟨w2a, hw2a⟩ : ∃ w2a, w2.alloc (.cells #[.int .i64 64, .int .i64 (8 + jn % 21), .int .i64 (1 + ino % 26)] 32) = w2a := ⟨_, rfl⟩
    obtain ⟨NL, hNL⟩ : ∃ NL, w2.heap.size = NL := ⟨_, rfl⟩
    have bL : Blk w2a NL 32 #[.int .i64 64, .int .i64 (8 + jn % 21), .int .i64 (1 + ino % 26)] := by rw [← hw2a, ← hNL]; exact Blk.new _ _ _
    have B2a : Below w.heap.size w w2a := by rw [← hw2a]; exact B2.alloc B2.size _
    have bY2a := bY2.belowAll (show Below w2.heap.size w2 w2a by rw [← hw2a]; exact (Below.refl _ _).alloc (Nat.le_refl _) _)
    have hrg := layout_rg jn ino
    have hj9 : 0 ≤ 8 + jn % 21 := by omega
    generalize 8 + jn % 21 = j9 at *
    generalize 1 + ino % 26 = i9 at *
    have hbg := begun_fresh 64 j9 i9 hrg w2a (HH.out.below B2a hp0)
    have HW2 := Lib.hid hw2a
    have HNL := Lib.hid hNL
    have HRG := Lib.hid hrg
    clear cA lA lY cY7 bA bY hb2 hw2a hNL B2 hrg bY2
    go_upto_region 4 with fail
    rw [HW2.out, HNL.out]
    have cL := bL.cells
    have lL := bL.lt
    go_wp2_with fail
    refine hbg.mono ?_
    rintro e w3 ⟨D, T, F0, B, x, rfl, hfr, ht, hb3, hF, hB⟩
    have B3 := B2a.trans (hb3.mono B2a.size)
    have p3 : Play w w3 T F0 D (freeTx 64 j9 i9) B x := ⟨ht, B3, fun b hb => Nat.le_trans B2a.size (hF b hb), fun b hb => Nat.le_trans B2a.size (hB b hb)⟩
    have bL3 := bL.belowAll hb3
    have bY3 := bY2a.belowAll hb3
    have hfb : ∀ q, q < w2a.heap.size → q ∉ F0 ++ B := fun q hq hm => by
      rcases List.mem_append.1 hm with hm | hm
      · have := hF _ hm; omega
      · have := hB _ hm; omega
    have hhc : HC 64 j9 i9 (List.replicate (rgB 64 j9 i9).toNat false) (freeTx 64 j9 i9) := by
      rw [freeTx_beg]
      exact ⟨begTx_clean hj9 _, .beg _ _ _ _⟩
    have q3 : QSt w w3 T F0 D (freeTx 64 j9 i9) B x NL (w.heap.size + 1) #[.int .i64 64, .int .i64 j9, .int .i64 i9] (actC wh f kd off n size (.slice A m c) p) none 0 [] :=
      ⟨p3, ⟨slI_nil _, fun a h => by cases h⟩, bL3, hfb _ bL.lt, bY3, hfb _ bY2a.lt⟩
    have hst0 : (freeTx 64 j9 i9).stateE = 0 := rfl
    have HLV : Hid (Live x 64 j9 i9 (List.replicate (rgB 64 j9 i9).toNat false) 1000000) := Lib.hid hfr.live
    generalize List.replicate (rgB 64 j9 i9).toNat false = us at *
    generalize freeTx 64 j9 i9 = y0 at *
    generalize w.heap.size + 1 = NY at *
    have hwr := dwrite_tx T F0 D y0 B x 8 none 0 [] (by simp) 0 0 s (by omega) (by omega) (by omega) w3 q3.pl.td q3.kp.left.sl
    have hdi := dwrite_is (kd := 8) (x := x) (t := ⟨#[]⟩) (s := s) (off := 0) hst0 (Lst.nil y0) (holds_nil y0 x 8) ⟨by omega, by show (0 : Int) ≤ 0; omega⟩ (by omega)
    rw [show (((⟨#[]⟩ : ByteArray).size : Nat) : Int) = 0 from rfl, dw_first] at hdi
    obtain ⟨i1, i2, i3⟩ := hdi
    have hcode := (store_code q3.pl.td.tx.ok hst0 (x := x) (kd := 8) (by omega) (Lst.nil y0) (ps := cutsL s) (by simp) (cutsL_small s)).1
    rw [← i1] at hcode i3
    have HHC := Lib.hid (hhc.dwrite x 8 [] 0 0 s)
    have HSG : Hid ((y0.dwrite x 8 [] 0 0 s).1 = 0 → Stored y0 (y0.dwrite x 8 [] 0 0 s).2.1 x 8 [] (y0.dwrite x 8 [] 0 0 s).2.2.1 (cutsL s) ∧ (y0.dwrite x 8 [] 0 0 s).2.2.2 = s.size) := Lib.hid fun h0 => by
      have h1 := i3 h0
      rw [i2, h1.1]
      exact ⟨store_good q3.pl.td.tx.ok hst0 (Lst.nil y0) (by rw [← i1]; exact h0), h1.2⟩
    have hB3 : ∀ b ∈ B, b < w3.heap.size := fun b hb => (q3.pl.td.dev.lt b hb).2
    clear hbg ht hb3 hF hB B2a B3 hjn hin cL lL bL hfr p3 bL3 bY3 bY2a hfb hhc i1 i2 i3
    go_wp2_with fail
    refine hwr.mono ?_
    rintro e w4 ⟨v, rfl, ho, F1, ht, g, hv⟩
    generalize y0.dwrite x 8 [] 0 0 s = r at *
    obtain ⟨E, y1, L, z⟩ := r
    simp only at ho ht hcode HHC HSG
    obtain ⟨LA, lc, rfl, hkp⟩ := Keeps.of_did ho hv
    have hge : ∀ a, LA = some a → w3.heap.size ≤ a.block := fun a e => by subst e; exact (own_lt ho a.block rfl).1
    have q4 : QSt w w4 T F1 D y1 B x NL NY #[.int .i64 64, .int .i64 j9, .int .i64 i9] (actC wh f kd off n size (.slice A m c) p) LA lc L := (q3.full ht g).list (hkp.app hge hB3)
    clear hwr ho ht g hv q3 hkp hge hB3
    by_cases hE : E = 0
    rotate_left
    · as_aux_lemma =>
        have hen : y1.ended = false := HHC.out.h.en
        have hE9 : (E != 0) = true := by simpa using hE
        have hE2 := hcode.resolve_left hE
        rcases hE2 with rfl | rfl
        all_goals
          as_aux_lemma =>
            have Q4 := Lib.hid q4
            clear q4
            go_wp2_with fail
            refine (play_abort Q4.out.pl hen).mono ?_
            rintro e w5 ⟨rfl, F5, p5, -⟩
            have B5 := p5.bl
            have haw : Calls Tryz.prog 8 #[] w5 (fun e w' => e = .returned (.bool true) ∧ Below w5.heap.size w5 w') := awake_any w5 (HH.out.below B5 hp0)
            go_wp2_with fail
            refine haw.mono ?_
            rintro e w6 ⟨rfl, hb6⟩
            go_wp2_with fail
            go_ret
            exact ⟨rfl, B5.trans (hb6.mono B5.size)⟩
    · subst hE
      obtain ⟨hsd, hz⟩ := HSG.out rfl
      subst hz
      have hst := hsd.st
      have hhc := HHC.out
      obtain ⟨x', hcom, hlive, hw, hoo⟩ := commit_live (N := 999800) (us := us) q4.pl.td.tx.ok hhc.c (by rw [hhc.h.s, hhc.h.j, hhc.h.i]; exact HLV.out) hhc.h.ch
      have hl2 := hsd.lst.reborn
      have hh2 := (hsd.holds hs7).reborn hsd.lst (fun b hb => part_commit (x := x) q4.pl.td.tx.ok hst hw hoo 8 b hb)
      rw [hhc.h.s, hhc.h.j, hhc.h.i] at hlive hl2 hh2
      have HLEN := Lib.hid (show L.length = nCuts s.size from hsd.len.trans (cutsL_length s))
      have hn8 := nCuts_le hs7
      have hLl : L.length ≤ 8 := by rw [HLEN.out]; exact hn8
      have hcl2 : (begTx 64 j9 i9 y1.now).Clean := begTx_clean hj9 _
      have hst2 : (begTx 64 j9 i9 y1.now).stateE = 0 := rfl
      have hrec : (begTx 64 j9 i9 y1.now).recs = [] := rfl
      have hwr0 : (begTx 64 j9 i9 y1.now).writes = [] := rfl
      have hch0 : (begTx 64 j9 i9 y1.now).changed = false := rfl
      have HYJ := Lib.hid (show (begTx 64 j9 i9 y1.now).j = j9 ∧ (begTx 64 j9 i9 y1.now).i = i9 from ⟨rfl, rfl⟩)
      have HLI := Lib.hid hlive
      have hcm := play_commit q4.pl hhc.c hst hcom
      have HQ4 := Lib.hid q4
      have hbeg : ∀ (W : World) (F9 B9 : List Nat), Play w W T F9 D y1.end_ B9 x' → Calls Tryz.prog 22 #[.pointer (some ⟨D, 0, none⟩), .agg #[.int .i64 64, .int .i64 j9, .int .i64 i9]] W fun e w' => ∃ T' F', e = .returned (.tuple #[.pointer (some ⟨T', 0, none⟩), .int .i64 0]) ∧ Play w w' T' F' D (begTx 64 j9 i9 y1.now) B9 x' ∧ Grow W (F9 ++ B9) w' (F' ++ B9) := fun W F9 B9 h => play_begin h HRG.out HLI.out
      have HBEG := Lib.hid hbeg
      generalize begTx 64 j9 i9 y1.now = y2 at *
      clear hsd hw hoo hhc HSG hlive q4 hbeg
      go_wp2_with fail
      refine hcm.mono ?_
      rintro e w5 ⟨rfl, B', p5, g5⟩
      have q5 := HQ4.out.grow p5 g5
      have cL := q5.lay.cells
      have lL := q5.lay.lt
      clear hcm p5 g5
      go_wp2_with fail
      refine (HBEG.out _ _ _ q5.pl).mono ?_
      rintro e w6 ⟨U, F2, rfl, p6, g6⟩
      have q6 := q5.grow p6 g6
      have hld := dload_tx U F2 D y2 B' x' 8 LA lc L (by omega) w6 q6.pl.td.tx q6.pl.td.dev q6.kp.left.sl
      rw [dload_same hst2 hl2 hh2] at hld
      clear cL lL q5 p6 g6
      go_wp2_with fail
      refine hld.mono ?_
      rintro e w7 ⟨hb7, v7, rfl, ho7⟩
      obtain ⟨PA, pk, rfl⟩ := own_slice ho7
      have q7 := q6.below hb7
      have hsto := dstore_tx U F2 D y2 B' x' 8 LA lc L (by omega) PA pk (cutsL s) (by rw [cutsL_length]; omega) (fun p hp => by have := cutsL_small s p hp; omega) w7 q7.pl.td q7.kp.left.sl (Reads.of_own ho7) (fun a e => by
        subst e
        have h := own_lt ho7 a.block rfl
        exact ⟨fun hm => by have := (q6.pl.td.tx.lt _ hm).2; omega, h.2⟩)
      rw [dstore_same hst2 hl2 hh2] at hsto
      clear hld hb7 ho7
      go_wp2_with fail
      refine hsto.mono ?_
      rintro e w8 ⟨v8, rfl, ho8, F8, ht8, g8, hv8⟩
      obtain ⟨A8, c8, rfl, hk8⟩ := Keeps.of_did ho8 hv8
      have k8 : Keeps w8 (F8 ++ B') A8 c8 L := hk8.app (fun a e => by subst e; exact (own_lt ho8 a.block rfl).1) (fun b hb => (q7.pl.td.dev.lt b hb).2)
      have q8 := q7.full ht8 g8
      have hrd := dread_tx U F8 D y2 B' x' 8 LA lc L (by omega) s.size 0 s.size (by omega) w8 q8.pl.td.tx q8.pl.td.dev q8.kp.left.sl
      rw [dread_same hst2 hl2 hh2] at hrd
      clear hsto ho8 ht8 g8 hv8 hk8 q7 q6
      go_wp2_with fail
      refine hrd.mono ?_
      rintro e w9 ⟨rfl, hb9⟩
      have q9 := q8.below hb9
      have k9 := k8.below hb9
      have hw1 : IntKind.i64.wrap ((s.size : Int) + 1) = s.size + 1 := by rw [IntKind.wrap_i64]; omega
      have hwa := wrapped_any off (s.size + 1) hoff (by omega) w9
      obtain ⟨b0, hb0⟩ : ∃ b0 : Nat, off % ((s.size : Int) + 1) = b0 := ⟨_, (Int.toNat_of_nonneg (Int.emod_nonneg _ (by omega))).symm⟩
      have hbs : b0 ≤ s.size := by have := Int.emod_lt_of_pos off (show 0 < (s.size : Int) + 1 by omega); omega
      rw [hb0] at hwa
      have cy3 : w9.cell? ⟨NY, 3, none⟩ = some (.int .i64 off) := (q9.act.cells 3).trans rfl
      have ly := q9.act.lt
      clear hrd hb9 q8 k8
      go_wp2_with fail
      refine hwa.mono ?_
      rintro e w9b ⟨rfl, hw9b⟩
      replace hw9b := hw9b.symm
      subst hw9b
      obtain ⟨a0, ha0⟩ : ∃ a0 : Nat, n % ((b0 : Int) + 1) = a0 := ⟨_, (Int.toNat_of_nonneg (Int.emod_nonneg _ (by omega))).symm⟩
      have hab : a0 ≤ b0 := by have := Int.emod_lt_of_pos n (show 0 < (b0 : Int) + 1 by omega); omega
      have hwb := wrapped_any n (b0 + 1) hn (by omega) w9
      rw [ha0] at hwb
      have hw2 : IntKind.i64.wrap ((b0 : Int) + 1) = b0 + 1 := by rw [IntKind.wrap_i64]; omega
      have cy4 : w9.cell? ⟨NY, 4, none⟩ = some (.int .i64 n) := (q9.act.cells 4).trans rfl
      have HB0 := Lib.hid hb0
      have HA0 := Lib.hid ha0
      clear hwa hw1 cy3 hb0 ha0
      go_wp2_with fail
      refine hwb.mono ?_
      rintro e w9b ⟨rfl, hw9b⟩
      replace hw9b := hw9b.symm
      subst hw9b
      have hdw := dwrite_tx U F8 D y2 B' x' 8 LA lc L (by omega) s.size a0 (s.extract a0 b0) (by rw [ByteArray.size_extract]; omega) (by omega) (by omega) w9 q9.pl.td q9.kp.left.sl
      rw [dwrite_same hst2 hl2 hh2 hab hbs] at hdw
      have hia : (a0 : Int) ≤ b0 := by omega
      have hib : (b0 : Int) ≤ s.size := by omega
      clear hwb hw2 cy4
      go_wp2_with fail
      refine hdw.mono ?_
      rintro e w10 ⟨v10, rfl, ho10, F10, ht10, g10, hv10⟩
      obtain ⟨A10, c10, rfl, hk10⟩ := Keeps.of_did ho10 hv10
      have k10 : Keeps w10 (F10 ++ B') A10 c10 L := hk10.app (fun a e => by subst e; exact (own_lt ho10 a.block rfl).1) (fun b hb => (q9.pl.td.dev.lt b hb).2)
      have q10 := q9.full ht10 g10
      have k910 := k9.grow (g10.appR B')
      have hrc := records_tx U F10 D y2 w10 q10.pl.td.tx hcl2 hst2
      unfold RecsPost at hrc
      rw [hrec] at hrc
      clear hdw ho10 ht10 g10 hv10 hk10 q9 k9
      go_wp2_with fail
      refine hrc.mono ?_
      rintro e w11 ⟨rv, rfl, hor, hb11⟩
      obtain ⟨ra, rc, rfl⟩ := own_slice hor
      have q11 := q10.below hb11
      have k8' := k910.below hb11
      have k10' := k10.below hb11
      have hs1 := sameInts_any A8 LA c8 lc L L (by omega) (by omega) w11 k8'.sl.reads q11.kp.sl.reads
      rw [decide_eq_true rfl] at hs1
      clear hrc hor hb11 q10 k910 k10
      go_wp2_with fail
      refine hs1.mono ?_
      rintro e w12 ⟨rfl, hb12⟩
      have q12 := q11.below hb12
      have k10'' := k10'.below hb12
      have hs2 := sameInts_any A10 LA c10 lc L L (by omega) (by omega) w12 k10''.sl.reads q12.kp.sl.reads
      rw [decide_eq_true rfl] at hs2
      clear hs1 hb12 q11 k8' k10'
      go_wp2_with fail
      refine hs2.mono ?_
      rintro e w13 ⟨rfl, hb13⟩
      have q13 := q12.below hb13
      clear hs2 hb13 q12 k10''
      have cy7 : w13.cell? ⟨NY, 7, none⟩ = some (.string p) := (q13.act.cells 7).trans rfl
      have ly := q13.act.lt
      have hw3 : IntKind.i64.wrap ((s.size : Int) - b0) = s.size - b0 := by rw [IntKind.wrap_i64]; omega
      obtain ⟨pz, hpz⟩ : ∃ pz : Nat, min (p.size : Int) ((s.size : Int) - b0) = pz := ⟨_, (Int.toNat_of_nonneg (by omega)).symm⟩
      have hpl : (pz : Int) ≤ p.size := by omega
      have hpo : b0 + pz ≤ s.size := by omega
      go_upto_region 25 with fail
      generalize hpc : p.extract 0 pz = pc at *
      have hpcs : pz = pc.size := by rw [← hpc, ByteArray.size_extract]; omega
      subst hpcs
      have hq := quiet_law (p := pc) (off := b0) q13.pl.td.tx.ok hst2 hl2 hh2 hwr0 hch0 hpo
      have hdw2 := dwrite_tx U F10 D y2 B' x' 8 LA lc L (by omega) s.size b0 pc (by omega) (by omega) (by omega) w13 q13.pl.td q13.kp.left.sl
      have hcl3 : (y2.dwrite x' 8 L s.size b0 pc).2.1.Clean := kept_dwrite_law (Q := TxS.Clean) (fun _ a k d h => h.write a k d) (fun _ a n h => h.take a n) (fun _ l h => h.free l) hcl2 x' 8 L s.size b0 pc
      clear cy7 ly hw3 hpz hpl hpc
      go_wp2_with fail
      refine hdw2.mono ?_
      rintro e w14 ⟨v14, rfl, ho14, F14, ht14, g14, hv14⟩
      generalize y2.dwrite x' 8 L s.size b0 pc = r at *
      obtain ⟨E, y3, L3, z3⟩ := r
      simp only at hq ho14 ht14 hcl3
      obtain ⟨A14, c14, rfl, hk14⟩ := Keeps.of_did ho14 hv14
      have k14 : Keeps w14 (F14 ++ B') A14 c14 L3 := hk14.app (fun a e => by subst e; exact (own_lt ho14 a.block rfl).1) (fun b hb => (q13.pl.td.dev.lt b hb).2)
      have q14 := q13.full ht14 g14
      have HNOW : Hid ((y2.now.length : Int) ≤ 256) := Lib.hid (by have := q13.pl.td.tx.ok.bds; omega)
      clear hdw2 ho14 ht14 g14 hv14 hk14 q13
      obtain ⟨hq1, hq2⟩ := hq
      have HQ2 := Lib.hid hq2
      clear hq2
      rcases hq1 with rfl | rfl
      rotate_left
      · as_aux_lemma =>
          have hrc : Calls Tryz.prog 16 #[.pointer (some ⟨U, 0, none⟩)] w14 fun e w' => ∃ rv re, e = .returned (.tuple #[rv, .int .i64 re]) ∧ Below w14.heap.size w14 w' := by
            by_cases hS : y3.stateE = 0
            · exact (records_tx U F14 D y3 w14 q14.pl.td.tx hcl3 hS).mono fun e w' ⟨v, h1, _, h2⟩ => ⟨v, 0, h1, h2⟩
            · exact (txrecords_bad _ _ w14 q14.pl.td.tx.st hS).mono fun e w' ⟨h1, h2⟩ => ⟨_, _, h1, h2⟩
          have Q14 := Lib.hid q14
          clear q14 k14
          go_wp2_with fail
          refine hrc.mono ?_
          rintro e w15 ⟨rv, re, rfl, hb15⟩
          have p15 := Q14.out.pl.below hb15
          have B15 := p15.bl
          have haw : Calls Tryz.prog 8 #[] w15 (fun e w' => e = .returned (.bool true) ∧ Below w15.heap.size w15 w') := awake_any w15 (HH.out.below B15 hp0)
          clear hrc hb15
          go_wp2_with fail
          refine haw.mono ?_
          rintro e w16 ⟨rfl, hb16⟩
          go_wp2_with fail
          go_ret
          exact ⟨rfl, B15.trans (hb16.mono B15.size)⟩
      · obtain ⟨hL3, hz3, hst3, hrl, hnon⟩ := HQ2.out rfl
        subst hL3 hz3
        have hrc := records_tx U F14 D y3 w14 q14.pl.td.tx hcl3 hst3
        unfold RecsPost at hrc
        have HNON := Lib.hid hnon
        obtain ⟨rs, hrs⟩ : ∃ rs, y3.recs = rs := ⟨_, rfl⟩
        rw [hrs] at hrc hrl hnon
        have HNON := Lib.hid hnon
        clear hnon hrs HQ2
        go_wp2_with fail
        refine hrc.mono ?_
        rintro e w15 ⟨rv, rfl, hor, hb15⟩
        obtain ⟨ra, rc, rfl⟩ := own_slice hor
        have q15 := q14.below hb15
        have k15 := k14.below hb15
        have hs3 := sameInts_any A14 LA c14 lc L3 L3 (by omega) (by omega) w15 k15.sl.reads q15.kp.sl.reads
        rw [decide_eq_true rfl] at hs3
        have hRr : Reads w15 ra (rs.flatMap recV) := Reads.of_own3 hor
        clear hrc hor hb15 q14 k14
        go_wp2_with fail
        refine hs3.mono ?_
        rintro e w16 ⟨rfl, hb16⟩
        have q16 := q15.below hb16
        have hRs := hRr.below hb16
        clear hs3 hb16 q15 k15 hRr
        have hbd := rg_bds HRG.out
        obtain ⟨nb, hnb⟩ : ∃ nb : Int, 64 - 2 - j9 - i9 = nb := ⟨_, rfl⟩
        obtain ⟨fs, hfs⟩ : ∃ fs : Int, 64 - nb = fs := ⟨_, rfl⟩
        have hfs2 : fs = 2 + j9 + i9 := by omega
        have hwf : IntKind.i64.wrap (64 - nb) = fs := by rw [IntKind.wrap_i64]; omega
        have hbk : ∀ V, Calls Tryz.prog 27 #[.agg #[.int .i64 64, .int .i64 j9, .int .i64 i9]] V fun e w' => e = .returned (.int .i64 nb) ∧ Below V.heap.size V w' := fun V => by
          have h := blocks_law 64 j9 i9 (by omega) (by omega) (by omega) V
          rw [hnb] at h
          exact h
        have HBK := Lib.hid hbk
        have HFS := Lib.hid hfs2
        have Q16 := Lib.hid q16
        have HRS := Lib.hid hRs
        have HBD := Lib.hid hbd
        clear hbk hfs hfs2 hnb q16 hRs hbd
        go_upto_region 31 with fail
        have hsl : ∀ V, Below w16.heap.size w16 V → (fun W => W.cell? ⟨NL, 0, none⟩ = some (.int .i64 64) ∧ W.cell? ⟨NL, 1, none⟩ = some (.int .i64 j9) ∧ W.cell? ⟨NL, 2, none⟩ = some (.int .i64 i9)) V := fun V hV => by
          have b := Q16.out.lay.belowAll hV
          exact ⟨(b.cells 0).trans rfl, (b.cells 1).trans rfl, (b.cells 2).trans rfl⟩
        refine wp_region_mix [.take 0, .take 1, .take 2, .one 3, .take 4, .take 5] 6 (fun W => W.cell? ⟨NL, 0, none⟩ = some (.int .i64 64) ∧ W.cell? ⟨NL, 1, none⟩ = some (.int .i64 j9) ∧ W.cell? ⟨NL, 2, none⟩ = some (.int .i64 i9)) (by kernel_rfl) (by kernel_rfl) (fun _ _ _ _ _ h => h) (hsl _ (Below.refl _ _).drew) ?_
        simp only [List.map_cons, List.map_nil, Ms.fill, List.getD_cons_zero, List.getD_cons_succ]
        iterate 3 (refine mixT_take (by rfl) ?_ (fun w' hw' => ?_) ?_; rotate_left; (focus (go_simp; (try with_reducible rfl))); (try simp only [Act.put, List.setIfInBounds_toArray, List.set_cons_zero, List.set_cons_succ]))
        refine mixT_step (by rfl) fun K hK => ?_
        go_simp
        refine (HBK.out w16.drew).mono ?_
        rintro e w17 ⟨rfl, hb17⟩
        have B17 := (Below.refl w16.heap.size w16).drew.trans (hb17.mono (Below.refl w16.heap.size w16).drew.size)
        refine hK _ _ (fun _ => hsl _ B17) ?_
        clear hK K
        iterate 2 (refine mixT_take (by rfl) ?_ (fun w' hw' => ?_) ?_; rotate_left; (focus (go_simp; (try with_reducible rfl))); (try simp only [Act.put, List.setIfInBounds_toArray, List.set_cons_zero, List.set_cons_succ]))
        refine mixT_nil ?_
        have q17 := Q16.out.below B17
        have hR17 := HRS.out.below B17
        have HLs := Lib.hid q17.kp.sl.reads
        have HR17 := Lib.hid hR17
        have HQ17 := Lib.hid q17
        clear hsl hwf hb17 B17 q17 hR17
        go_wp2_with fail
        go_loopw [29] (fun q wr => ∃ k : Nat, k ≤ L3.length ∧ q = .int .i64 k ∧ Below w17.heap.size w17 wr) (fun q _ => L3.length - (RowKit.intOf q).toNat)
        case atStart => exact ⟨0, Nat.zero_le _, rfl, Below.refl _ _⟩
        case round =>
          obtain ⟨k, hk, rfl, hbm⟩ := hrel
          have HBM := Lib.hid hbm
          by_cases hkl : k < L3.length
          · as_aux_lemma =>
              obtain ⟨b1, o1, rfl, hb1, hc1⟩ := (HLs.out.below hbm).at_ (k := k) (by simpa using hkl)
              rw [List.getElem_map] at hc1
              have hgd : L3.getD k 0 = L3[k] := by rw [List.getD_eq_getElem?_getD, List.getElem?_eq_getElem hkl]; rfl
              have hrg2 := hl2.rng _ (List.getElem_mem hkl)
              have hnow := HNOW.out
              have hnk : (pc.size = 0 ∨ b0 + pc.size ≤ k * 96 ∨ (k + 1) * 96 ≤ b0) → atRec rs (fs + L3[k]) = none := fun h => by
                have h9 := HNON.out k hkl h
                rw [hgd, HYJ.out.1, HYJ.out.2, ← HFS.out] at h9
                exact h9
              have HNK := Lib.hid hnk
              have hbd := HBD.out
              have hfs9 := HFS.out
              have hwi : IntKind.i64.wrap (fs + L3[k]) = fs + L3[k] := by rw [IntKind.wrap_i64]; omega
              have hat : ∀ V, Below w17.heap.size w17 V → Calls Tryz.prog 18 #[.slice ra rs.length rc, .int .i64 (fs + L3[k])] V fun e w' => e = .returned (.agg (recC ((atRec rs (fs + L3[k])).getD noRec))) ∧ Below V.heap.size V w' := fun V hV => recAt_any ra rc rs (by omega) _ V (HR17.out.below hV)
              have HAT := Lib.hid hat
              have m1 : IntKind.i64.wrap ((k : Int) * 96) = k * 96 := by rw [IntKind.wrap_i64]; omega
              have m2 : IntKind.i64.wrap ((b0 : Int) + pc.size) = b0 + pc.size := by rw [IntKind.wrap_i64]; omega
              have m3 : IntKind.i64.wrap ((k : Int) + 1) = k + 1 := by rw [IntKind.wrap_i64]; omega
              have m4 : IntKind.i64.wrap (((k : Int) + 1) * 96) = (k + 1) * 96 := by rw [IntKind.wrap_i64]; omega
              have hki : (k : Int) < L3.length := by omega
              clear hat hnk hgd hrg2 hnow hbd hfs9
              generalize L3[k] = bk at *
              by_cases h1 : pc.size = 0
              · as_aux_lemma =>
                have hat0 : ∀ V, Below w17.heap.size w17 V → Calls Tryz.prog 18 #[.slice ra rs.length rc, .int .i64 (fs + bk)] V fun e w' => e = .returned (.agg #[.int .i64 0, .int .i64 0, .string ⟨#[]⟩]) ∧ Below V.heap.size V w' := fun V hV => by
                  have h := HAT.out V hV
                  rw [HNK.out (.inl h1)] at h
                  exact h
                have HA0 := Lib.hid hat0
                clear hat0
                have d1 : ¬ (0 : Int) < (pc.size : Int) := by omega
                clear h1
                go_wp2_with fail
                refine (HA0.out _ hbm).mono ?_
                rintro e wd ⟨rfl, hbd⟩
                go_wp2_with fail
                go_roundw
                case rel => exact ⟨k + 1, by omega, by go_num, HBM.out.trans (hbd.mono HBM.out.size)⟩
                case measure => simp [RowKit.intOf]; omega
              have d1 : (0 : Int) < (pc.size : Int) := by omega
              by_cases h2 : b0 + pc.size ≤ k * 96
              · as_aux_lemma =>
                have hat0 : ∀ V, Below w17.heap.size w17 V → Calls Tryz.prog 18 #[.slice ra rs.length rc, .int .i64 (fs + bk)] V fun e w' => e = .returned (.agg #[.int .i64 0, .int .i64 0, .string ⟨#[]⟩]) ∧ Below V.heap.size V w' := fun V hV => by
                  have h := HAT.out V hV
                  rw [HNK.out (.inr (.inl h2))] at h
                  exact h
                have HA0 := Lib.hid hat0
                clear hat0
                have d2 : ¬ (k : Int) * 96 < (b0 : Int) + pc.size := by omega
                clear h1 h2
                go_wp2_with fail
                refine (HA0.out _ hbm).mono ?_
                rintro e wd ⟨rfl, hbd⟩
                go_wp2_with fail
                go_roundw
                case rel => exact ⟨k + 1, by omega, by go_num, HBM.out.trans (hbd.mono HBM.out.size)⟩
                case measure => simp [RowKit.intOf]; omega
              have d2 : (k : Int) * 96 < (b0 : Int) + pc.size := by omega
              by_cases h3 : (k + 1) * 96 ≤ b0
              · as_aux_lemma =>
                have hat0 : ∀ V, Below w17.heap.size w17 V → Calls Tryz.prog 18 #[.slice ra rs.length rc, .int .i64 (fs + bk)] V fun e w' => e = .returned (.agg #[.int .i64 0, .int .i64 0, .string ⟨#[]⟩]) ∧ Below V.heap.size V w' := fun V hV => by
                  have h := HAT.out V hV
                  rw [HNK.out (.inr (.inr h3))] at h
                  exact h
                have HA0 := Lib.hid hat0
                clear hat0
                have d3 : ¬ (b0 : Int) < ((k : Int) + 1) * 96 := by omega
                clear h1 h2 h3
                go_wp2_with fail
                refine (HA0.out _ hbm).mono ?_
                rintro e wd ⟨rfl, hbd⟩
                go_wp2_with fail
                go_roundw
                case rel => exact ⟨k + 1, by omega, by go_num, HBM.out.trans (hbd.mono HBM.out.size)⟩
                case measure => simp [RowKit.intOf]; omega
              have d3 : (b0 : Int) < ((k : Int) + 1) * 96 := by omega
              clear h1 h2 h3 HNK
              obtain ⟨r0, hr0⟩ : ∃ r0, (atRec rs (fs + bk)).getD noRec = r0 := ⟨_, rfl⟩
              obtain ⟨x1, x2, x3⟩ := r0
              have hat0 : ∀ V, Below w17.heap.size w17 V → Calls Tryz.prog 18 #[.slice ra rs.length rc, .int .i64 (fs + bk)] V fun e w' => e = .returned (.agg #[.int .i64 x1, .int .i64 x2, .string x3]) ∧ Below V.heap.size V w' := fun V hV => by
                have h := HAT.out V hV
                rw [hr0] at h
                exact h
              have HA0 := Lib.hid hat0
              clear hat0 hr0
              go_wp2_with fail
              refine (HA0.out _ hbm).mono ?_
              rintro e wd ⟨rfl, hbd⟩
              by_cases e1 : x1 = 0
              rotate_left
              · as_aux_lemma =>
                have q1 : (x1 == 0) = false := by simpa using e1
                go_wp2_with fail
                go_roundw
                case rel => exact ⟨k + 1, by omega, by go_num, HBM.out.trans (hbd.mono HBM.out.size)⟩
                case measure => simp [RowKit.intOf]; omega
              subst e1
              by_cases e2 : x2 = 0
              rotate_left
              · as_aux_lemma =>
                have q1 : (x2 == 0) = false := by simpa using e2
                go_wp2_with fail
                go_roundw
                case rel => exact ⟨k + 1, by omega, by go_num, HBM.out.trans (hbd.mono HBM.out.size)⟩
                case measure => simp [RowKit.intOf]; omega
              subst e2
              by_cases e3 : x3.toList = []
              · as_aux_lemma =>
                have q1 : x3.toList.isEmpty = true := by rw [e3]; rfl
                go_wp2_with fail
                go_roundw
                case rel => exact ⟨k + 1, by omega, by go_num, HBM.out.trans (hbd.mono HBM.out.size)⟩
                case measure => simp [RowKit.intOf]; omega
              · as_aux_lemma =>
                have q1 : x3.toList.isEmpty = false := by simpa using e3
                go_wp2_with fail
                go_roundw
                case rel => exact ⟨k + 1, by omega, by go_num, HBM.out.trans (hbd.mono HBM.out.size)⟩
                case measure => simp [RowKit.intOf]; omega
          · obtain rfl : k = L3.length := by omega
            as_aux_lemma =>
              have B20 := HQ17.out.pl.bl.trans (hbm.mono HQ17.out.pl.bl.size)
              have haw : Calls Tryz.prog 8 #[] wr (fun e w' => e = .returned (.bool true) ∧ Below wr.heap.size wr w') := awake_any wr (HH.out.below B20 hp0)
              have hle : (rs.length : Int) ≤ L3.length := by omega
              go_wp2_with fail
              refine haw.mono ?_
              rintro e w21 ⟨rfl, hb21⟩
              go_wp2_with fail
              go_ret
              exact ⟨rfl, B20.trans (hb21.mono B20.size)⟩
end Go.Proofs.YtljmdcegcckblaaGreatDoor
/- P12.8, P12.9: DataQuiet: the row proved, and its tied card. -/
namespace Go.Proofs.YtljmdcegcckblaaGreatDoor
open Go.ChangeShapes Go.WideShapes Go.ChangeAt Go.RowKit Go.Joins Go.Deep

section
variable {H : Type} {enc : TypeId × Value → H} {W : World}
set_option maxRecDepth 100000 in
theorem open_act_q {r : Reach} {b0 : Nat} {v : Value} {d : DataW H} {p : List MemPlace} (hv : Value.okWide Tryz.prog W r b0 41 v) (h : DataW.Trod enc Tryz.prog W 0 (fun _ => true) true 41 v d p) :
    ∃ (wh f kd off n size : Int) (A : Option Addr) (m c : Nat) (s : ByteArray), v = .agg #[.int .u8 wh, .int .u8 f, .int .i64 kd, .int .i64 off, .int .i64 n, .int .i64 size, .slice A m c, .string s] ∧
      (-9223372036854775808 ≤ off ∧ off ≤ 9223372036854775807) ∧ (-9223372036854775808 ≤ n ∧ n ≤ 9223372036854775807) ∧ s.size ≤ maxLen := by
  obtain ⟨cs, rfl, hsz⟩ := okWide_struct Tryz.underlying41 hv
  rw [Tryz.cellsAct] at hsz
  obtain ⟨l0⟩ := cs
  obtain ⟨fuel, hf⟩ := h
  obtain ⟨wh, f, kd, off, n, size, A, m, c, l, s, e, -, -, -, wo, wn, -, -, -, -, -, -, ws⟩ := open_act_cells (cs := l0) hsz (by simpa [Value.cells] using hf)
  subst e
  exact ⟨wh, f, kd, off, n, size, A, m, c, s, rfl, wf_i64_iff wo, wf_i64_iff wn, ws⟩
end

set_option maxRecDepth 100000 in
theorem quiet_lifted (os : Os) (started : os.Started) (H : Type) (enc : TypeId × Value → H) :
    ReturnsInHanded {} Tryz.checked os 5 .any (fun w args => (Rows.dataQuietSpec.pre enc Tryz.prog Tryz.f5 [] false w args ∧ laidMetH Tryz.prog half1 w) ∧ sizedMet enc Tryz.prog Tryz.f5 (OpenSpec.ofChange Rows.dataQuietSpec) false w args)
      (Rows.dataQuietSpec.post enc Tryz.prog Tryz.f5 false true false false) := by
  refine returnsInHanded_of_change_and (C := Tryz.checked) (X := fun w _ => laidMetH Tryz.prog half1 w) (fun _ _ _ hh h => h.of_heap hh) Tryz.own started (by kernel_rfl) Tryz.func5
    (ChangeSpec.witness_shaped (enc := enc) (C := Tryz.checked) (os := os) (X := fun w _ => laidMetH Tryz.prog half1 w) false (World.doorLaid Tryz.prog 400 os) #[.agg #[.int .u8 0, .int .u8 0], .string ⟨#[]⟩, .agg #[.int .u8 0, .int .u8 0, .int .i64 0, .int .i64 0, .int .i64 0, .int .i64 0, .slice none 0 0, .string ⟨#[]⟩]] 8 rfl (World.shaped_of_RefB (by kernel_rfl) (by kernel_rfl)) (by kernel_rfl) (by kernel_rfl) (by kernel_rfl) (door_met os _)) ?_
  intro W base args ds gs before hval0 hW _ _ hL _
  have hval : ∀ (j : Nat) t v, Tryz.f5.params[j]? = some t → args[j]? = some v → Value.okWide Tryz.prog W .any base t v := hval0
  have hW' := hW
  obtain ⟨p, q, hA0, hV, rfl, hfz, hnd⟩ := hW
  have hA : DataW.TrodAll enc Tryz.prog W 0 (fun _ => true) true Tryz.f5.params.toList args.toList ds p := hA0
  rw [Tryz.params5] at hA hval
  obtain ⟨v0, v1, v2, d0, d1, d2, p0, p1, p2, rfl, rfl, rfl, h0, h1, h2⟩ := trodAll_three hA
  obtain ⟨rfl, rfl⟩ := trodVars_none hV
  have hH := half_of_laid hL
  have h0k := h0
  have h1k := h1
  have h2k := h2
  clear hA0 hval0
  simp only [List.append_nil] at hW'
  have hlt0 : ∀ x ∈ p0, x.block < W.heap.size := fun x hx => by simpa using hW'.lt x (by simp [hx])
  have hlt1 : ∀ x ∈ p1, x.block < W.heap.size := fun x hx => by simpa using hW'.lt x (by simp [hx])
  have hlt2 : ∀ x ∈ p2, x.block < W.heap.size := fun x hx => by simpa using hW'.lt x (by simp [hx])
  obtain ⟨jn, ino, rfl, hj, hi⟩ := open_start (hval 0 23 v0 rfl rfl) h0
  obtain ⟨s, rfl, -, -, hs⟩ := Go.ChangeMaps.open_string Tryz.underlying9 (hval 1 9 v1 rfl rfl) h1
  obtain ⟨wh, f, kd, off, n, size, A, m, c, t, rfl, ho, hn, ht⟩ := open_act_q (hval 2 41 v2 rfl rfl) h2
  refine (dataQuiet_any jn ino hj hi s hs wh f kd off n size A m c t ht ho hn W hH).mono fun e W' ⟨he, hnx⟩ => ?_
  subst he
  refine ⟨_, rfl, _, _, _, [], p0 ++ (p1 ++ p2), [], hW', ?_, ?_, rfl, hnx.frame _, fun h => by cases h⟩
  · exact trodAll_mk1 (shut_bool Tryz.underlying4 true)
  · exact trodAll_mk3 (Below.trod Tryz.laidOut (by kernel_rfl) (of_decide_eq_true (by kernel_rfl)) h0k hnx hlt0) (Below.trod Tryz.laidOut (by kernel_rfl) (of_decide_eq_true (by kernel_rfl)) h1k hnx hlt1) (Below.trod Tryz.laidOut (by kernel_rfl) (of_decide_eq_true (by kernel_rfl)) h2k hnx hlt2)

theorem dataQuiet_holds : Rows.DataQuietSaid :=
  OpenClaim.holds_of_wide 5 Tryz.f5 rfl rfl rfl rfl rfl rfl rfl ⟨rfl, rfl, rfl, rfl, rfl⟩ rfl rfl rfl rfl rfl (by kernel_rfl) Tryz.func5 (by kernel_rfl)
    (of_decide_eq_true (by kernel_rfl)) (by unfold Func.isWrapper; first | (rw [if_pos (by decide +kernel)]; kernel_rfl) | (rw [if_neg (by decide +kernel)]; exact ⟨rfl, rfl⟩))
    (fun os started H enc _ => quiet_lifted os started H enc)

theorem dataQuietCard_holds : Rows.DataQuietCardSaid :=
  Claim7.holds_tied_plain_at .later [] [.data] true (true, "13a9981fa89d584258343d5f94a49ba00e5d7457fcac4b4ffe77bfe81a809aa0") false
    dataQuiet_holds (fun _ h => by cases h) (by kernel_rfl) (fun _ h => by cases h) dataQuiet_row_tie rfl ⟨rfl, rfl⟩ (by kernel_rfl) rfl
    (fun f fn hf hfn => by
      obtain rfl : f = 5 := Option.some.inj ((show Tryz.prog.funcNamed "limewash/limewashlaw12.DataQuiet" = some 5 by kernel_rfl).symm.trans hf) |>.symm
      obtain rfl : fn = Tryz.f5 := (Option.some.inj (Tryz.func5.symm.trans hfn)).symm
      exact ⟨by kernel_rfl, fun j t ht => by
        rw [Tryz.params5] at ht
        have hm : t ∈ [23, 9, 41] := by simpa using Array.mem_of_getElem? ht
        have hall : ([23, 9, 41].all fun u => !Tryz.prog.wantsStandIn u) = true := by kernel_rfl
        exact (show Tryz.prog.wantsStandIn t = false by simpa using List.all_eq_true.1 hall t hm)⟩)
    (by kernel_rfl)

#print axioms dataQuietCard_holds
end Go.Proofs.YtljmdcegcckblaaGreatDoor
