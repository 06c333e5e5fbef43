/- Parts of the proof, put together by program: FB, FC. -/
import Derived.Test.YtljmdcegcckblaaGreatDoorPart52
import Derived.Test.YtljmdcegcckblaaGreatDoorPart44
import Derived.BigQuiet
import Derived.Deep.CutRange
import Derived.Deep.CutBlock
/- P12.9: DataCommits, walked. -/
namespace Go.Proofs.YtljmdcegcckblaaGreatDoor
open Go.RowKit Go.Maps

/-- A transaction on its device; both are younger than the world w0. -/
structure Play (w0 w : World) (T : Nat) (F : List Nat) (D : Nat) (y : TxS) (B : List Nat) (x : DevS) : Prop where
  td : TD w T F D y B x
  bl : Below w0.heap.size w0 w
  fl : ∀ b ∈ F, w0.heap.size ≤ b
  bb : ∀ b ∈ B, w0.heap.size ≤ b

section
variable {w0 w w' : World} {T : Nat} {F F' : List Nat} {D : Nat} {y y' : TxS} {B B' : List Nat} {x x' : DevS}
theorem Play.below (h : Play w0 w T F D y B x) (hb : Below w.heap.size w w') : Play w0 w' T F D y B x := ⟨h.td.below hb, h.bl.trans (hb.mono h.bl.size), h.fl, h.bb⟩
theorem Play.did (h : Play w0 w T F D y B x) (ht : TxAt w' T F' D y') (g : Grow w F w' F') : Play w0 w' T F' D y' B x :=
  ⟨h.td.grow ht g, h.bl.trans (g.below h.bl.size h.fl), g.lo h.bl.size h.fl, h.bb⟩
theorem Play.drewN (h : Play w0 w T F D y B x) (n : Nat) : Play w0 (w.drewN n) T F D y B x := h.below (below_drewN' (Below.refl _ _) n)
theorem Play.size (h : Play w0 w T F D y B x) : w0.heap.size ≤ w.heap.size := h.bl.size
theorem Play.half (h : Play w0 w T F D y B x) : HalfAt w := h.td.dev.half
theorem Play.endKeep (h : Play w0 w T F D y B x) : Grow w F (w.setCell ⟨T, 20, none⟩ (.bool true)) F := ⟨KeepEx.setCell w (.inl h.td.tx.TF) _, fun _ hb => .inl hb⟩
theorem Play.end_ (h : Play w0 w T F D y B x) : Play w0 (w.setCell ⟨T, 20, none⟩ (.bool true)) T F D y.end_ B x := h.did h.td.tx.ended h.endKeep
theorem Play.keep (h : Play w0 w T F D y B x) (ht : TD w' T F' D y' B' x') (g : Grow w (F ++ B) w' (F' ++ B')) : Play w0 w' T F' D y' B' x' :=
  have hF : ∀ b ∈ F ++ B, w0.heap.size ≤ b := fun b hb => (List.mem_append.1 hb).elim (h.fl b) (h.bb b)
  have hn := g.lo h.bl.size hF
  ⟨ht, h.bl.trans (g.below h.bl.size hF), fun b hb => hn b (List.mem_append_left _ hb), fun b hb => hn b (List.mem_append_right _ hb)⟩
theorem Grow.appR (h : Grow w F w' F') (B : List Nat) : Grow w (F ++ B) w' (F' ++ B) :=
  ⟨h.keep.widen fun _k hk => List.mem_append_left _ hk, fun b hb => (List.mem_append.1 hb).elim (fun hb => (h.new b hb).imp (List.mem_append_left _) id) (fun hb => .inl (List.mem_append_right _ hb))⟩
theorem Play.row (h : Play w0 w T F D y B x) {g : Nat} (h1 : g ∉ F) (h2 : g ∉ B) (h00 : 0 < w0.heap.size) (h0 : w0.heap.size ≤ g) (cs : Array Value) : Play w0 (w.setRow g cs) T F D y B x :=
  have r := Run.row (⟨h.td, h.bl, h.fl⟩ : Run w0 w T F D y B x) h1 h2 h00 h0 cs
  ⟨r.td, r.bl, r.fl, h.bb⟩
theorem Play.full (h : Play w0 w T F D y B x) (ht : TD w' T F' D y' B x) (g : Grow w F w' F') : Play w0 w' T F' D y' B x := ⟨ht, h.bl.trans (g.below h.bl.size h.fl), g.lo h.bl.size h.fl, h.bb⟩
theorem Play.reads (h : Play w0 w T F D y B x) {A : Option Addr} {xs : List Value} (hr : Reads w0 A xs) : Reads w A xs := hr.below h.bl
end

section
variable {w0 w : World} {T : Nat} {F : List Nat} {D : Nat} {y : TxS} {B : List Nat} {x : DevS}
theorem play_abort (h : Play w0 w T F D y B x) (he : y.ended = false) :
    Calls Tryz.prog 20 #[.pointer (some ⟨T, 0, none⟩)] w (fun e w' => e = .returned (.int .i64 0) ∧ ∃ F', Play w0 w' T F' D y.end_ B x ∧ Grow w (F ++ B) w' (F' ++ B)) := by
  refine (abort_tx T F D y w h.td.tx he).mono ?_
  rintro e w' ⟨rfl, rfl⟩
  exact ⟨rfl, F, h.end_, h.endKeep.appR B⟩
theorem play_commit {x' : DevS} (h : Play w0 w T F D y B x) (hc : y.Clean) (hE : y.stateE = 0) (hcm : y.commit x = (0, x')) :
    Calls Tryz.prog 21 #[.pointer (some ⟨T, 0, none⟩)] w fun e w' => e = .returned (.int .i64 0) ∧ ∃ B', Play w0 w' T F D y.end_ B' x' ∧ Grow w (F ++ B) w' (F ++ B') := by
  refine (commit_tx T F D y B x w h.td hc hE).mono ?_
  rintro e w' ⟨he, B', ht, g⟩
  rw [hcm] at he ht
  exact ⟨he, B', h.keep ht g, g⟩
theorem play_begin {s j i : Int} {us : List Bool} {N : Nat} (h : Play w0 w T F D y B x) (hr : rgE s j i = 0) (hl : Live x s j i us N) :
    Calls Tryz.prog 22 #[.pointer (some ⟨D, 0, none⟩), .agg #[.int .i64 s, .int .i64 j, .int .i64 i]] w fun e w' => ∃ T' F', e = .returned (.tuple #[.pointer (some ⟨T', 0, none⟩), .int .i64 0]) ∧ Play w0 w' T' F' D (begTx s j i us) B x ∧ Grow w (F ++ B) w' (F' ++ B) := by
  obtain ⟨h1, h2, h3⟩ := begin_live hr hl
  refine (begin_dev D s j i B x w h.td.dev h3).mono ?_
  rintro e w' ⟨hb, E, hE, ⟨h5, -⟩ | ⟨-, T', F', rfl, ht, hF⟩⟩
  · exact absurd ((h1 E).1 hE) h5
  rw [h2] at ht
  exact ⟨T', F', rfl, ⟨⟨ht, h.td.dev.below hb, fun b hb hm => by have := hF b hb; have := (h.td.dev.lt b hm).2; omega⟩, h.bl.trans (hb.mono h.bl.size), fun b hb => Nat.le_trans h.bl.size (hF b hb), h.bb⟩, KeepEx.of_below hb, fun b hm => (List.mem_append.1 hm).elim (fun hm => .inr (hF b hm)) (fun hm => .inl (List.mem_append_right _ hm))⟩
end
theorem Saved.row {w : World} {G : List Nat} {S : Nat} {a1 a2 : Option Addr} {c1 c2 : Nat} {sta : List (List Int)} {tk pw : Int} {off : Bool} (h : Saved w G S a1 a2 c1 c2 sta tk pw off) {g : Nat} (h0 : S ≠ g) (h1 : ∀ q, (Value.slice a1 sta.length c1).ownBlock = some q → q ≠ g) (h2 : ∀ q, (Value.slice a2 0 c2).ownBlock = some q → q ≠ g) (cs : Array Value) : Saved (w.setRow g cs) G S a1 a2 c1 c2 sta tk pw off :=
  ⟨(setRow_other _ _ _ _ h0).trans h.box, own_block h.os fun q hq => setRow_other _ _ _ _ (h1 q hq), own_block h.oc fun q hq => setRow_other _ _ _ _ (h2 q hq), h.nb, h.ns, h.nc⟩
theorem Keeps.app {w w' : World} {F' B : List Nat} {A : Option Addr} {c : Nat} {l : List Int} (h : Keeps w' F' A c l) (hge : ∀ a, A = some a → w.heap.size ≤ a.block) (hB : ∀ b ∈ B, b < w.heap.size) : Keeps w' (F' ++ B) A c l :=
  ⟨h.sl, fun a e => ⟨fun hm => (List.mem_append.1 hm).elim (h.out a e).1 (fun hm => by have := hB _ hm; have := hge a e; omega), (h.out a e).2⟩⟩
theorem Keeps.left {w : World} {F B : List Nat} {A : Option Addr} {c : Nat} {l : List Int} (h : Keeps w (F ++ B) A c l) : Keeps w F A c l := ⟨h.sl, fun a e => ⟨fun hm => (h.out a e).1 (List.mem_append_left _ hm), (h.out a e).2⟩⟩
/-- Between two acts. -/
structure CmSt (w0 w : World) (T D N7 NL S : Nat) (B : List Nat) (x : DevS) (F : List Nat) (y : TxS) (ls : Nat → List Int) (tx : Nat → ByteArray) (As : Nat → Option Addr) (cs : Nat → Nat) (a1 a2 : Option Addr) (c1 c2 : Nat) (j9 i9 : Int) (us : List Bool) : Prop where
  pl : Play w0 w T F D y B x
  b7 : Blk w N7 38 (bookC (slOf As cs ls 0) (slOf As cs ls 1) (slOf As cs ls 2) (zsOf tx 0) (zsOf tx 1))
  kp : ∀ k, k < 3 → Keeps w (F ++ B) (As k) (cs k) (ls k)
  sv : Saved w (F ++ B) S a1 a2 c1 c2 x.stable x.taken x.power x.off
  lay : Blk w NL 32 #[.int .i64 64, .int .i64 j9, .int .i64 i9]
  nf : N7 ∉ F ++ B
  lf : NL ∉ F ++ B
  hc : HC 64 j9 i9 us y
  b2 : Book2 y x (ls 0) (ls 1) (ls 2) (tx 0) (tx 1)
  k7 : ∀ k a, k < 3 → As k = some a → a.block ≠ N7
section
variable {w0 w w' : World} {T D N7 NL S : Nat} {B F F' : List Nat} {x : DevS} {y y' : TxS} {ls : Nat → List Int} {tx : Nat → ByteArray} {As : Nat → Option Addr} {cs : Nat → Nat} {a1 a2 : Option Addr} {c1 c2 : Nat} {j9 i9 : Int} {us : List Bool}
theorem CmSt.below (h : CmSt w0 w T D N7 NL S B x F y ls tx As cs a1 a2 c1 c2 j9 i9 us) (hb : Below w.heap.size w w') : CmSt w0 w' T D N7 NL S B x F y ls tx As cs a1 a2 c1 c2 j9 i9 us :=
  ⟨h.pl.below hb, h.b7.belowAll hb, fun k hk => (h.kp k hk).below hb, h.sv.below hb, h.lay.belowAll hb, h.nf, h.lf, h.hc, h.b2, h.k7⟩
theorem CmSt.row (h : CmSt w0 w T D N7 NL S B x F y ls tx As cs a1 a2 c1 c2 j9 i9 us) {g : Nat} (h1 : g ∉ F ++ B) (h00 : 0 < w0.heap.size) (h0 : w0.heap.size ≤ g) (h7 : N7 ≠ g) (hL : NL ≠ g) (hS : S ≠ g) (hs1 : ∀ q, (Value.slice a1 x.stable.length c1).ownBlock = some q → q ≠ g) (hs2 : ∀ q, (Value.slice a2 0 c2).ownBlock = some q → q ≠ g) (hk : ∀ k a, k < 3 → As k = some a → a.block ≠ g) (vs : Array Value) :
    CmSt w0 (w.setRow g vs) T D N7 NL S B x F y ls tx As cs a1 a2 c1 c2 j9 i9 us :=
  ⟨h.pl.row (fun hm => h1 (List.mem_append_left _ hm)) (fun hm => h1 (List.mem_append_right _ hm)) h00 h0 vs, (setRow_other w g N7 vs h7).trans h.b7, fun k hk9 => (h.kp k hk9).row (fun a e => hk k a hk9 e) vs, h.sv.row hS hs1 hs2 vs, (setRow_other w g NL vs hL).trans h.lay, h.nf, h.lf, h.hc, h.b2, h.k7⟩
end
/-- The three answers, of which m are there. -/
abbrev bef3 (v0 v1 v2 : Array Value) : Array Value := v0 ++ v1 ++ v2
def befV (tx : Nat → ByteArray) (PA : Option Addr) (pn pk : Nat) : Array Value := #[.slice none 0 0, .slice none 0 0, .string (tx 0), .int .i64 0, .int .i64 0, .slice none 0 0, .slice none 0 0, .string (tx 1), .int .i64 0, .int .i64 0, .slice none 0 0, .slice PA pn pk, .string ⟨#[]⟩, .int .i64 0, .int .i64 0]
def BefAt (W : World) (NB : Nat) (F B : List Nat) (tx : Nat → ByteArray) (lp : List ByteArray) (m : Nat) : Prop :=
  (m = 0 ∧ Blk W NB 86 #[.slice none 0 0, .slice none 0 0, .string ⟨#[]⟩, .int .i64 0, .int .i64 0, .slice none 0 0, .slice none 0 0, .string ⟨#[]⟩, .int .i64 0, .int .i64 0, .slice none 0 0, .slice none 0 0, .string ⟨#[]⟩, .int .i64 0, .int .i64 0]) ∨
  (m = 1 ∧ Blk W NB 86 #[.slice none 0 0, .slice none 0 0, .string (tx 0), .int .i64 0, .int .i64 0, .slice none 0 0, .slice none 0 0, .string ⟨#[]⟩, .int .i64 0, .int .i64 0, .slice none 0 0, .slice none 0 0, .string ⟨#[]⟩, .int .i64 0, .int .i64 0]) ∨
  (m = 2 ∧ Blk W NB 86 #[.slice none 0 0, .slice none 0 0, .string (tx 0), .int .i64 0, .int .i64 0, .slice none 0 0, .slice none 0 0, .string (tx 1), .int .i64 0, .int .i64 0, .slice none 0 0, .slice none 0 0, .string ⟨#[]⟩, .int .i64 0, .int .i64 0]) ∨
  (m = 3 ∧ ∃ PA pk, Blk W NB 86 (befV tx PA lp.length pk) ∧ Reads W PA (lp.map .string) ∧ ∀ a, PA = some a → a.block ∉ F ++ B ∧ NB < a.block)

set_option maxRecDepth 100000 in
set_option maxHeartbeats 16000000 in
theorem dataCommits_any (jn ino : Int) (hjn : 0 ≤ jn ∧ jn ≤ 255) (hin : 0 ≤ ino ∧ ino ≤ 255) (A : Option Addr) (c : Nat) (xs : List ActV) (hl : xs.length ≤ maxLen) (w : World) (hok : ∀ a ∈ xs, ActOk w a) (hH : HalfAt w) (hR : Reads w A (xs.flatMap actL)) :
    Calls Tryz.prog 6 #[.agg #[.int .u8 jn, .int .u8 ino], .slice A xs.length c] w fun e w' => e = .returned (.bool true) ∧ Below w.heap.size w w' := by
  have hp0 := hH.1
  have HH := Lib.hid hH
  have HOK := Lib.hid hok
  have HR := Lib.hid hR
  obtain ⟨wA, hA⟩ : ∃ wA, wA = w.alloc (.cells #[.int .u8 jn, .int .u8 ino] 23) := ⟨_, rfl⟩
  have bA : Blk wA w.heap.size 23 #[.int .u8 jn, .int .u8 ino] := by rw [hA]; exact Blk.new _ _ _
  have BA : Below w.heap.size w wA := by rw [hA]; exact (Below.refl _ _).alloc (Nat.le_refl _) _
  have f1 := far_any A c xs hl wA (hR.below BA)
  unfold maxLen at hl
  clear hH hok hR
  go_enter Tryz.func6, Tryz.ntmps6
  go_wp2_with fail
  rw [← hA]
  clear hA
  refine f1.mono ?_
  rintro e w1 ⟨rfl, hb1⟩
  have B1 := BA.trans (hb1.mono BA.size)
  have b1 := bA.belowAll hb1
  clear f1 bA BA hb1
  by_cases hfar : farB xs = true
  · rw [hfar]
    have haw : Calls Tryz.prog 8 #[] w1 (fun e w' => e = .returned (.bool true) ∧ Below w1.heap.size w1 w') := awake_any w1 (HH.out.below B1 hp0)
    go_wp2_with fail
    refine haw.mono ?_
    rintro e w2 ⟨rfl, hb2⟩
    go_wp2_with fail
    go_ret
    exact ⟨rfl, B1.trans (hb2.mono B1.size)⟩
  have hfar' : farB xs = false := by simpa using hfar
  rw [hfar']
  have hbb : (∀ a ∈ xs, a.s.size ≤ 900) ∧ xs.length ≤ 20 := by
    unfold farB at hfar'
    simp only [Bool.or_eq_false_iff, decide_eq_false_iff_not] at hfar'
    refine ⟨fun a ha => ?_, by omega⟩
    have := List.any_eq_false.1 hfar'.2 a ha
    unfold bigA at this
    simp at this
    omega
  have HB := Lib.hid hbb
  clear hfar hfar' hbb
  have c1 := b1.cells
  have l1 := b1.lt
  go_wp2_with fail
  refine (layout_any jn ino hjn hin w1).mono ?_
  rintro e w2 ⟨rfl, hb2⟩
  have B2 := B1.trans (hb2.mono B1.size)
  obtain ⟨w2a, hw2a⟩ : ∃ w2a, w2.alloc (.cells #[.int .i64 64, .int .i64 (8 + jn % 21), .int .i64 (1 + ino % 26)] 32) = w2a := ⟨_, rfl⟩
  obtain ⟨NL, hNL⟩ : ∃ NL, w2.heap.size = NL := ⟨_, rfl⟩
  have bL : Blk w2a NL 32 #[.int .i64 64, .int .i64 (8 + jn % 21), .int .i64 (1 + ino % 26)] := by rw [← hw2a, ← hNL]; exact Blk.new _ _ _
  have B2a : Below w.heap.size w w2a := by rw [← hw2a]; exact B2.alloc B2.size _
  have hrg := layout_rg jn ino
  have hj9 : 0 ≤ 8 + jn % 21 := by omega
  generalize 8 + jn % 21 = j9 at *
  generalize 1 + ino % 26 = i9 at *
  have hbg := begun_cache 64 j9 i9 hrg w2a (HH.out.below B2a hp0)
  have hNLg : w.heap.size ≤ NL := by have := B2.size; omega
  have HW2 := Lib.hid hw2a
  have HNL := Lib.hid hNL
  have HRG := Lib.hid hrg
  clear c1 l1 b1 B1 hb2 hw2a hNL B2 hrg
  go_upto_region 4 with fail
  rw [HW2.out, HNL.out]
  have cL := bL.cells
  have lL := bL.lt
  go_wp2_with fail
  refine hbg.mono ?_
  rintro e w3 ⟨D, T, F0, B, x, rfl, hfr, hca, ht, hb3, hF, hB⟩
  have B3 := B2a.trans (hb3.mono B2a.size)
  have p3 : Play w w3 T F0 D (freeTx 64 j9 i9) B x := ⟨ht, B3, fun b hb => Nat.le_trans B2a.size (hF b hb), fun b hb => Nat.le_trans B2a.size (hB b hb)⟩
  have bL3 := bL.belowAll hb3
  have hLF : NL ∉ F0 ++ B := fun hm => by
    rcases List.mem_append.1 hm with hm | hm
    · have := hF _ hm; have := bL.lt; omega
    · have := hB _ hm; have := bL.lt; omega
  have hhc : HC 64 j9 i9 (List.replicate (rgB 64 j9 i9).toNat false) (freeTx 64 j9 i9) := by
    rw [freeTx_beg]
    exact ⟨begTx_clean hj9 _, .beg _ _ _ _⟩
  have hbk : Book2 (freeTx 64 j9 i9) x [] [] [] ⟨#[]⟩ ⟨#[]⟩ := .nil _ _ rfl
  have HLV : Hid (Live x 64 j9 i9 (List.replicate (rgB 64 j9 i9).toNat false) 1000000) := Lib.hid hfr.live
  have HCA := Lib.hid hca
  generalize List.replicate (rgB 64 j9 i9).toNat false = us at *
  generalize freeTx 64 j9 i9 = y0 at *
  have hsv := save_td p3.td HCA.out
  clear hbg ht hb3 hF hB B2a B3 hjn hin cL lL bL hfr hca
  go_wp2_with fail
  refine hsv.mono ?_
  rintro e w4 ⟨a1, a2, c1, c2, rfl, o1, o2, hb4⟩
  obtain ⟨w5, hw5⟩ : ∃ w5, w5 = w4.alloc (.cells #[.slice a1 x.stable.length c1, .slice a2 0 c2, .int .i64 x.taken, .int .i64 x.power, .bool x.off] 83) := ⟨_, rfl⟩
  have s5 := Saved.made p3.td o1 o2 hb4 hw5
  have b45 : Below w4.heap.size w4 w5 := by rw [hw5]; exact (Below.refl _ _).alloc (Nat.le_refl _) _
  have hsz5 : w5.heap.size = w4.heap.size + 1 := by rw [hw5]; simp
  have b35 : Below w3.heap.size w3 w5 := hb4.trans (b45.mono hb4.size)
  obtain ⟨S, hS⟩ : ∃ S, S = w4.heap.size := ⟨_, rfl⟩
  rw [← hS] at s5
  obtain ⟨w6, hw6⟩ : ∃ w6, w6 = w5.alloc (.cells (bookC (.slice none 0 0) (.slice none 0 0) (.slice none 0 0) 0 0) 38) := ⟨_, rfl⟩
  have b56 : Below w5.heap.size w5 w6 := by rw [hw6]; exact (Below.refl _ _).alloc (Nat.le_refl _) _
  have p6 := (p3.below b35).below b56
  obtain ⟨N7, hN7⟩ : ∃ N7, N7 = w5.heap.size := ⟨_, rfl⟩
  have hlt5 := (p3.below b35).td.devlt
  have hN7g : w.heap.size ≤ N7 := by have := (p3.below b35).bl.size; omega
  have hL7 : NL ≠ N7 := by have := (bL3.belowAll b35).lt; omega
  have hS7 : S ≠ N7 := by omega
  have hs1 : ∀ q, (Value.slice a1 x.stable.length c1).ownBlock = some q → q < N7 := fun q hq => by have := (own_lt s5.os q hq).2; omega
  have hs2 : ∀ q, (Value.slice a2 0 c2).ownBlock = some q → q < N7 := fun q hq => by have := (own_lt s5.oc q hq).2; omega
  have p6' : CmSt w w6 T D N7 NL S B x F0 y0 (fun _ => []) (fun _ => ⟨#[]⟩) (fun _ => none) (fun _ => 0) a1 a2 c1 c2 j9 i9 us :=
    ⟨p6, by rw [hw6, hN7]; exact Blk.new _ _ _, fun k _ => ⟨slI_nil _, fun a h => by cases h⟩, s5.below b56, (bL3.belowAll b35).belowAll b56, fun hm => by have := hlt5 _ hm; omega, hLF, hhc, hbk, fun k a _ h => by cases h⟩
  have HW := Lib.hid hw5
  have H5 := Lib.hid hS
  have HW6 := Lib.hid hw6
  have H7 := Lib.hid hN7
  clear hsv p3 o1 o2 hb4 hw5 s5 b45 hsz5 b35 hS hw6 b56 p6 hN7 hlt5 bL3 hLF hhc hbk
  go_upto_region 8 with fail
  rw [← HW.out, ← H5.out]
  go_wp2_with fail
  rw [← HW6.out, ← H7.out]
  clear HW H5 HW6 H7
  go_loopw [10] (fun q wr => ∃ (k : Nat) (F : List Nat) (y : TxS) (ls : Nat → List Int) (tx : Nat → ByteArray) (As : Nat → Option Addr) (cs : Nat → Nat), k ≤ xs.length ∧ q = .int .i64 k ∧ CmSt w wr T D N7 NL S B x F y ls tx As cs a1 a2 c1 c2 j9 i9 us) (fun q _ => xs.length - (RowKit.intOf q).toNat)
  case atStart => exact ⟨0, F0, y0, _, _, _, _, Nat.zero_le _, rfl, p6'⟩
  case round =>
    obtain ⟨k, F, y, ls, tx, As, cs, hk, rfl, hr⟩ := hrel
    clear p6'
    by_cases hlt : k < xs.length
    · obtain ⟨ab, ao, rfl, -⟩ := acts_at (HR.out.below hr.pl.bl) hlt
      have hce := acts_cells HR.out hlt
      have hm := List.getElem_mem hlt
      have hoka := HOK.out _ hm
      have hs9 := HB.out.1 _ hm
      generalize xs[k] = act at *
      obtain ⟨wh, f, kd, off, n, size, LA, lm, lc, s⟩ := act
      simp only at hce hs9
      have hwh : 0 ≤ wh ∧ wh ≤ 255 := hoka.wh
      have hf : 0 ≤ f ∧ f ≤ 255 := hoka.f
      have HKA := Lib.hid hoka
      have HCE := Lib.hid hce
      clear hce hm hoka
      by_cases h7 : wh % 8 = 7
      · have g1 : wh.tmod 8 = 7 := by rw [← h7]; exact Int.tmod_eq_emod_of_nonneg hwh.1
        have e0 := (HCE.out _ hr.pl.bl).1
        go_wp2_with fail
        go_roundw
        case rel => exact ⟨k + 1, F, y, ls, tx, As, cs, by omega, by go_num, hr⟩
        case measure => simp [RowKit.intOf]; omega
      · have g1 : wh.tmod 8 = wh % 8 := Int.tmod_eq_emod_of_nonneg hwh.1
        have g2 : IntKind.u8.wrap (wh % 8) = wh % 8 := by rw [IntKind.wrap_u8]; omega
        have g3 : (wh % 8 == 7) = false := by simpa using h7
        have e0 := (HCE.out _ hr.pl.bl).1
        obtain ⟨f2, hf2⟩ : ∃ f2 : Nat, f % 2 = f2 := ⟨(f % 2).toNat, by omega⟩
        have hf3 : f2 < 2 := by omega
        have hsz2 : ∀ j, j < 2 → 0 ≤ zsOf tx j ∧ zsOf tx j ≤ 10000 := fun j hj => by
          have := (hr.b2.bk.lst hj).2.sz
          unfold zsOf; omega
        have hof : ∀ V, Calls Tryz.prog 11 #[.agg #[.int .u8 wh, .int .u8 f, .int .i64 kd, .int .i64 off, .int .i64 n, .int .i64 size, .slice LA lm lc, .string s], .agg #[slOf As cs ls 0, slOf As cs ls 1, slOf As cs ls 2, .int .i64 (zsOf tx 0), .int .i64 (zsOf tx 1)]] V (OfPost V f2 (slOf As cs ls) (zsOf tx) s) := fun V =>
          of_act (As 0) (As 1) (As 2) (ls 0).length (cs 0) (ls 1).length (cs 1) (ls 2).length (cs 2) (zsOf tx) wh f kd off n size (.slice LA lm lc) s (by omega) hsz2 HKA.out.off HKA.out.n HKA.out.size hf hwh h7 f2 hf2 (slOf As cs ls) rfl rfl rfl V
        have HOF := Lib.hid hof
        have hsc : ∀ V, Below w.heap.size w V → Blk V N7 38 (bookC (slOf As cs ls 0) (slOf As cs ls 1) (slOf As cs ls 2) (zsOf tx 0) (zsOf tx 1)) → (fun W => W.cell? ⟨ab, ao + k * 8, none⟩ = some (.int .u8 wh) ∧ W.cell? ⟨ab, ao + k * 8 + 1, none⟩ = some (.int .u8 f) ∧ W.cell? ⟨ab, ao + k * 8 + 2, none⟩ = some (.int .i64 kd) ∧ W.cell? ⟨ab, ao + k * 8 + 3, none⟩ = some (.int .i64 off) ∧ W.cell? ⟨ab, ao + k * 8 + 4, none⟩ = some (.int .i64 n) ∧ W.cell? ⟨ab, ao + k * 8 + 5, none⟩ = some (.int .i64 size) ∧ W.cell? ⟨ab, ao + k * 8 + 6, none⟩ = some (.slice LA lm lc) ∧ W.cell? ⟨ab, ao + k * 8 + 7, none⟩ = some (.string s) ∧ W.cell? ⟨N7, 0, none⟩ = some (slOf As cs ls 0) ∧ W.cell? ⟨N7, 1, none⟩ = some (slOf As cs ls 1) ∧ W.cell? ⟨N7, 2, none⟩ = some (slOf As cs ls 2) ∧ W.cell? ⟨N7, 3, none⟩ = some (.int .i64 (zsOf tx 0)) ∧ W.cell? ⟨N7, 4, none⟩ = some (.int .i64 (zsOf tx 1))) V := fun V hb b => by
          obtain ⟨q0, q1, q2, q3, q4, q5, q6, q7⟩ := HCE.out V hb
          exact ⟨q0, q1, q2, q3, q4, q5, q6, q7, (b.cells 0).trans rfl, (b.cells 1).trans rfl, (b.cells 2).trans rfl, (b.cells 3).trans rfl, (b.cells 4).trans rfl⟩
        have HSC := Lib.hid hsc
        have hbge : w.heap.size ≤ wr.heap.size := hr.pl.bl.size
        have hrbl := Lib.hid hr.pl.bl
        have hb7 := Lib.hid hr.b7
        clear hof hsz2 hsc
        go_upto_region 13 with fail
        go_cut [11] from 35 to 90 (fun s11 wx => ∃ (C : Nat) (cw ck cz co cn : Int) (cl : Value) (P : Option Addr) (pn pc : Nat) (v0 : World), s11 = .pointer (some ⟨C, 0, none⟩) ∧ Below wr.heap.size wr wx ∧ wr.heap.size ≤ C ∧ Blk wx C 44 (callC cw ck cz co cn cl s (.slice P pn pc)) ∧ wr.heap.size ≤ v0.heap.size ∧ OfSpec v0 wx f2 (slOf As cs ls) (zsOf tx) cw ck cz co cn cl P pn)
        case first =>
          as_aux_lemma =>
            clear hr e0 g1 g2 g3
            refine wp_region_mix [.take 0, .take 1, .take 2, .take 3, .take 4, .par 6 [5], .one 7] 7 (fun W => W.cell? ⟨ab, ao + k * 8, none⟩ = some (.int .u8 wh) ∧ W.cell? ⟨ab, ao + k * 8 + 1, none⟩ = some (.int .u8 f) ∧ W.cell? ⟨ab, ao + k * 8 + 2, none⟩ = some (.int .i64 kd) ∧ W.cell? ⟨ab, ao + k * 8 + 3, none⟩ = some (.int .i64 off) ∧ W.cell? ⟨ab, ao + k * 8 + 4, none⟩ = some (.int .i64 n) ∧ W.cell? ⟨ab, ao + k * 8 + 5, none⟩ = some (.int .i64 size) ∧ W.cell? ⟨ab, ao + k * 8 + 6, none⟩ = some (.slice LA lm lc) ∧ W.cell? ⟨ab, ao + k * 8 + 7, none⟩ = some (.string s) ∧ W.cell? ⟨N7, 0, none⟩ = some (slOf As cs ls 0) ∧ W.cell? ⟨N7, 1, none⟩ = some (slOf As cs ls 1) ∧ W.cell? ⟨N7, 2, none⟩ = some (slOf As cs ls 2) ∧ W.cell? ⟨N7, 3, none⟩ = some (.int .i64 (zsOf tx 0)) ∧ W.cell? ⟨N7, 4, none⟩ = some (.int .i64 (zsOf tx 1))) (by kernel_rfl) (by kernel_rfl) (fun _ _ _ _ _ h => h) (HSC.out _ hrbl.out.drew (hb7.out.drew)) ?_
            simp only [List.map_cons, List.map_nil, Ms.fill, List.getD_cons_zero, List.getD_cons_succ]
            iterate 5 (refine mixT_take (by rfl) ?_ (fun w' hw' => ?_) ?_; rotate_left; (focus (go_simp; (try with_reducible rfl))); (try simp only [Act.put, List.setIfInBounds_toArray, List.set_cons_zero, List.set_cons_succ]))
            refine mixT_par fun K0 hK0 => ?_
            refine parT_cons (fun K hK => ?_) (fun K hK => ?_)
            · obtain ⟨X, hX⟩ : ∃ X, X = (wr.alloc (.cells #[.int .i64 0, .int .i64 0, .int .i64 0, .int .i64 0, .int .i64 0, .slice none 0 0, .string ⟨#[]⟩, .slice none 0 0] 44)).drew := ⟨_, rfl⟩
              have bX : Blk X wr.heap.size 44 #[.int .i64 0, .int .i64 0, .int .i64 0, .int .i64 0, .int .i64 0, .slice none 0 0, .string ⟨#[]⟩, .slice none 0 0] := by rw [hX]; exact (Blk.new _ _ _).drew
              have BX : Below wr.heap.size wr X := by rw [hX]; exact ((Below.refl _ _).alloc (Nat.le_refl _) _).drew
              go_simp
              rw [← hX]
              refine hK _ _ (HSC.out _ (hrbl.out.trans (BX.mono hbge)) (hb7.out.belowAll BX)) ?_
              clear hK K hX
              refine chainT_cons (fun K hK => ?_)
              go_simp
              refine (HOF.out X).mono ?_
              rintro e w5 ⟨hb5, cw, ck, cz, co, cn, cl, P, pn, pc, rfl, hsp⟩
              obtain ⟨ca, cln, clk, rfl⟩ := hsp.clv
              have B5 := BX.trans (hb5.mono BX.size)
              have bX5 := bX.belowAll hb5
              refine hK _ _ (HSC.out _ (hrbl.out.trans (B5.mono hbge)) (hb7.out.belowAll B5)) ?_
              clear hK K
              refine chainT_nil ?_
              refine hK0 _ _ ?_
              clear hK0 K0
              refine mixT_step (by rfl) fun K hK => ?_
              have hst := storeRow (ty := 44) (vs := callC cw ck cz co cn (.slice ca cln clk) s (.slice P pn pc)) bX5 rfl (by simp [Value.oneCell']) (by kernel_rfl)
              refine op_storeBy _ _ _ rfl _ _ rfl rfl hst ?_
              refine hK _ _ (fun h => absurd h (by decide)) ?_
              clear hK K
              refine mixT_nil ?_
              go_wp2_with fail
              go_meet
              case rel => exact ⟨wr.heap.size, cw, ck, cz, co, cn, .slice ca cln clk, P, pn, pc, X, rfl, Below.setRow B5 (Nat.le_refl _) _, Nat.le_refl _, bX5.setRow, BX.size, hsp.row (fun b h1 h2 e => by have := bX.lt; omega) _⟩
            · go_simp
              refine (HOF.out wr.drew).mono ?_
              rintro e w5 ⟨hb5, cw, ck, cz, co, cn, cl, P, pn, pc, rfl, hsp⟩
              obtain ⟨ca, cln, clk, rfl⟩ := hsp.clv
              have B5 : Below wr.heap.size wr w5 := (Below.refl _ _).drew.trans hb5
              refine hK _ _ (HSC.out _ (hrbl.out.trans (B5.mono hbge)) (hb7.out.belowAll B5)) ?_
              clear hK K
              refine parT_nil (fun K hK => ?_)
              obtain ⟨X, hX⟩ : ∃ X, X = w5.alloc (.cells #[.int .i64 0, .int .i64 0, .int .i64 0, .int .i64 0, .int .i64 0, .slice none 0 0, .string ⟨#[]⟩, .slice none 0 0] 44) := ⟨_, rfl⟩
              have bX : Blk X w5.heap.size 44 #[.int .i64 0, .int .i64 0, .int .i64 0, .int .i64 0, .int .i64 0, .slice none 0 0, .string ⟨#[]⟩, .slice none 0 0] := by rw [hX]; exact Blk.new _ _ _
              have BX : Below wr.heap.size wr X := by rw [hX]; exact B5.alloc B5.size _
              have h5X : Below w5.heap.size w5 X := by rw [hX]; exact (Below.refl _ _).alloc (Nat.le_refl _) _
              go_simp
              rw [← hX]
              refine hK _ _ (HSC.out _ (hrbl.out.trans (BX.mono hbge)) (hb7.out.belowAll BX)) ?_
              clear hK K hX
              refine hK0 _ _ ?_
              clear hK0 K0
              refine mixT_step (by rfl) fun K hK => ?_
              have hst := storeRow (ty := 44) (vs := callC cw ck cz co cn (.slice ca cln clk) s (.slice P pn pc)) bX rfl (by simp [Value.oneCell']) (by kernel_rfl)
              refine op_storeBy _ _ _ rfl _ _ rfl rfl hst ?_
              refine hK _ _ (fun h => absurd h (by decide)) ?_
              clear hK K
              refine mixT_nil ?_
              go_wp2_with fail
              go_meet
              case rel => exact ⟨w5.heap.size, cw, ck, cz, co, cn, .slice ca cln clk, P, pn, pc, wr.drew, rfl, Below.setRow BX B5.size _, B5.size, bX.setRow, by simp, hsp.made h5X _⟩
        case rest =>
          as_aux_lemma =>
            obtain ⟨C, cw, ck, cz, co, cn, cl, P, pn, pc, v0, rfl, hbc, hCg, bC, hv0, hsp⟩ := hcut
            obtain ⟨ca, cln, clk, rfl⟩ := hsp.clv
            have hcw := hsp.cw
            have hr1 := hr.below hbc
            have hFm : ∀ b ∈ F ++ B, b < wr.heap.size := hr.pl.td.devlt
            have hCF : C ∉ F ++ B := fun hm => by have := hFm _ hm; omega
            have hC7 : C ≠ N7 := by have := hr.b7.lt; omega
            have hdn := done_c T F D y B x 64 j9 i9 us f2 hf3 ls tx As cs s (by omega) cw ck cz co cn _ P pn pc v0 wc wc hr1.pl.td hr1.hc hr1.b2 (fun k hk => (hr1.kp k hk).left) (fun b hb => by have := hFm b (List.mem_append_left _ hb); omega) (Below.refl _ _) hsp
            have cC := bC.cells
            have lC := bC.lt
            have hwcg : wr.heap.size ≤ wc.heap.size := hbc.size
            clear hr hsp e0 g1 g2 g3 HOF
            go_wp2_with fail
            refine hdn.mono ?_
            rintro e w6 ⟨RA, ln, lk, PA, pm, pk, t, z, E, y', F', rfl, ht, g, hhc, hE3, hE0⟩
            have gB := g.appR B
            have hBlt : ∀ b ∈ B, b < wc.heap.size := fun b hb => (hr1.pl.td.dev.lt b hb).2
            have pl6 := hr1.pl.full ht g
            have b76 := gB.blk hr1.b7 hr1.nf
            have kp6 : ∀ k, k < 3 → Keeps w6 (F' ++ B) (As k) (cs k) (ls k) := fun k hk => (hr1.kp k hk).grow gB
            have sv6 := hr1.sv.grow gB
            have ly6 := gB.blk hr1.lay hr1.lf
            have nf6 := gB.notin hr1.nf hr1.b7.lt
            have lf6 := gB.notin hr1.lf hr1.lay.lt
            have bC6 := gB.blk bC hCF
            have hCF6 := gB.notin hCF bC.lt
            have k76 := hr1.k7
            have hb2 := hr1.b2
            have hN7c : N7 < wc.heap.size := hr1.b7.lt
            obtain ⟨w7, hw7⟩ : ∃ w7, w6.alloc (.cells (ansC (.slice RA ln lk) (.slice PA pm pk) t z E) 48) = w7 := ⟨_, rfl⟩
            obtain ⟨AB, hAB⟩ : ∃ AB, w6.heap.size = AB := ⟨_, rfl⟩
            have bA : Blk w7 AB 48 (ansC (.slice RA ln lk) (.slice PA pm pk) t z E) := by rw [← hw7, ← hAB]; exact Blk.new _ _ _
            have b67 : Below w6.heap.size w6 w7 := by rw [← hw7]; exact (Below.refl _ _).alloc (Nat.le_refl _) _
            have pl7 := pl6.below b67
            have b77 := b76.belowAll b67
            have kp7 : ∀ k, k < 3 → Keeps w7 (F' ++ B) (As k) (cs k) (ls k) := fun k hk => (kp6 k hk).below b67
            have sv7 := sv6.below b67
            have ly7 := ly6.belowAll b67
            have bC7 := bC6.belowAll b67
            have HW7 := Lib.hid hw7
            have HAB := Lib.hid hAB
            have hA7 : AB ≠ N7 := by have := b76.lt; omega
            have HB67 := Lib.hid b67
            clear hdn hr1 bC ht g pl6 b76 kp6 sv6 ly6 bC6 hw7 hAB b67 cC lC gB
            go_upto_region 15 with fail
            rw [HW7.out, HAB.out]
            have cA : w7.cell? ⟨AB, 4, none⟩ = some (.int .i64 E) := (bA.cells 4).trans rfl
            have lA := bA.lt
            by_cases hgood : E = 0 ∨ E = 3
            rotate_left
            · as_aux_lemma =>
                have q0 : (E != 0) = true := by have : ¬ E = 0 := fun h => hgood (.inl h)
                                                simpa using this
                have q3 : (E != 3) = true := by have : ¬ E = 3 := fun h => hgood (.inr h)
                                                simpa using this
                have hen : y'.ended = false := hhc.h.en
                have HP := Lib.hid pl7
                have HSV := Lib.hid sv7
                clear pl7 sv7 b77 kp7 ly7 bC7 hE0 hE3 hb2
                go_upto_region 16 with fail
                have p9 := HP.out.drewN 1
                have s9 := HSV.out.below (below_drewN' (Below.refl _ _) 1)
                clear cA lA
                refine wp_region_mix [.take 0, .take 1, .one 2, .one 3, .take 4, .take 5, .one 6, .take 7, .take 8, .take 9, .take 10, .take 11, .one 12, .one 13, .take 14, .take 15, .one 16, .take 17, .take 18] 19 (fun W => W.cell? ⟨S, 0, none⟩ = some (.slice a1 x.stable.length c1) ∧ W.cell? ⟨S, 1, none⟩ = some (.slice a2 0 c2) ∧ W.cell? ⟨S, 2, none⟩ = some (.int .i64 x.taken) ∧ W.cell? ⟨S, 3, none⟩ = some (.int .i64 x.power) ∧ W.cell? ⟨S, 4, none⟩ = some (.bool x.off)) (by kernel_rfl) (by kernel_rfl) (fun _ _ _ _ _ h => h) s9.cells ?_
                simp only [List.map_cons, List.map_nil, Ms.fill, List.getD_cons_zero, List.getD_cons_succ]
                iterate 2 (refine mixT_take (by rfl) ?_ (fun w' hw' => ?_) ?_; rotate_left; (focus (go_simp; (try with_reducible rfl))); (try simp only [Act.put, List.setIfInBounds_toArray, List.set_cons_zero, List.set_cons_succ]))
                refine mixT_step (by rfl) fun K hK => ?_
                go_simp
                refine (save_td p9.td HCA.out).mono ?_
                rintro e w10 ⟨e101, e102, d101, d102, rfl, o101, o102, hb10⟩
                have p10 := p9.below hb10
                have s10 := s9.below hb10
                refine hK _ _ (fun _ => s10.cells) ?_
                clear hK K hb10
                refine mixT_step (by rfl) fun K hK => ?_
                go_simp
                refine (same_saved' p10.td.dev.ok s10 o101 o102).mono ?_
                rintro e w11 ⟨rfl, hb11⟩
                have p11 := p10.below hb11
                have s11 := s10.below hb11
                refine hK _ _ (fun _ => s11.cells) ?_
                clear hK K hb11 p10 s10 o101 o102
                iterate 2 (refine mixT_take (by rfl) ?_ (fun w' hw' => ?_) ?_; rotate_left; (focus (go_simp; (try with_reducible rfl))); (try simp only [Act.put, List.setIfInBounds_toArray, List.set_cons_zero, List.set_cons_succ]))
                refine mixT_step (by rfl) fun K hK => ?_
                go_simp
                refine (play_abort p11 hen).mono ?_
                rintro e w12 ⟨rfl, F12, p12, g12⟩
                have s12 := s11.grow g12
                refine hK _ _ (fun _ => s12.cells) ?_
                clear hK K g12 p11 s11
                iterate 5 (refine mixT_take (by rfl) ?_ (fun w' hw' => ?_) ?_; rotate_left; (focus (go_simp; (try with_reducible rfl))); (try simp only [Act.put, List.setIfInBounds_toArray, List.set_cons_zero, List.set_cons_succ]))
                refine mixT_step (by rfl) fun K hK => ?_
                go_simp
                refine (save_td p12.td HCA.out).mono ?_
                rintro e w13 ⟨e131, e132, d131, d132, rfl, o131, o132, hb13⟩
                have p13 := p12.below hb13
                have s13 := s12.below hb13
                refine hK _ _ (fun _ => s13.cells) ?_
                clear hK K hb13
                refine mixT_step (by rfl) fun K hK => ?_
                go_simp
                refine (same_saved' p13.td.dev.ok s13 o131 o132).mono ?_
                rintro e w14 ⟨rfl, hb14⟩
                have p14 := p13.below hb14
                have s14 := s13.below hb14
                refine hK _ _ (fun _ => s14.cells) ?_
                clear hK K hb14 p13 s13 o131 o132
                iterate 2 (refine mixT_take (by rfl) ?_ (fun w' hw' => ?_) ?_; rotate_left; (focus (go_simp; (try with_reducible rfl))); (try simp only [Act.put, List.setIfInBounds_toArray, List.set_cons_zero, List.set_cons_succ]))
                refine mixT_step (by rfl) fun K hK => ?_
                go_simp
                have B14 := p14.bl
                refine (awake_any w14 (HH.out.below B14 hp0)).mono ?_
                rintro e w15 ⟨rfl, hb15⟩
                have s15 := s14.below hb15
                refine hK _ _ (fun _ => s15.cells) ?_
                clear hK K
                iterate 2 (refine mixT_take (by rfl) ?_ (fun w' hw' => ?_) ?_; rotate_left; (focus (go_simp; (try with_reducible rfl))); (try simp only [Act.put, List.setIfInBounds_toArray, List.set_cons_zero, List.set_cons_succ]))
                refine mixT_nil ?_
                go_wp2_with fail
                go_ret
                exact ⟨rfl, B14.trans (hb15.mono B14.size)⟩
            · have hkk : ∃ (ls' : Nat → List Int) (tx' : Nat → ByteArray), Book2 y' x (ls' 0) (ls' 1) (ls' 2) (tx' 0) (tx' 1) ∧ ((E ≠ 0 ∧ ls' = ls ∧ tx' = tx) ∨ (E = 0 ∧
                  (((cw = 0 ∨ cw = 2) ∧ ∃ L t', ln = L.length ∧ Keeps w7 (F' ++ B) RA lk L ∧ ls' = upd ls f2 L ∧ tx' = upd tx f2 t' ∧ (cw = 0 → z = (t' : ByteArray).size) ∧ (cw = 2 → cn = t'.size)) ∨
                   (cw = 5 ∧ ∃ L, ln = L.length ∧ Keeps w7 (F' ++ B) RA lk L ∧ ls' = upd ls 2 L ∧ tx' = tx) ∨
                   ((cw = 3 ∨ cw = 6) ∧ ls' = ls ∧ tx' = tx)))) ∧ (E = 0 → (cw = 0 ∨ cw = 2 ∨ cw = 5) → ∀ a, RA = some a → a.block ≠ N7) := by
                rcases hgood with rfl | rfl
                · obtain ⟨ls', tx', hb', hc⟩ := hE0 rfl
                  refine ⟨ls', tx', hb', .inr ⟨rfl, ?_⟩, ?_⟩
                  · rcases hc with ⟨h, L, t', e1, e2, e3, e4, e5, e6, e7⟩ | ⟨h, L, e1, e2, e3, e4, e5⟩ | h
                    · exact .inl ⟨h, L, t', e1, (e2.app e3 hBlt).below HB67.out, e4, e5, e6, e7⟩
                    · exact .inr (.inl ⟨h, L, e1, (e2.app e3 hBlt).below HB67.out, e4, e5⟩)
                    · exact .inr (.inr h)
                  · rcases hc with ⟨h, L, t', e1, e2, e3, -⟩ | ⟨h, L, e1, e2, e3, -⟩ | h
                    · exact fun _ _ a e => by have := e3 a e; omega
                    · exact fun _ _ a e => by have := e3 a e; omega
                    · exact fun _ h9 => by have := h.1; omega
                · have e := hE3 rfl
                  rw [e]
                  exact ⟨ls, tx, hb2, .inl ⟨by decide, rfl, rfl⟩, fun h => absurd h (by decide)⟩
              obtain ⟨ls', tx', hb', hkd, hkn⟩ := hkk
              have HKD := Lib.hid hkd
              have HB2 := Lib.hid hb'
              have HKP := Lib.hid kp7
              clear hkd hb' hE0 hE3 hb2 kp7
              obtain ⟨E0, hE00⟩ : ∃ E0, E = E0 := ⟨_, rfl⟩
              have HKN : Hid (E0 = 0 → (cw = 0 ∨ cw = 2 ∨ cw = 5) → ∀ a, RA = some a → a.block ≠ N7) := Lib.hid (by subst hE00; exact hkn)
              clear hkn
              have hkc : ∀ V, Below w7.heap.size w7 V → Calls Tryz.prog 13 #[.agg #[slOf As cs ls 0, slOf As cs ls 1, slOf As cs ls 2, .int .i64 (zsOf tx 0), .int .i64 (zsOf tx 1)], .agg #[.int .u8 wh, .int .u8 f, .int .i64 kd, .int .i64 off, .int .i64 n, .int .i64 size, .slice LA lm lc, .string s], .agg #[.int .i64 cw, .int .i64 ck, .int .i64 cz, .int .i64 co, .int .i64 cn, .slice ca cln clk, .string s, .slice P pn pc], .agg #[.slice RA ln lk, .slice PA pm pk, .string t, .int .i64 z, .int .i64 E0]] V fun e w' =>
                  Below V.heap.size V w' ∧ ∃ (As' : Nat → Option Addr) (cs' : Nat → Nat), e = .returned (.agg (bookC (slOf As' cs' ls' 0) (slOf As' cs' ls' 1) (slOf As' cs' ls' 2) (zsOf tx' 0) (zsOf tx' 1))) ∧ (∀ k, k < 3 → Keeps V (F' ++ B) (As' k) (cs' k) (ls' k)) ∧ ∀ k, k < 3 → As' k = As k ∨ (As' k = RA ∧ E0 = 0 ∧ (cw = 0 ∨ cw = 2 ∨ cw = 5)) := fun V hV => by
                subst hE00
                exact kept_c wh f kd off n size (.slice LA lm lc) hf hwh h7 f2 hf2 ls ls' tx tx' As cs (fun k hk => (HKP.out k hk).below hV) cw ck cz co cn _ _ _ s t z E RA ln lk (by
                  rcases HKD.out with h | ⟨h, hc⟩
                  · exact .inl h
                  · refine .inr ⟨h, ?_⟩
                    rcases hc with ⟨h, L, t', e1, e2, e3⟩ | ⟨h, L, e1, e2, e3⟩ | h
                    · exact .inl ⟨h, L, t', e1, e2.below hV, e3⟩
                    · exact .inr (.inl ⟨h, L, e1, e2.below hV, e3⟩)
                    · exact .inr (.inr h))
              have hsc3 : ∀ V, Below w7.heap.size w7 V → (fun W => W.cell? ⟨ab, ao + k * 8, none⟩ = some (.int .u8 wh) ∧ W.cell? ⟨ab, ao + k * 8 + 1, none⟩ = some (.int .u8 f) ∧ W.cell? ⟨ab, ao + k * 8 + 2, none⟩ = some (.int .i64 kd) ∧ W.cell? ⟨ab, ao + k * 8 + 3, none⟩ = some (.int .i64 off) ∧ W.cell? ⟨ab, ao + k * 8 + 4, none⟩ = some (.int .i64 n) ∧ W.cell? ⟨ab, ao + k * 8 + 5, none⟩ = some (.int .i64 size) ∧ W.cell? ⟨ab, ao + k * 8 + 6, none⟩ = some (.slice LA lm lc) ∧ W.cell? ⟨ab, ao + k * 8 + 7, none⟩ = some (.string s) ∧ W.cell? ⟨N7, 0, none⟩ = some (slOf As cs ls 0) ∧ W.cell? ⟨N7, 1, none⟩ = some (slOf As cs ls 1) ∧ W.cell? ⟨N7, 2, none⟩ = some (slOf As cs ls 2) ∧ W.cell? ⟨N7, 3, none⟩ = some (.int .i64 (zsOf tx 0)) ∧ W.cell? ⟨N7, 4, none⟩ = some (.int .i64 (zsOf tx 1)) ∧ W.cell? ⟨C, 0, none⟩ = some (.int .i64 cw) ∧ W.cell? ⟨C, 1, none⟩ = some (.int .i64 ck) ∧ W.cell? ⟨C, 2, none⟩ = some (.int .i64 cz) ∧ W.cell? ⟨C, 3, none⟩ = some (.int .i64 co) ∧ W.cell? ⟨C, 4, none⟩ = some (.int .i64 cn) ∧ W.cell? ⟨C, 5, none⟩ = some (.slice ca cln clk) ∧ W.cell? ⟨C, 6, none⟩ = some (.string s) ∧ W.cell? ⟨C, 7, none⟩ = some (.slice P pn pc) ∧ W.cell? ⟨AB, 0, none⟩ = some (.slice RA ln lk) ∧ W.cell? ⟨AB, 1, none⟩ = some (.slice PA pm pk) ∧ W.cell? ⟨AB, 2, none⟩ = some (.string t) ∧ W.cell? ⟨AB, 3, none⟩ = some (.int .i64 z) ∧ W.cell? ⟨AB, 4, none⟩ = some (.int .i64 E0)) V := fun V hV => by
                subst hE00
                obtain ⟨q0, q1, q2, q3, q4, q5, q6, q7⟩ := HCE.out V (pl7.bl.trans (hV.mono pl7.bl.size))
                have b := b77.belowAll hV
                have bc := bC7.belowAll hV
                have ba := bA.belowAll hV
                exact ⟨q0, q1, q2, q3, q4, q5, q6, q7, (b.cells 0).trans rfl, (b.cells 1).trans rfl, (b.cells 2).trans rfl, (b.cells 3).trans rfl, (b.cells 4).trans rfl, (bc.cells 0).trans rfl, (bc.cells 1).trans rfl, (bc.cells 2).trans rfl, (bc.cells 3).trans rfl, (bc.cells 4).trans rfl, (bc.cells 5).trans rfl, (bc.cells 6).trans rfl, (bc.cells 7).trans rfl, (ba.cells 0).trans rfl, (ba.cells 1).trans rfl, (ba.cells 2).trans rfl, (ba.cells 3).trans rfl, (ba.cells 4).trans rfl⟩
              have HKC := Lib.hid hkc
              have HSC3 := Lib.hid hsc3
              clear hkc hsc3 hE00
              rcases hgood with hE | hE
              all_goals
                subst hE
                as_aux_lemma =>
                  go_upto_region 17 with fail
                  clear cA lA
                  refine wp_region_mix [.take 0, .take 1, .take 2, .take 3, .take 4, .take 5, .take 6, .one 7, .one 8] 8 (fun W => W.cell? ⟨ab, ao + k * 8, none⟩ = some (.int .u8 wh) ∧ W.cell? ⟨ab, ao + k * 8 + 1, none⟩ = some (.int .u8 f) ∧ W.cell? ⟨ab, ao + k * 8 + 2, none⟩ = some (.int .i64 kd) ∧ W.cell? ⟨ab, ao + k * 8 + 3, none⟩ = some (.int .i64 off) ∧ W.cell? ⟨ab, ao + k * 8 + 4, none⟩ = some (.int .i64 n) ∧ W.cell? ⟨ab, ao + k * 8 + 5, none⟩ = some (.int .i64 size) ∧ W.cell? ⟨ab, ao + k * 8 + 6, none⟩ = some (.slice LA lm lc) ∧ W.cell? ⟨ab, ao + k * 8 + 7, none⟩ = some (.string s) ∧ W.cell? ⟨N7, 0, none⟩ = some (slOf As cs ls 0) ∧ W.cell? ⟨N7, 1, none⟩ = some (slOf As cs ls 1) ∧ W.cell? ⟨N7, 2, none⟩ = some (slOf As cs ls 2) ∧ W.cell? ⟨N7, 3, none⟩ = some (.int .i64 (zsOf tx 0)) ∧ W.cell? ⟨N7, 4, none⟩ = some (.int .i64 (zsOf tx 1)) ∧ W.cell? ⟨C, 0, none⟩ = some (.int .i64 cw) ∧ W.cell? ⟨C, 1, none⟩ = some (.int .i64 ck) ∧ W.cell? ⟨C, 2, none⟩ = some (.int .i64 cz) ∧ W.cell? ⟨C, 3, none⟩ = some (.int .i64 co) ∧ W.cell? ⟨C, 4, none⟩ = some (.int .i64 cn) ∧ W.cell? ⟨C, 5, none⟩ = some (.slice ca cln clk) ∧ W.cell? ⟨C, 6, none⟩ = some (.string s) ∧ W.cell? ⟨C, 7, none⟩ = some (.slice P pn pc) ∧ W.cell? ⟨AB, 0, none⟩ = some (.slice RA ln lk) ∧ W.cell? ⟨AB, 1, none⟩ = some (.slice PA pm pk) ∧ W.cell? ⟨AB, 2, none⟩ = some (.string t) ∧ W.cell? ⟨AB, 3, none⟩ = some (.int .i64 z) ∧ W.cell? ⟨AB, 4, none⟩ = some (.int .i64 E0)) (by kernel_rfl) (by kernel_rfl) (fun _ _ _ _ _ h => h) (HSC3.out _ (Below.refl _ _).drew) ?_
                  simp only [List.map_cons, List.map_nil, Ms.fill, List.getD_cons_zero, List.getD_cons_succ]
                  iterate 7 (refine mixT_take (by rfl) ?_ (fun w' hw' => ?_) ?_; rotate_left; (focus (go_simp; (try with_reducible rfl))); (try simp only [Act.put, List.setIfInBounds_toArray, List.set_cons_zero, List.set_cons_succ]))
                  refine mixT_step (by rfl) fun K hK => ?_
                  go_simp
                  refine (HKC.out w7.drew (Below.refl _ _).drew).mono ?_
                  rintro e wk ⟨hbk2, As', cs', rfl, n2, n4⟩
                  have bk : Below w7.heap.size w7 wk := (Below.refl w7.heap.size w7).drew.trans (hbk2.mono (Below.refl w7.heap.size w7).drew.size)
                  refine hK _ _ (fun _ => HSC3.out _ bk) ?_
                  clear hK K
                  refine mixT_step (by rfl) fun K hK => ?_
                  have pk' := pl7.below bk
                  have b7k := b77.belowAll bk
                  have hst := storeRow (ty := 38) (vs := bookC (slOf As' cs' ls' 0) (slOf As' cs' ls' 1) (slOf As' cs' ls' 2) (zsOf tx' 0) (zsOf tx' 1)) b7k rfl (by simp [slOf, Value.oneCell']) (by kernel_rfl)
                  refine op_storeBy _ _ _ rfl _ _ rfl rfl hst ?_
                  refine hK _ _ (fun h => absurd h (by decide)) ?_
                  clear hK K
                  refine mixT_nil ?_
                  have n7 : ∀ j a, j < 3 → As' j = some a → a.block ≠ N7 := fun j a hj e => by
                    rcases n4 j hj with h | h
                    · exact k76 j a hj (h.symm.trans e)
                    · exact HKN.out h.2.1 h.2.2 a (h.1.symm.trans e)
                  have hsep := HB2.out
                  have pB : CmSt w _ T D N7 NL S B x F' y' ls' tx' As' cs' a1 a2 c1 c2 j9 i9 us :=
                    ⟨pk'.row (g := N7) (fun hm => nf6 (List.mem_append_left _ hm)) (fun hm => nf6 (List.mem_append_right _ hm)) hp0 hN7g (bookC (slOf As' cs' ls' 0) (slOf As' cs' ls' 1) (slOf As' cs' ls' 2) (zsOf tx' 0) (zsOf tx' 1)), b7k.setRow, fun k hk => ((n2 k hk).below hbk2).row (fun a e => n7 k a hk e) _, (sv7.below bk).row hS7 (fun q hq => by have := hs1 q hq; omega) (fun q hq => by have := hs2 q hq; omega) _, (setRow_other wk N7 NL _ hL7).trans (ly7.belowAll bk), nf6, lf6, hhc, hsep, n7⟩
                  clear hst n7 b7k pk'
                  go_wp2_with fail
                  go_roundw
                  case rel => exact ⟨k + 1, F', y', ls', tx', As', cs', by omega, by go_num, pB⟩
                  case measure => simp [RowKit.intOf]; omega
    · obtain rfl : k = xs.length := by omega
      as_aux_lemma =>
        have hwl := hr.pl.td.devlt
        have hzl : ∀ j, j < 2 → (ls j).length ≤ 1000 ∧ (0 ≤ zsOf tx j ∧ zsOf tx j ≤ 10000) ∧ y.dread x 8 (ls j) (zsOf tx j) 0 768 = (tx j, 0) := fun j hj => by
          have h1 := (hr.b2.bk.lst hj).1
          have h2 := (hr.b2.bk.lst hj).2
          have := h2.sz
          have := h2.len
          have := nCuts_le h2.sz
          exact ⟨by omega, ⟨by unfold zsOf; omega, by unfold zsOf; omega⟩, read_whole hr.b2.bk.st h1 h2⟩
        have h2l : (ls 2).length ≤ 1000 := by have := hr.b2.bk.len2; omega
        have hdl : (y.dload x 7 (ls 2)).2 = 0 := hr.b2.load
        obtain ⟨w8, hw8⟩ : ∃ w8, w8 = wr.alloc (.cells #[.slice none 0 0, .slice none 0 0, .string ⟨#[]⟩, .int .i64 0, .int .i64 0, .slice none 0 0, .slice none 0 0, .string ⟨#[]⟩, .int .i64 0, .int .i64 0, .slice none 0 0, .slice none 0 0, .string ⟨#[]⟩, .int .i64 0, .int .i64 0] 86) := ⟨_, rfl⟩
        obtain ⟨NB, hNB⟩ : ∃ NB, NB = wr.heap.size := ⟨_, rfl⟩
        have bf8 : BefAt w8 NB F B tx (y.dload x 7 (ls 2)).1 0 := .inl ⟨rfl, by rw [hw8, hNB]; exact Blk.new _ _ _⟩
        have c8 : CmSt w w8 T D N7 NL S B x F y ls tx As cs a1 a2 c1 c2 j9 i9 us := hr.below (by rw [hw8]; exact (Below.refl _ _).alloc (Nat.le_refl _) _)
        have gF : NB ∉ F ++ B := fun hm => by have := hwl _ hm; omega
        have g0 : w.heap.size ≤ NB := by have := hr.pl.bl.size; omega
        have g7 : N7 ≠ NB := by have := hr.b7.lt; omega
        have gL : NL ≠ NB := by have := hr.lay.lt; omega
        have gS : S ≠ NB := by have := hr.sv.box.lt; omega
        have gs1 : ∀ q, (Value.slice a1 x.stable.length c1).ownBlock = some q → q ≠ NB := fun q hq => by have := (own_lt hr.sv.os q hq).2; omega
        have gs2 : ∀ q, (Value.slice a2 0 c2).ownBlock = some q → q ≠ NB := fun q hq => by have := (own_lt hr.sv.oc q hq).2; omega
        have gk : ∀ k a, k < 3 → As k = some a → a.block ≠ NB := fun k a hk e => by have := ((hr.kp k hk).out a e).2; omega
        have hBl : ∀ V, CmSt w V T D N7 NL S B x F y ls tx As cs a1 a2 c1 c2 j9 i9 us → ∀ b ∈ F ++ B, b < V.heap.size := fun V h => h.pl.td.devlt
        have HZL := Lib.hid hzl
        have HW8 := Lib.hid hw8
        have HNB := Lib.hid hNB
        obtain ⟨lp, hlp⟩ : ∃ lp, y.dload x 7 (ls 2) = lp := ⟨_, rfl⟩
        rw [hlp] at bf8 hdl
        have HDL := Lib.hid hdl
        have HLP := Lib.hid hlp
        clear hwl hzl hw8 hNB hdl hr hlp
        go_wp2_with fail
        rw [← HW8.out, ← HNB.out]
        clear HW8
        go_loopw [14] (fun q wr2 => ∃ m : Nat, q = .int .i64 m ∧ m ≤ 3 ∧ CmSt w wr2 T D N7 NL S B x F y ls tx As cs a1 a2 c1 c2 j9 i9 us ∧ NB < wr2.heap.size ∧ BefAt wr2 NB F B tx lp.1 m) (fun q _ => 3 - (RowKit.intOf q).toNat)
        case atStart => exact ⟨0, rfl, by omega, c8, by have := bf8; rcases this with ⟨-, h⟩ | ⟨h, -⟩ | ⟨h, -⟩ | ⟨h, -⟩; exact h.lt; all_goals omega, bf8⟩
        case round =>
          obtain ⟨m, rfl, hm, hcm, hnb, hbf⟩ := hrel
          clear c8 bf8
          have b7 := hcm.b7
          unfold slOf at b7
          have c7 := b7.cells
          have l7 := b7.lt
          rcases hbf with ⟨rfl, hb⟩ | ⟨rfl, hb⟩ | ⟨rfl, hb⟩ | ⟨rfl, PA, pk, hb, hrp, hpn⟩
          · as_aux_lemma =>
              have hrd : Calls Tryz.prog 30 #[.pointer (some ⟨T, 0, none⟩), .agg #[.slice (As 0) (ls 0).length (cs 0), .slice (As 1) (ls 1).length (cs 1), .slice (As 2) (ls 2).length (cs 2), .int .i64 (zsOf tx 0), .int .i64 (zsOf tx 1)], .int .i64 0] wr fun e w' => e = .returned (.agg (ansC (.slice none 0 0) (.slice none 0 0) (tx 0) 0 0)) ∧ Below wr.heap.size wr w' :=
                read_file T F D y B x ls (zsOf tx) As cs 0 (by omega) (HZL.out 0 (by omega)).1 (HZL.out 0 (by omega)).2.1 (tx 0) (HZL.out 0 (by omega)).2.2 wr hcm.pl.td (hcm.kp 0 (by omega)).left
              go_wp2_with fail
              refine hrd.mono ?_
              rintro e w9 ⟨rfl, hb9⟩
              have cm9 := hcm.below hb9
              have b9 := hb.belowAll hb9
              have hst : (Instr.storeAt 48 (.pointer (some ⟨NB, 0, none⟩)) (.agg (ansC (.slice none 0 0) (.slice none 0 0) (tx 0) 0 0))).run Tryz.prog w9 = .ok () (w9.setRow NB #[.slice none 0 0, .slice none 0 0, .string (tx 0), .int .i64 0, .int .i64 0, .slice none 0 0, .slice none 0 0, .string ⟨#[]⟩, .int .i64 0, .int .i64 0, .slice none 0 0, .slice none 0 0, .string ⟨#[]⟩, .int .i64 0, .int .i64 0]) :=
                storeAtRow (o := 0) (vs := ansC (.slice none 0 0) (.slice none 0 0) (tx 0) 0 0) b9 (by simp) (by simp [Value.oneCell']) (by kernel_rfl)
              have lb9 := b9.lt
              have HC9 := Lib.hid (cm9.row gF hp0 g0 g7 gL gS gs1 gs2 gk #[.slice none 0 0, .slice none 0 0, .string (tx 0), .int .i64 0, .int .i64 0, .slice none 0 0, .slice none 0 0, .string ⟨#[]⟩, .int .i64 0, .int .i64 0, .slice none 0 0, .slice none 0 0, .string ⟨#[]⟩, .int .i64 0, .int .i64 0])
              have HB9 := Lib.hid (b9.setRow (cs' := #[.slice none 0 0, .slice none 0 0, .string (tx 0), .int .i64 0, .int .i64 0, .slice none 0 0, .slice none 0 0, .string ⟨#[]⟩, .int .i64 0, .int .i64 0, .slice none 0 0, .slice none 0 0, .string ⟨#[]⟩, .int .i64 0, .int .i64 0]))
              clear c7 l7 b7 hb b9 cm9 hb9 hrd hcm
              go_wp2_with (refine wpList_storeBy rfl _ _ _ rfl _ _ rfl rfl hst ?_)
              go_roundw
              case rel => exact ⟨1, by go_num, by omega, HC9.out, by simpa using lb9, .inr (.inl ⟨rfl, HB9.out⟩)⟩
              case measure => simp [RowKit.intOf]
          · as_aux_lemma =>
              have hrd : Calls Tryz.prog 30 #[.pointer (some ⟨T, 0, none⟩), .agg #[.slice (As 0) (ls 0).length (cs 0), .slice (As 1) (ls 1).length (cs 1), .slice (As 2) (ls 2).length (cs 2), .int .i64 (zsOf tx 0), .int .i64 (zsOf tx 1)], .int .i64 1] wr fun e w' => e = .returned (.agg (ansC (.slice none 0 0) (.slice none 0 0) (tx 1) 0 0)) ∧ Below wr.heap.size wr w' :=
                read_file T F D y B x ls (zsOf tx) As cs 1 (by omega) (HZL.out 1 (by omega)).1 (HZL.out 1 (by omega)).2.1 (tx 1) (HZL.out 1 (by omega)).2.2 wr hcm.pl.td (hcm.kp 1 (by omega)).left
              go_wp2_with fail
              refine hrd.mono ?_
              rintro e w9 ⟨rfl, hb9⟩
              have cm9 := hcm.below hb9
              have b9 := hb.belowAll hb9
              have hst : (Instr.storeAt 48 (.pointer (some ⟨NB, 5, none⟩)) (.agg (ansC (.slice none 0 0) (.slice none 0 0) (tx 1) 0 0))).run Tryz.prog w9 = .ok () (w9.setRow NB #[.slice none 0 0, .slice none 0 0, .string (tx 0), .int .i64 0, .int .i64 0, .slice none 0 0, .slice none 0 0, .string (tx 1), .int .i64 0, .int .i64 0, .slice none 0 0, .slice none 0 0, .string ⟨#[]⟩, .int .i64 0, .int .i64 0]) :=
                storeAtRow (o := 5) (vs := ansC (.slice none 0 0) (.slice none 0 0) (tx 1) 0 0) b9 (by simp) (by simp [Value.oneCell']) (by kernel_rfl)
              have lb9 := b9.lt
              have HC9 := Lib.hid (cm9.row gF hp0 g0 g7 gL gS gs1 gs2 gk #[.slice none 0 0, .slice none 0 0, .string (tx 0), .int .i64 0, .int .i64 0, .slice none 0 0, .slice none 0 0, .string (tx 1), .int .i64 0, .int .i64 0, .slice none 0 0, .slice none 0 0, .string ⟨#[]⟩, .int .i64 0, .int .i64 0])
              have HB9 := Lib.hid (b9.setRow (cs' := #[.slice none 0 0, .slice none 0 0, .string (tx 0), .int .i64 0, .int .i64 0, .slice none 0 0, .slice none 0 0, .string (tx 1), .int .i64 0, .int .i64 0, .slice none 0 0, .slice none 0 0, .string ⟨#[]⟩, .int .i64 0, .int .i64 0]))
              clear c7 l7 b7 hb b9 cm9 hb9 hrd hcm
              go_wp2_with (refine wpList_storeBy rfl _ _ _ rfl _ _ rfl rfl hst ?_)
              go_roundw
              case rel => exact ⟨2, by go_num, by omega, HC9.out, by simpa using lb9, .inr (.inr (.inl ⟨rfl, HB9.out⟩))⟩
              case measure => simp [RowKit.intOf]
          · as_aux_lemma =>
              have hrd : Calls Tryz.prog 30 #[.pointer (some ⟨T, 0, none⟩), .agg #[.slice (As 0) (ls 0).length (cs 0), .slice (As 1) (ls 1).length (cs 1), .slice (As 2) (ls 2).length (cs 2), .int .i64 (zsOf tx 0), .int .i64 (zsOf tx 1)], .int .i64 2] wr fun e w' => ∃ PA pk, e = .returned (.agg (ansC (.slice none 0 0) (.slice PA lp.1.length pk) ⟨#[]⟩ 0 0)) ∧ w'.ownsRow wr.heap.size 9 1 (.slice PA lp.1.length pk) lp.1.length (lp.1.map .string) ∧ Below wr.heap.size wr w' := by
                have h := read_two T F D y B x ls (zsOf tx) As cs h2l wr hcm.pl.td (hcm.kp 2 (by omega)).left
                rw [HLP.out, HDL.out] at h
                exact h
              go_wp2_with fail
              refine hrd.mono ?_
              rintro e w9 ⟨PA, pk, rfl, ho, hb9⟩
              have cm9 := hcm.below hb9
              have b9 := hb.belowAll hb9
              have hst : (Instr.storeAt 48 (.pointer (some ⟨NB, 10, none⟩)) (.agg (ansC (.slice none 0 0) (.slice PA lp.1.length pk) ⟨#[]⟩ 0 0))).run Tryz.prog w9 = .ok () (w9.setRow NB #[.slice none 0 0, .slice none 0 0, .string (tx 0), .int .i64 0, .int .i64 0, .slice none 0 0, .slice none 0 0, .string (tx 1), .int .i64 0, .int .i64 0, .slice none 0 0, .slice PA lp.1.length pk, .string ⟨#[]⟩, .int .i64 0, .int .i64 0]) :=
                storeAtRow (o := 10) (vs := ansC (.slice none 0 0) (.slice PA lp.1.length pk) ⟨#[]⟩ 0 0) b9 (by simp) (by simp [Value.oneCell']) (by kernel_rfl)
              have lb9 := b9.lt
              have hwl := hcm.pl.td.devlt
              have hpn : ∀ a, PA = some a → a.block ∉ F ++ B ∧ NB < a.block := fun a e => by
                subst e
                have h := (own_lt ho a.block rfl).1
                exact ⟨fun hm => by have := hwl _ hm; omega, by omega⟩
              have hrp : Reads (w9.setRow NB #[.slice none 0 0, .slice none 0 0, .string (tx 0), .int .i64 0, .int .i64 0, .slice none 0 0, .slice none 0 0, .string (tx 1), .int .i64 0, .int .i64 0, .slice none 0 0, .slice PA lp.1.length pk, .string ⟨#[]⟩, .int .i64 0, .int .i64 0]) PA (lp.1.map .string) := Reads.of_own (own_block ho fun q hq => setRow_other _ _ _ _ (fun e => by have := (own_lt ho q hq).1; omega))
              have HC9 := Lib.hid (cm9.row gF hp0 g0 g7 gL gS gs1 gs2 gk #[.slice none 0 0, .slice none 0 0, .string (tx 0), .int .i64 0, .int .i64 0, .slice none 0 0, .slice none 0 0, .string (tx 1), .int .i64 0, .int .i64 0, .slice none 0 0, .slice PA lp.1.length pk, .string ⟨#[]⟩, .int .i64 0, .int .i64 0])
              have HB9 := Lib.hid (b9.setRow (cs' := #[.slice none 0 0, .slice none 0 0, .string (tx 0), .int .i64 0, .int .i64 0, .slice none 0 0, .slice none 0 0, .string (tx 1), .int .i64 0, .int .i64 0, .slice none 0 0, .slice PA lp.1.length pk, .string ⟨#[]⟩, .int .i64 0, .int .i64 0]))
              have HRP := Lib.hid hrp
              clear c7 l7 b7 hb b9 cm9 hb9 hrd hcm ho hwl hrp
              go_wp2_with (refine wpList_storeBy rfl _ _ _ rfl _ _ rfl rfl hst ?_)
              go_roundw
              case rel => exact ⟨3, by go_num, by omega, HC9.out, by simpa using lb9, .inr (.inr (.inr ⟨rfl, PA, pk, HB9.out, HRP.out, hpn⟩))⟩
              case measure => simp [RowKit.intOf]
          · as_aux_lemma =>
              have hst := hcm.b2.bk.st
              have hhc := hcm.hc
              obtain ⟨x', hcom, hlive, hw, ho⟩ := commit_live (N := 999800) (us := us) hcm.pl.td.tx.ok hhc.c (by rw [hhc.h.s, hhc.h.j, hhc.h.i]; exact HLV.out) hhc.h.ch
              obtain ⟨r2, rl⟩ := hcm.b2.reborn (fun kd b hb => part_commit hcm.pl.td.tx.ok hst hw ho kd b hb)
              rw [hhc.h.s, hhc.h.j, hhc.h.i] at hlive r2 rl
              have HLI := Lib.hid hlive
              have HR2 := Lib.hid r2
              have HRL := Lib.hid rl
              have p9 := hcm.pl.below (Below.refl _ _).drew
              have s9 := hcm.sv.below (Below.refl _ _).drew
              have HCM := Lib.hid (hcm.below (Below.refl _ _).drew)
              have HNBF := Lib.hid hb.drew
              have HRP := Lib.hid (hrp.below (Below.refl _ _).drew)
              clear hw ho hlive r2 rl c7 l7 b7 hrp hcm hb
              go_upto_region 23 with fail
              refine wp_region_mix [.take 0, .take 1, .one 2, .one 3, .take 4, .take 5, .take 6, .one 7, .take 8, .take 9] 10 (fun W => W.cell? ⟨S, 0, none⟩ = some (.slice a1 x.stable.length c1) ∧ W.cell? ⟨S, 1, none⟩ = some (.slice a2 0 c2) ∧ W.cell? ⟨S, 2, none⟩ = some (.int .i64 x.taken) ∧ W.cell? ⟨S, 3, none⟩ = some (.int .i64 x.power) ∧ W.cell? ⟨S, 4, none⟩ = some (.bool x.off)) (by kernel_rfl) (by kernel_rfl) (fun _ _ _ _ _ h => h) s9.cells ?_
              simp only [List.map_cons, List.map_nil, Ms.fill, List.getD_cons_zero, List.getD_cons_succ]
              iterate 2 (refine mixT_take (by rfl) ?_ (fun w' hw' => ?_) ?_; rotate_left; (focus (go_simp; (try with_reducible rfl))); (try simp only [Act.put, List.setIfInBounds_toArray, List.set_cons_zero, List.set_cons_succ]))
              refine mixT_step (by rfl) fun K hK => ?_
              go_simp
              refine (save_td p9.td HCA.out).mono ?_
              rintro e w10 ⟨e101, e102, d101, d102, rfl, o101, o102, hb10⟩
              have p10 := p9.below hb10
              have s10 := s9.below hb10
              have HCM10 := Lib.hid (HCM.out.below hb10)
              have HNB10 := Lib.hid (HNBF.out.belowAll hb10)
              have HRP10 := Lib.hid (HRP.out.below hb10)
              refine hK _ _ (fun _ => s10.cells) ?_
              clear hK K hb10
              refine mixT_step (by rfl) fun K hK => ?_
              go_simp
              refine (same_saved' p10.td.dev.ok s10 o101 o102).mono ?_
              rintro e w11 ⟨rfl, hb11⟩
              have p11 := p10.below hb11
              have s11 := s10.below hb11
              have HCM11 := Lib.hid (HCM10.out.below hb11)
              have HNB11 := Lib.hid (HNB10.out.belowAll hb11)
              have HRP11 := Lib.hid (HRP10.out.below hb11)
              refine hK _ _ (fun _ => s11.cells) ?_
              clear hK K hb11 p10 s10 o101 o102
              iterate 3 (refine mixT_take (by rfl) ?_ (fun w' hw' => ?_) ?_; rotate_left; (focus (go_simp; (try with_reducible rfl))); (try simp only [Act.put, List.setIfInBounds_toArray, List.set_cons_zero, List.set_cons_succ]))
              refine mixT_step (by rfl) fun K hK => ?_
              go_simp
              refine (play_commit p11 hhc.c hst hcom).mono ?_
              rintro e w12 ⟨rfl, B', p12, g12⟩
              have s12 := s11.grow g12
              refine hK _ _ (fun _ => s12.cells) ?_
              clear hK K s11
              iterate 2 (refine mixT_take (by rfl) ?_ (fun w' hw' => ?_) ?_; rotate_left; (focus (go_simp; (try with_reducible rfl))); (try simp only [Act.put, List.setIfInBounds_toArray, List.set_cons_zero, List.set_cons_succ]))
              refine mixT_nil ?_
              have kp12 : ∀ k, k < 3 → Keeps w12 (F ++ B') (As k) (cs k) (ls k) := fun k hk => (HCM11.out.kp k hk).grow g12
              have b712 := g12.blk HCM11.out.b7 HCM11.out.nf
              have n712 := g12.notin HCM11.out.nf HCM11.out.b7.lt
              have l12 := g12.blk HCM11.out.lay HCM11.out.lf
              have nb12 := g12.blk HNB11.out gF
              have nf12 := g12.notin gF HNB11.out.lt
              have rp12 := HRP11.out.growF g12 (fun a e => (hpn a e).1)
              have pn12 : ∀ a, PA = some a → lp.1 = [] ∨ a.block ∉ F ++ B' := fun a e => by
                by_cases hn : lp.1 = []
                · exact .inl hn
                · refine .inr (g12.notin (hpn a e).1 ?_)
                  rcases HRP11.out with h0 | ⟨b, off, e2, hlt9, -⟩
                  · exact absurd (List.map_eq_nil_iff.1 h0) hn
                  · rw [e] at e2
                    obtain rfl := Option.some.inj e2
                    exact hlt9
              have f12 := play_begin p12 HRG.out HLI.out
              have cl12 := l12.cells
              have ll12 := l12.lt
              clear s12 p11 g12
              go_upto_region 25 with fail
              go_wp2_with fail
              refine f12.mono ?_
              rintro e w13 ⟨U, F2, rfl, p13, g13⟩
              have kp13 : ∀ k, k < 3 → Keeps w13 (F2 ++ B') (As k) (cs k) (ls k) := fun k hk => (kp12 k hk).grow g13
              have b713 := g13.blk b712 n712
              have nb13 := g13.blk nb12 nf12
              have rp13 : Reads w13 PA (lp.1.map .string) := by
                by_cases hn : lp.1 = []
                · rw [hn]; exact .inl rfl
                · exact rp12.growF g13 fun a e => (pn12 a e).resolve_left hn
              have hrf0 : ∀ V, Below w13.heap.size w13 V → Calls Tryz.prog 30 #[.pointer (some ⟨U, 0, none⟩), .agg #[.slice (As 0) (ls 0).length (cs 0), .slice (As 1) (ls 1).length (cs 1), .slice (As 2) (ls 2).length (cs 2), .int .i64 (zsOf tx 0), .int .i64 (zsOf tx 1)], .int .i64 0] V fun e w' => e = .returned (.agg (ansC (.slice none 0 0) (.slice none 0 0) (tx 0) 0 0)) ∧ Below V.heap.size V w' := fun V hV => by
                have h1 := (HR2.out.bk.lst (f2 := 0) (by omega)).1
                have h2 := (HR2.out.bk.lst (f2 := 0) (by omega)).2
                exact read_file U F2 D _ B' x' ls (zsOf tx) As cs 0 (by omega) (HZL.out 0 (by omega)).1 (HZL.out 0 (by omega)).2.1 (tx 0) (read_whole HR2.out.bk.st h1 h2) V (p13.below hV).td ((kp13 0 (by omega)).below hV).left
              have hrf1 : ∀ V, Below w13.heap.size w13 V → Calls Tryz.prog 30 #[.pointer (some ⟨U, 0, none⟩), .agg #[.slice (As 0) (ls 0).length (cs 0), .slice (As 1) (ls 1).length (cs 1), .slice (As 2) (ls 2).length (cs 2), .int .i64 (zsOf tx 0), .int .i64 (zsOf tx 1)], .int .i64 1] V fun e w' => e = .returned (.agg (ansC (.slice none 0 0) (.slice none 0 0) (tx 1) 0 0)) ∧ Below V.heap.size V w' := fun V hV => by
                have h1 := (HR2.out.bk.lst (f2 := 1) (by omega)).1
                have h2 := (HR2.out.bk.lst (f2 := 1) (by omega)).2
                exact read_file U F2 D _ B' x' ls (zsOf tx) As cs 1 (by omega) (HZL.out 1 (by omega)).1 (HZL.out 1 (by omega)).2.1 (tx 1) (read_whole HR2.out.bk.st h1 h2) V (p13.below hV).td ((kp13 1 (by omega)).below hV).left
              have hrt : ∀ V, Below w13.heap.size w13 V → Calls Tryz.prog 30 #[.pointer (some ⟨U, 0, none⟩), .agg #[.slice (As 0) (ls 0).length (cs 0), .slice (As 1) (ls 1).length (cs 1), .slice (As 2) (ls 2).length (cs 2), .int .i64 (zsOf tx 0), .int .i64 (zsOf tx 1)], .int .i64 2] V fun e w' => ∃ PA pk, e = .returned (.agg (ansC (.slice none 0 0) (.slice PA lp.1.length pk) ⟨#[]⟩ 0 0)) ∧ w'.ownsRow V.heap.size 9 1 (.slice PA lp.1.length pk) lp.1.length (lp.1.map .string) ∧ Below V.heap.size V w' := fun V hV => by
                have h := read_two U F2 D _ B' x' ls (zsOf tx) As cs h2l V (p13.below hV).td ((kp13 2 (by omega)).below hV).left
                rw [HRL.out, HLP.out, HDL.out] at h
                exact h
              have hal : ∀ t V, Calls Tryz.prog 31 #[.agg #[.slice none 0 0, .slice none 0 0, .string t, .int .i64 0, .int .i64 0], .agg #[.slice none 0 0, .slice none 0 0, .string t, .int .i64 0, .int .i64 0]] V fun e w' => e = .returned (.bool true) ∧ Below V.heap.size V w' := fun t V =>
                alike_eq none none none none 0 0 0 0 [] [] (by simp) (by simp) t 0 0 V (.inl rfl) (.inl rfl) (.inl rfl) (.inl rfl)
              have hlpl : lp.1.length ≤ 100000 := by
                have h := HLP.out
                have h2 := HDL.out
                rw [← h] at h2 ⊢
                unfold TxS.dload at h2 ⊢
                split at h2
                · rename_i h4; exact absurd h2 h4
                · rename_i h4
                  rw [if_neg h4, loadK_length h2]; omega
              have hal2 : ∀ V, Below w13.heap.size w13 V → ∀ PC pk2, Reads V PC (lp.1.map .string) → Calls Tryz.prog 31 #[.agg #[.slice none 0 0, .slice PC lp.1.length pk2, .string ⟨#[]⟩, .int .i64 0, .int .i64 0], .agg #[.slice none 0 0, .slice PA lp.1.length pk, .string ⟨#[]⟩, .int .i64 0, .int .i64 0]] V fun e w' => e = .returned (.bool true) ∧ Below V.heap.size V w' := fun V hV PC pk2 hPC =>
                alike_eq none none PC PA 0 0 pk2 pk [] lp.1 (by simp) hlpl ⟨#[]⟩ 0 0 V (.inl rfl) (.inl rfl) hPC (rp13.below hV)
              have hs : ∀ V, Below w13.heap.size w13 V → (fun W => W.cell? ⟨N7, 0, none⟩ = some (.slice (As 0) (ls 0).length (cs 0)) ∧ W.cell? ⟨N7, 1, none⟩ = some (.slice (As 1) (ls 1).length (cs 1)) ∧ W.cell? ⟨N7, 2, none⟩ = some (.slice (As 2) (ls 2).length (cs 2)) ∧ W.cell? ⟨N7, 3, none⟩ = some (.int .i64 (zsOf tx 0)) ∧ W.cell? ⟨N7, 4, none⟩ = some (.int .i64 (zsOf tx 1)) ∧ W.cell? ⟨NB, 0, none⟩ = some (.slice none 0 0) ∧ W.cell? ⟨NB, 1, none⟩ = some (.slice none 0 0) ∧ W.cell? ⟨NB, 2, none⟩ = some (.string (tx 0)) ∧ W.cell? ⟨NB, 3, none⟩ = some (.int .i64 0) ∧ W.cell? ⟨NB, 4, none⟩ = some (.int .i64 0) ∧ W.cell? ⟨NB, 5, none⟩ = some (.slice none 0 0) ∧ W.cell? ⟨NB, 6, none⟩ = some (.slice none 0 0) ∧ W.cell? ⟨NB, 7, none⟩ = some (.string (tx 1)) ∧ W.cell? ⟨NB, 8, none⟩ = some (.int .i64 0) ∧ W.cell? ⟨NB, 9, none⟩ = some (.int .i64 0) ∧ W.cell? ⟨NB, 10, none⟩ = some (.slice none 0 0) ∧ W.cell? ⟨NB, 11, none⟩ = some (.slice PA lp.1.length pk) ∧ W.cell? ⟨NB, 12, none⟩ = some (.string ⟨#[]⟩) ∧ W.cell? ⟨NB, 13, none⟩ = some (.int .i64 0) ∧ W.cell? ⟨NB, 14, none⟩ = some (.int .i64 0)) V := fun V hV => by
                have b := b713.belowAll hV
                have n := nb13.belowAll hV
                exact ⟨(b.cells 0).trans rfl, (b.cells 1).trans rfl, (b.cells 2).trans rfl, (b.cells 3).trans rfl, (b.cells 4).trans rfl, (n.cells 0).trans rfl, (n.cells 1).trans rfl, (n.cells 2).trans rfl, (n.cells 3).trans rfl, (n.cells 4).trans rfl, (n.cells 5).trans rfl, (n.cells 6).trans rfl, (n.cells 7).trans rfl, (n.cells 8).trans rfl, (n.cells 9).trans rfl, (n.cells 10).trans rfl, (n.cells 11).trans rfl, (n.cells 12).trans rfl, (n.cells 13).trans rfl, (n.cells 14).trans rfl⟩
              have HRF0 := Lib.hid hrf0
              have HRF1 := Lib.hid hrf1
              have HRT := Lib.hid hrt
              have HAL := Lib.hid hal
              have HAL2 := Lib.hid hal2
              have HS := Lib.hid hs
              have HB13 := Lib.hid p13.bl
              clear hrf0 hrf1 hrt hal hal2 hs kp13 b713 nb13 rp13 p13 g13 f12 kp12 b712 nb12 l12 rp12 pn12 p12 cl12 ll12
              go_wp2_with fail
              go_loopw [17] (fun q wr3 => ∃ m : Nat, q = .int .i64 m ∧ m ≤ 3 ∧ Below w13.heap.size w13 wr3) (fun q _ => 3 - (RowKit.intOf q).toNat)
              case atStart => exact ⟨0, rfl, by omega, Below.refl _ _⟩
              case round =>
                obtain ⟨m, rfl, hm3, hbm⟩ := hrel
                have hm4 : m = 0 ∨ m = 1 ∨ m = 2 ∨ m = 3 := by omega
                rcases hm4 with rfl | rfl | rfl | rfl
                · as_aux_lemma =>
                    have HBM := Lib.hid hbm
                    clear hbm
                    go_upto_region 31 with fail
                    refine wp_region_mix [.take 0, .take 1, .take 2, .take 3, .take 4, .take 5, .take 6, .take 7, .take 8, .take 10, .take 11, .take 12, .one 9, .one 13, .take 14, .take 15] 16 (fun W => W.cell? ⟨N7, 0, none⟩ = some (.slice (As 0) (ls 0).length (cs 0)) ∧ W.cell? ⟨N7, 1, none⟩ = some (.slice (As 1) (ls 1).length (cs 1)) ∧ W.cell? ⟨N7, 2, none⟩ = some (.slice (As 2) (ls 2).length (cs 2)) ∧ W.cell? ⟨N7, 3, none⟩ = some (.int .i64 (zsOf tx 0)) ∧ W.cell? ⟨N7, 4, none⟩ = some (.int .i64 (zsOf tx 1)) ∧ W.cell? ⟨NB, 0, none⟩ = some (.slice none 0 0) ∧ W.cell? ⟨NB, 1, none⟩ = some (.slice none 0 0) ∧ W.cell? ⟨NB, 2, none⟩ = some (.string (tx 0)) ∧ W.cell? ⟨NB, 3, none⟩ = some (.int .i64 0) ∧ W.cell? ⟨NB, 4, none⟩ = some (.int .i64 0) ∧ W.cell? ⟨NB, 5, none⟩ = some (.slice none 0 0) ∧ W.cell? ⟨NB, 6, none⟩ = some (.slice none 0 0) ∧ W.cell? ⟨NB, 7, none⟩ = some (.string (tx 1)) ∧ W.cell? ⟨NB, 8, none⟩ = some (.int .i64 0) ∧ W.cell? ⟨NB, 9, none⟩ = some (.int .i64 0) ∧ W.cell? ⟨NB, 10, none⟩ = some (.slice none 0 0) ∧ W.cell? ⟨NB, 11, none⟩ = some (.slice PA lp.1.length pk) ∧ W.cell? ⟨NB, 12, none⟩ = some (.string ⟨#[]⟩) ∧ W.cell? ⟨NB, 13, none⟩ = some (.int .i64 0) ∧ W.cell? ⟨NB, 14, none⟩ = some (.int .i64 0)) (by kernel_rfl) (by kernel_rfl) (fun _ _ _ _ _ h => h) (HS.out _ HBM.out.drew) ?_
                    simp only [List.map_cons, List.map_nil, Ms.fill, List.getD_cons_zero, List.getD_cons_succ]
                    iterate 12 (refine mixT_take (by rfl) ?_ (fun w' hw' => ?_) ?_; rotate_left; (focus (go_simp; (try with_reducible rfl))); (try simp only [Act.put, List.setIfInBounds_toArray, List.set_cons_zero, List.set_cons_succ]))
                    refine mixT_step (by rfl) fun K hK => ?_
                    go_simp
                    refine (HRF0.out wr.drew HBM.out.drew).mono ?_
                    rintro e w15 ⟨rfl, hb15⟩
                    have B15 := HBM.out.drew.trans (hb15.mono HBM.out.drew.size)
                    refine hK _ _ (fun _ => HS.out _ B15) ?_
                    clear hK K
                    refine mixT_step (by rfl) fun K hK => ?_
                    go_simp
                    refine (HAL.out (tx 0) w15).mono ?_
                    rintro e w16 ⟨rfl, hb16⟩
                    have B16 := B15.trans (hb16.mono B15.size)
                    refine hK _ _ (fun _ => HS.out _ B16) ?_
                    clear hK K
                    iterate 2 (refine mixT_take (by rfl) ?_ (fun w' hw' => ?_) ?_; rotate_left; (focus (go_simp; (try with_reducible rfl))); (try simp only [Act.put, List.setIfInBounds_toArray, List.set_cons_zero, List.set_cons_succ]))
                    refine mixT_nil ?_
                    go_wp2_with fail
                    go_roundw
                    case rel => exact ⟨1, by go_num, by omega, B16⟩
                    case measure => simp [RowKit.intOf]
                · as_aux_lemma =>
                    have HBM := Lib.hid hbm
                    clear hbm
                    go_upto_region 31 with fail
                    refine wp_region_mix [.take 0, .take 1, .take 2, .take 3, .take 4, .take 5, .take 6, .take 7, .take 8, .take 10, .take 11, .take 12, .one 9, .one 13, .take 14, .take 15] 16 (fun W => W.cell? ⟨N7, 0, none⟩ = some (.slice (As 0) (ls 0).length (cs 0)) ∧ W.cell? ⟨N7, 1, none⟩ = some (.slice (As 1) (ls 1).length (cs 1)) ∧ W.cell? ⟨N7, 2, none⟩ = some (.slice (As 2) (ls 2).length (cs 2)) ∧ W.cell? ⟨N7, 3, none⟩ = some (.int .i64 (zsOf tx 0)) ∧ W.cell? ⟨N7, 4, none⟩ = some (.int .i64 (zsOf tx 1)) ∧ W.cell? ⟨NB, 0, none⟩ = some (.slice none 0 0) ∧ W.cell? ⟨NB, 1, none⟩ = some (.slice none 0 0) ∧ W.cell? ⟨NB, 2, none⟩ = some (.string (tx 0)) ∧ W.cell? ⟨NB, 3, none⟩ = some (.int .i64 0) ∧ W.cell? ⟨NB, 4, none⟩ = some (.int .i64 0) ∧ W.cell? ⟨NB, 5, none⟩ = some (.slice none 0 0) ∧ W.cell? ⟨NB, 6, none⟩ = some (.slice none 0 0) ∧ W.cell? ⟨NB, 7, none⟩ = some (.string (tx 1)) ∧ W.cell? ⟨NB, 8, none⟩ = some (.int .i64 0) ∧ W.cell? ⟨NB, 9, none⟩ = some (.int .i64 0) ∧ W.cell? ⟨NB, 10, none⟩ = some (.slice none 0 0) ∧ W.cell? ⟨NB, 11, none⟩ = some (.slice PA lp.1.length pk) ∧ W.cell? ⟨NB, 12, none⟩ = some (.string ⟨#[]⟩) ∧ W.cell? ⟨NB, 13, none⟩ = some (.int .i64 0) ∧ W.cell? ⟨NB, 14, none⟩ = some (.int .i64 0)) (by kernel_rfl) (by kernel_rfl) (fun _ _ _ _ _ h => h) (HS.out _ HBM.out.drew) ?_
                    simp only [List.map_cons, List.map_nil, Ms.fill, List.getD_cons_zero, List.getD_cons_succ]
                    iterate 12 (refine mixT_take (by rfl) ?_ (fun w' hw' => ?_) ?_; rotate_left; (focus (go_simp; (try with_reducible rfl))); (try simp only [Act.put, List.setIfInBounds_toArray, List.set_cons_zero, List.set_cons_succ]))
                    refine mixT_step (by rfl) fun K hK => ?_
                    go_simp
                    refine (HRF1.out wr.drew HBM.out.drew).mono ?_
                    rintro e w15 ⟨rfl, hb15⟩
                    have B15 := HBM.out.drew.trans (hb15.mono HBM.out.drew.size)
                    refine hK _ _ (fun _ => HS.out _ B15) ?_
                    clear hK K
                    refine mixT_step (by rfl) fun K hK => ?_
                    go_simp
                    refine (HAL.out (tx 1) w15).mono ?_
                    rintro e w16 ⟨rfl, hb16⟩
                    have B16 := B15.trans (hb16.mono B15.size)
                    refine hK _ _ (fun _ => HS.out _ B16) ?_
                    clear hK K
                    iterate 2 (refine mixT_take (by rfl) ?_ (fun w' hw' => ?_) ?_; rotate_left; (focus (go_simp; (try with_reducible rfl))); (try simp only [Act.put, List.setIfInBounds_toArray, List.set_cons_zero, List.set_cons_succ]))
                    refine mixT_nil ?_
                    go_wp2_with fail
                    go_roundw
                    case rel => exact ⟨2, by go_num, by omega, B16⟩
                    case measure => simp [RowKit.intOf]
                · as_aux_lemma =>
                    have HBM := Lib.hid hbm
                    clear hbm
                    go_upto_region 31 with fail
                    refine wp_region_mix [.take 0, .take 1, .take 2, .take 3, .take 4, .take 5, .take 6, .take 7, .take 8, .take 10, .take 11, .take 12, .one 9, .one 13, .take 14, .take 15] 16 (fun W => W.cell? ⟨N7, 0, none⟩ = some (.slice (As 0) (ls 0).length (cs 0)) ∧ W.cell? ⟨N7, 1, none⟩ = some (.slice (As 1) (ls 1).length (cs 1)) ∧ W.cell? ⟨N7, 2, none⟩ = some (.slice (As 2) (ls 2).length (cs 2)) ∧ W.cell? ⟨N7, 3, none⟩ = some (.int .i64 (zsOf tx 0)) ∧ W.cell? ⟨N7, 4, none⟩ = some (.int .i64 (zsOf tx 1)) ∧ W.cell? ⟨NB, 0, none⟩ = some (.slice none 0 0) ∧ W.cell? ⟨NB, 1, none⟩ = some (.slice none 0 0) ∧ W.cell? ⟨NB, 2, none⟩ = some (.string (tx 0)) ∧ W.cell? ⟨NB, 3, none⟩ = some (.int .i64 0) ∧ W.cell? ⟨NB, 4, none⟩ = some (.int .i64 0) ∧ W.cell? ⟨NB, 5, none⟩ = some (.slice none 0 0) ∧ W.cell? ⟨NB, 6, none⟩ = some (.slice none 0 0) ∧ W.cell? ⟨NB, 7, none⟩ = some (.string (tx 1)) ∧ W.cell? ⟨NB, 8, none⟩ = some (.int .i64 0) ∧ W.cell? ⟨NB, 9, none⟩ = some (.int .i64 0) ∧ W.cell? ⟨NB, 10, none⟩ = some (.slice none 0 0) ∧ W.cell? ⟨NB, 11, none⟩ = some (.slice PA lp.1.length pk) ∧ W.cell? ⟨NB, 12, none⟩ = some (.string ⟨#[]⟩) ∧ W.cell? ⟨NB, 13, none⟩ = some (.int .i64 0) ∧ W.cell? ⟨NB, 14, none⟩ = some (.int .i64 0)) (by kernel_rfl) (by kernel_rfl) (fun _ _ _ _ _ h => h) (HS.out _ HBM.out.drew) ?_
                    simp only [List.map_cons, List.map_nil, Ms.fill, List.getD_cons_zero, List.getD_cons_succ]
                    iterate 12 (refine mixT_take (by rfl) ?_ (fun w' hw' => ?_) ?_; rotate_left; (focus (go_simp; (try with_reducible rfl))); (try simp only [Act.put, List.setIfInBounds_toArray, List.set_cons_zero, List.set_cons_succ]))
                    refine mixT_step (by rfl) fun K hK => ?_
                    go_simp
                    refine (HRT.out wr.drew HBM.out.drew).mono ?_
                    rintro e w15 ⟨PC, pk2, rfl, ho15, hb15⟩
                    have B15 := HBM.out.drew.trans (hb15.mono HBM.out.drew.size)
                    refine hK _ _ (fun _ => HS.out _ B15) ?_
                    clear hK K
                    refine mixT_step (by rfl) fun K hK => ?_
                    go_simp
                    refine (HAL2.out w15 B15 PC pk2 (Reads.of_own ho15)).mono ?_
                    rintro e w16 ⟨rfl, hb16⟩
                    have B16 := B15.trans (hb16.mono B15.size)
                    refine hK _ _ (fun _ => HS.out _ B16) ?_
                    clear hK K
                    iterate 2 (refine mixT_take (by rfl) ?_ (fun w' hw' => ?_) ?_; rotate_left; (focus (go_simp; (try with_reducible rfl))); (try simp only [Act.put, List.setIfInBounds_toArray, List.set_cons_zero, List.set_cons_succ]))
                    refine mixT_nil ?_
                    go_wp2_with fail
                    go_roundw
                    case rel => exact ⟨3, by go_num, by omega, B16⟩
                    case measure => simp [RowKit.intOf]
                · as_aux_lemma =>
                    have B20 := HB13.out.trans (hbm.mono HB13.out.size)
                    have haw : Calls Tryz.prog 8 #[] wr (fun e w' => e = .returned (.bool true) ∧ Below wr.heap.size wr w') := awake_any wr (HH.out.below B20 hp0)
                    go_wp2_with fail
                    refine haw.mono ?_
                    rintro e w21 ⟨rfl, hb21⟩
                    go_wp2_with fail
                    go_ret
                    exact ⟨rfl, B20.trans (hb21.mono B20.size)⟩
end Go.Proofs.YtljmdcegcckblaaGreatDoor
/- P12.9: DataCommits: the row proved, and its tied card. -/
namespace Go.Proofs.YtljmdcegcckblaaGreatDoor
open Go.ChangeShapes Go.WideShapes Go.ChangeAt Go.RowKit Go.Joins Go.Deep

set_option maxRecDepth 100000 in
theorem commits_lifted (os : Os) (started : os.Started) (H : Type) (enc : TypeId × Value → H) :
    ReturnsInHanded {} Tryz.checked os 6 .any (fun w args => (Rows.dataCommitsSpec.pre enc Tryz.prog Tryz.f6 [] false w args ∧ laidMetH Tryz.prog half1 w) ∧ sizedMet enc Tryz.prog Tryz.f6 (OpenSpec.ofChange Rows.dataCommitsSpec) false w args)
      (Rows.dataCommitsSpec.post enc Tryz.prog Tryz.f6 false true false false) := by
  refine returnsInHanded_of_change_and (C := Tryz.checked) (X := fun w _ => laidMetH Tryz.prog half1 w) (fun _ _ _ hh h => h.of_heap hh) Tryz.own started (by kernel_rfl) Tryz.func6
    (ChangeSpec.witness_shaped (enc := enc) (C := Tryz.checked) (os := os) (X := fun w _ => laidMetH Tryz.prog half1 w) false (World.doorLaid Tryz.prog 400 os) #[.agg #[.int .u8 0, .int .u8 0], .slice none 0 0] 8 rfl (World.shaped_of_RefB (by kernel_rfl) (by kernel_rfl)) (by kernel_rfl) (by kernel_rfl) (by kernel_rfl) (door_met os _)) ?_
  intro W base args ds gs before hval0 hW _ _ hL _
  have hval : ∀ (j : Nat) t v, Tryz.f6.params[j]? = some t → args[j]? = some v → Value.okWide Tryz.prog W .any base t v := hval0
  have hW' := hW
  obtain ⟨p, q, hA0, hV, rfl, hfz, hnd⟩ := hW
  have hA : DataW.TrodAll enc Tryz.prog W 0 (fun _ => true) true Tryz.f6.params.toList args.toList ds p := hA0
  rw [Tryz.params6] at hA hval
  obtain ⟨v0, v1, d0, d1, p0, p1, rfl, rfl, rfl, h0, h1⟩ := trodAll_two hA
  obtain ⟨rfl, rfl⟩ := trodVars_none hV
  have hH := half_of_laid hL
  have h0k := h0
  have h1k := h1
  clear hA0 hval0
  simp only [List.append_nil] at hW'
  have hlt0 : ∀ x ∈ p0, x.block < W.heap.size := fun x hx => by simpa using hW'.lt x (by simp [hx])
  have hlt1 : ∀ x ∈ p1, x.block < W.heap.size := fun x hx => by simpa using hW'.lt x (by simp [hx])
  obtain ⟨jn, ino, rfl, hj, hi⟩ := open_start (hval 0 23 v0 rfl rfl) h0
  obtain ⟨A, c, xs, rfl, hR, hok, hl⟩ := open_actv (hval 1 24 v1 rfl rfl) h1
  refine (dataCommits_any jn ino hj hi A c xs hl W hok hH hR).mono fun e W' ⟨he, hnx⟩ => ?_
  subst he
  refine ⟨_, rfl, _, _, _, [], p0 ++ p1, [], hW', ?_, ?_, rfl, hnx.frame _, fun h => by cases h⟩
  · exact trodAll_mk1 (shut_bool Tryz.underlying4 true)
  · exact trodAll_mk2 (Below.trod Tryz.laidOut (by kernel_rfl) (of_decide_eq_true (by kernel_rfl)) h0k hnx hlt0) (Below.trod Tryz.laidOut (by kernel_rfl) (of_decide_eq_true (by kernel_rfl)) h1k hnx hlt1)

theorem dataCommits_holds : Rows.DataCommitsSaid :=
  OpenClaim.holds_of_wide 6 Tryz.f6 rfl rfl rfl rfl rfl rfl rfl ⟨rfl, rfl, rfl, rfl, rfl⟩ rfl rfl rfl rfl rfl (by kernel_rfl) Tryz.func6 (by kernel_rfl)
    (of_decide_eq_true (by kernel_rfl)) (by unfold Func.isWrapper; first | (rw [if_pos (by decide +kernel)]; kernel_rfl) | (rw [if_neg (by decide +kernel)]; exact ⟨rfl, rfl⟩))
    (fun os started H enc _ => commits_lifted os started H enc)

theorem dataCommitsCard_holds : Rows.DataCommitsCardSaid :=
  Claim7.holds_tied_plain_at .later [] [.data] true (true, "13a9981fa89d584258343d5f94a49ba00e5d7457fcac4b4ffe77bfe81a809aa0") false
    dataCommits_holds (fun _ h => by cases h) (by kernel_rfl) (fun _ h => by cases h) dataCommits_row_tie rfl ⟨rfl, rfl⟩ (by kernel_rfl) rfl
    (fun f fn hf hfn => by
      obtain rfl : f = 6 := Option.some.inj ((show Tryz.prog.funcNamed "limewash/limewashlaw12.DataCommits" = some 6 by kernel_rfl).symm.trans hf) |>.symm
      obtain rfl : fn = Tryz.f6 := (Option.some.inj (Tryz.func6.symm.trans hfn)).symm
      exact ⟨by kernel_rfl, fun j t ht => by
        rw [Tryz.params6] at ht
        have hm : t ∈ [23, 24] := by simpa using Array.mem_of_getElem? ht
        have hall : ([23, 24].all fun u => !Tryz.prog.wantsStandIn u) = true := by kernel_rfl
        exact (show Tryz.prog.wantsStandIn t = false by simpa using List.all_eq_true.1 hall t hm)⟩)
    (by kernel_rfl)

#print axioms dataCommitsCard_holds
end Go.Proofs.YtljmdcegcckblaaGreatDoor
