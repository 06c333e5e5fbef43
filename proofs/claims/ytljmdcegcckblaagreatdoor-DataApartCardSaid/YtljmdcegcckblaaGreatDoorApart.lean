/- Parts of the proof, put together by program: DV, DX. -/
import Derived.Test.YtljmdcegcckblaaGreatDoorPart50
import Derived.Test.YtljmdcegcckblaaGreatDoorPart36
import Derived.Test.YtljmdcegcckblaaGreatDoorPart42
import Derived.Test.YtljmdcegcckblaaGreatDoorPart06
import Derived.BigQuiet
import Derived.Deep.CutRange
import Derived.Deep.CutBlock
/- P12.7: DataApart, walked. -/
namespace Go.Proofs.YtljmdcegcckblaaGreatDoor
open Go.RowKit Go.Maps

/-- The book in block N7. -/
structure BookAt (w : World) (F B : List Nat) (N7 : Nat) (ls : Nat → List Int) (zs : Nat → Int) (As : Nat → Option Addr) (cs : Nat → Nat) : Prop where
  b7 : Blk w N7 38 (bookC (slOf As cs ls 0) (slOf As cs ls 1) (slOf As cs ls 2) (zs 0) (zs 1))
  f7 : N7 ∉ F
  d7 : N7 ∉ B
  kp : ∀ k, k < 3 → Keeps w F (As k) (cs k) (ls k)
  k7 : ∀ k a, k < 3 → As k = some a → a.block ≠ N7
  ln : ∀ k, k < 3 → (ls k).length ≤ 1000
  zs : ∀ k, k < 2 → 0 ≤ zs k ∧ zs k ≤ 10000
/-- Between two acts. -/
structure ApRel (w0 w : World) (T D N7 NL : Nat) (B : List Nat) (x : DevS) (F : List Nat) (y : TxS) (ls : Nat → List Int) (zs : Nat → Int) (As : Nat → Option Addr) (cs : Nat → Nat) : Prop where
  run : Run w0 w T F D y B x
  bk : BookAt w F B N7 ls zs As cs
  lay : ∃ LC, LC[0]? = some (.int .i64 64) ∧ Blk w NL 32 LC
  lf : NL ∉ F
  clean : y.Clean
  st : y.stateE = 0
  s64 : y.s = 64
section
variable {w0 w w' : World} {T D N7 NL : Nat} {B F F' : List Nat} {x : DevS} {y : TxS} {ls : Nat → List Int} {zs : Nat → Int} {As : Nat → Option Addr} {cs : Nat → Nat}
theorem BookAt.grow (h : BookAt w F B N7 ls zs As cs) (g : Grow w F w' F') : BookAt w' F' B N7 ls zs As cs :=
  ⟨g.blk h.b7 h.f7, g.notin h.f7 h.b7.lt, h.d7, fun k hk => (h.kp k hk).grow g, h.k7, h.ln, h.zs⟩
theorem BookAt.below (h : BookAt w F B N7 ls zs As cs) (hb : Below w.heap.size w w') : BookAt w' F B N7 ls zs As cs := h.grow (Grow.of_below hb F)
theorem BookAt.book (h : BookAt w F B N7 ls zs As cs) {ls' : Nat → List Int} {zs' : Nat → Int} {As' : Nat → Option Addr} {cs' : Nat → Nat} (kp : ∀ k, k < 3 → Keeps w F (As' k) (cs' k) (ls' k)) (k7 : ∀ k a, k < 3 → As' k = some a → a.block ≠ N7) (ln : ∀ k, k < 3 → (ls' k).length ≤ 1000) (hz : ∀ k, k < 2 → 0 ≤ zs' k ∧ zs' k ≤ 10000) :
    BookAt (w.setRow N7 (bookC (slOf As' cs' ls' 0) (slOf As' cs' ls' 1) (slOf As' cs' ls' 2) (zs' 0) (zs' 1))) F B N7 ls' zs' As' cs' :=
  ⟨h.b7.setRow, h.f7, h.d7, fun k hk => (kp k hk).row (fun a e => k7 k a hk e) _, k7, ln, hz⟩
theorem ApRel.below (h : ApRel w0 w T D N7 NL B x F y ls zs As cs) (hb : Below w.heap.size w w') : ApRel w0 w' T D N7 NL B x F y ls zs As cs := by
  obtain ⟨LC, h1, h2⟩ := h.lay
  exact ⟨h.run.below hb, h.bk.below hb, ⟨LC, h1, h2.belowAll hb⟩, h.lf, h.clean, h.st, h.s64⟩
end

set_option maxRecDepth 100000 in
set_option maxHeartbeats 16000000 in
theorem dataApart_any (jn ino : Int) (hjn : 0 ≤ jn ∧ jn ≤ 255) (hin : 0 ≤ ino ∧ ino ≤ 255) (A : Option Addr) (c : Nat) (xs : List ActV) (hl : xs.length ≤ maxLen) (w : World) (hok : ∀ a ∈ xs, ActOk w a) (hH : HalfAt w) (hR : Reads w A (xs.flatMap actL)) :
    Calls Tryz.prog 4 #[.agg #[.int .u8 jn, .int .u8 ino], .slice A xs.length c] w fun e w' => e = .returned (.bool true) ∧ Below w.heap.size w w' := by
  have hp0 := hH.1
  have HH := Lib.hid hH
  have HOK := Lib.hid hok
  have HR := Lib.hid hR
  obtain ⟨wA, hA⟩ : ∃ wA, wA = w.alloc (.cells #[.int .u8 jn, .int .u8 ino] 23) := ⟨_, rfl⟩
  have bA : Blk wA w.heap.size 23 #[.int .u8 jn, .int .u8 ino] := by rw [hA]; exact Blk.new _ _ _
  have BA : Below w.heap.size w wA := by rw [hA]; exact (Below.refl _ _).alloc (Nat.le_refl _) _
  have f1 := far_any A c xs hl wA (hR.below BA)
  unfold maxLen at hl
  clear hH hok hR
  go_enter Tryz.func4, Tryz.ntmps4
  go_wp2_with fail
  rw [← hA]
  clear hA
  refine f1.mono ?_
  rintro e w1 ⟨rfl, hb1⟩
  have B1 := BA.trans (hb1.mono BA.size)
  have b1 := bA.belowAll hb1
  clear f1 bA BA hb1
  by_cases hfar : farB xs = true
  · rw [hfar]
    have haw : Calls Tryz.prog 8 #[] w1 (fun e w' => e = .returned (.bool true) ∧ Below w1.heap.size w1 w') := awake_any w1 (HH.out.below B1 hp0)
    go_wp2_with fail
    refine haw.mono ?_
    rintro e w2 ⟨rfl, hb2⟩
    go_wp2_with fail
    go_ret
    exact ⟨rfl, B1.trans (hb2.mono B1.size)⟩
  have hfar' : farB xs = false := by simpa using hfar
  rw [hfar']
  have hbb : ∀ a ∈ xs, bigA a = false := by
    unfold farB at hfar'
    simp only [Bool.or_eq_false_iff, decide_eq_false_iff_not] at hfar'
    exact fun a ha => by simpa using List.any_eq_false.1 hfar'.2 a ha
  have HB := Lib.hid hbb
  clear hfar hfar' hbb
  have c1 := b1.cells
  have l1 := b1.lt
  go_wp2_with fail
  refine (layout_any jn ino hjn hin w1).mono ?_
  rintro e w2 ⟨rfl, hb2⟩
  have B2 := B1.trans (hb2.mono B1.size)
  obtain ⟨w2a, hw2a⟩ : ∃ w2a, w2.alloc (.cells #[.int .i64 64, .int .i64 (8 + jn % 21), .int .i64 (1 + ino % 26)] 32) = w2a := ⟨_, rfl⟩
  obtain ⟨NL, hNL⟩ : ∃ NL, w2.heap.size = NL := ⟨_, rfl⟩
  have bL : Blk w2a NL 32 #[.int .i64 64, .int .i64 (8 + jn % 21), .int .i64 (1 + ino % 26)] := by rw [← hw2a, ← hNL]; exact Blk.new _ _ _
  have B2a : Below w.heap.size w w2a := by rw [← hw2a]; exact B2.alloc B2.size _
  have hbg : Calls Tryz.prog 9 #[.agg #[.int .i64 64, .int .i64 (8 + jn % 21), .int .i64 (1 + ino % 26)]] w2a (BegunPost w2a 64 (8 + jn % 21) (1 + ino % 26)) := begun_fresh 64 (8 + jn % 21) (1 + ino % 26) (layout_rg jn ino) w2a (HH.out.below B2a hp0)
  have hNLg : w.heap.size ≤ NL := by have := B2.size; omega
  have HW2 := Lib.hid hw2a
  have HNL := Lib.hid hNL
  clear c1 l1 b1 B1 hb2 hw2a hNL B2
  go_upto_region 4 with fail
  rw [HW2.out, HNL.out]
  have cL := bL.cells
  have lL := bL.lt
  go_wp2_with fail
  refine hbg.mono ?_
  rintro e w3 ⟨D, T, F0, B, x, rfl, -, ht, hb3, hF, hB⟩
  have B3 := B2a.trans (hb3.mono B2a.size)
  have r3 : Run w w3 T F0 D (freeTx 64 (8 + jn % 21) (1 + ino % 26)) B x := ⟨ht, B3, fun b hb => Nat.le_trans B2a.size (hF b hb)⟩
  have bL3 := bL.belowAll hb3
  have hLF : NL ∉ F0 := fun hm => by have := hF _ hm; omega
  have hcl : (freeTx 64 (8 + jn % 21) (1 + ino % 26)).Clean := freeTx_clean (by omega)
  have hst0 : (freeTx 64 (8 + jn % 21) (1 + ino % 26)).stateE = 0 := rfl
  have hs64 : (freeTx 64 (8 + jn % 21) (1 + ino % 26)).s = 64 := rfl
  generalize freeTx 64 (8 + jn % 21) (1 + ino % 26) = y0 at *
  clear hbg ht hb3 hF B2a B3 hjn hin cL lL bL
  obtain ⟨w4, hw4⟩ : ∃ w4, w4 = w3.alloc (.cells (bookC (.slice none 0 0) (.slice none 0 0) (.slice none 0 0) 0 0) 38) := ⟨_, rfl⟩
  have b34 : Below w3.heap.size w3 w4 := by rw [hw4]; exact (Below.refl _ _).alloc (Nat.le_refl _) _
  have hflt := r3.flt
  have hblt := r3.blt
  have hge := r3.bl.size
  obtain ⟨N7, hN7⟩ : ∃ N7, N7 = w3.heap.size := ⟨_, rfl⟩
  have hN7g : w.heap.size ≤ N7 := by omega
  have hL7 : NL ≠ N7 := by have := bL3.lt; omega
  have p4 : ApRel w w4 T D N7 NL B x F0 y0 (fun _ => []) (fun _ => 0) (fun _ => none) (fun _ => 0) :=
    ⟨r3.below b34, ⟨by rw [hw4, hN7]; exact Blk.new _ _ _, fun hm => by have := hflt _ hm; omega, fun hm => by have := hblt _ hm; omega, fun k _ => ⟨slI_nil _, fun a h => by cases h⟩, fun k a _ h => (by cases h), fun k _ => by simp, fun k _ => by omega⟩, ⟨_, rfl, bL3.belowAll b34⟩, hLF, hcl, hst0, hs64⟩
  have HW := Lib.hid hw4
  have H7 := Lib.hid hN7
  clear hw4 b34 r3 hflt hblt hge hN7 bL3 hLF hcl hst0 hs64 hB
  go_wp2_with fail
  rw [← HW.out, ← H7.out]
  clear HW H7
  go_loopw [9] (fun q wr => ∃ (k : Nat) (F : List Nat) (y : TxS) (ls : Nat → List Int) (zs : Nat → Int) (As : Nat → Option Addr) (cs : Nat → Nat), k ≤ xs.length ∧ q = .int .i64 k ∧ ApRel w wr T D N7 NL B x F y ls zs As cs) (fun q _ => xs.length - (RowKit.intOf q).toNat)
  case atStart => exact ⟨0, F0, y0, _, _, _, _, Nat.zero_le _, rfl, p4⟩
  case round =>
    obtain ⟨k, F, y, ls, zs, As, cs, hk, rfl, hr⟩ := hrel
    clear p4
    by_cases hlt : k < xs.length
    · obtain ⟨ab, ao, rfl, -⟩ := acts_at (HR.out.below hr.run.bl) hlt
      have hce := acts_cells HR.out hlt
      have hm := List.getElem_mem hlt
      have hoka := HOK.out _ hm
      have hbig := HB.out _ hm
      generalize xs[k] = act at *
      have hof : ∀ V, Below wr.heap.size wr V → Calls Tryz.prog 11 #[.agg #[.int .u8 act.wh, .int .u8 act.f, .int .i64 act.kd, .int .i64 act.off, .int .i64 act.n, .int .i64 act.size, .slice act.A act.m act.c, .string act.s], .agg #[slOf As cs ls 0, slOf As cs ls 1, slOf As cs ls 2, .int .i64 (zs 0), .int .i64 (zs 1)]] V (OfAnyPost wr.heap.size V F act.s) := fun V hV => of_any hoka hr.run.bl hr.run.fl hbig ls zs As cs hr.bk.zs hr.bk.kp hr.bk.ln V hV
      have hs9 : act.s.size ≤ 900 := by unfold bigA at hbig; simp at hbig; omega
      have HOF := Lib.hid hof
      have HCE := Lib.hid hce
      have HWH := Lib.hid (And.intro hoka.wh hoka.f)
      clear hce hm hoka hof hbig
      have hsc : ∀ V, Below w.heap.size w V → Blk V N7 38 (bookC (slOf As cs ls 0) (slOf As cs ls 1) (slOf As cs ls 2) (zs 0) (zs 1)) → (fun W => W.cell? ⟨ab, ao + k * 8, none⟩ = some (.int .u8 act.wh) ∧ W.cell? ⟨ab, ao + k * 8 + 1, none⟩ = some (.int .u8 act.f) ∧ W.cell? ⟨ab, ao + k * 8 + 2, none⟩ = some (.int .i64 act.kd) ∧ W.cell? ⟨ab, ao + k * 8 + 3, none⟩ = some (.int .i64 act.off) ∧ W.cell? ⟨ab, ao + k * 8 + 4, none⟩ = some (.int .i64 act.n) ∧ W.cell? ⟨ab, ao + k * 8 + 5, none⟩ = some (.int .i64 act.size) ∧ W.cell? ⟨ab, ao + k * 8 + 6, none⟩ = some (.slice act.A act.m act.c) ∧ W.cell? ⟨ab, ao + k * 8 + 7, none⟩ = some (.string act.s) ∧ W.cell? ⟨N7, 0, none⟩ = some (slOf As cs ls 0) ∧ W.cell? ⟨N7, 1, none⟩ = some (slOf As cs ls 1) ∧ W.cell? ⟨N7, 2, none⟩ = some (slOf As cs ls 2) ∧ W.cell? ⟨N7, 3, none⟩ = some (.int .i64 (zs 0)) ∧ W.cell? ⟨N7, 4, none⟩ = some (.int .i64 (zs 1))) V := fun V hb b => by
        obtain ⟨q0, q1, q2, q3, q4, q5, q6, q7⟩ := HCE.out V hb
        exact ⟨q0, q1, q2, q3, q4, q5, q6, q7, (b.cells 0).trans rfl, (b.cells 1).trans rfl, (b.cells 2).trans rfl, (b.cells 3).trans rfl, (b.cells 4).trans rfl⟩
      have HSC := Lib.hid hsc
      have hbge : w.heap.size ≤ wr.heap.size := hr.run.bl.size
      have hrbl := Lib.hid hr.run.bl
      have hb7 := Lib.hid hr.bk.b7
      clear hsc
      generalize hwh9 : act.wh = wh at *
      generalize hf9 : act.f = f at *
      generalize hkd9 : act.kd = kd at *
      generalize hoff9 : act.off = off at *
      generalize hn9 : act.n = n at *
      generalize hsz9 : act.size = size at *
      generalize hA9 : act.A = LA at *
      generalize hm9 : act.m = lm at *
      generalize hc9 : act.c = lc at *
      generalize hs99 : act.s = s at *
      have HAE := Lib.hid (And.intro hwh9 (And.intro hf9 (And.intro hkd9 (And.intro hoff9 (And.intro hn9 (And.intro hsz9 (And.intro hA9 (And.intro hm9 (And.intro hc9 hs99)))))))))
      clear hwh9 hf9 hkd9 hoff9 hn9 hsz9 hA9 hm9 hc9 hs99
      go_upto_region 11 with fail
      go_cut [10] from 38 to 150 (fun s10 wx => ∃ (C : Nat) (cw ck cz co cn : Int) (ca : Option Addr) (clk : Nat) (L : List Int) (P : Option Addr) (pn pc m0 : Nat), s10 = .pointer (some ⟨C, 0, none⟩) ∧ Below wr.heap.size wr wx ∧ wr.heap.size ≤ C ∧ Blk wx C 44 (callC cw ck cz co cn (.slice ca L.length clk) s (.slice P pn pc)) ∧ wr.heap.size ≤ m0 ∧ OfAny wr.heap.size m0 wx F cw cz co cn ca clk L P pn)
      case first =>
        as_aux_lemma =>
          clear hr hs9 HWH
          refine wp_region_mix [.take 0, .take 1, .take 2, .take 3, .take 4, .par 6 [5], .one 7] 7 (fun W => W.cell? ⟨ab, ao + k * 8, none⟩ = some (.int .u8 wh) ∧ W.cell? ⟨ab, ao + k * 8 + 1, none⟩ = some (.int .u8 f) ∧ W.cell? ⟨ab, ao + k * 8 + 2, none⟩ = some (.int .i64 kd) ∧ W.cell? ⟨ab, ao + k * 8 + 3, none⟩ = some (.int .i64 off) ∧ W.cell? ⟨ab, ao + k * 8 + 4, none⟩ = some (.int .i64 n) ∧ W.cell? ⟨ab, ao + k * 8 + 5, none⟩ = some (.int .i64 size) ∧ W.cell? ⟨ab, ao + k * 8 + 6, none⟩ = some (.slice LA lm lc) ∧ W.cell? ⟨ab, ao + k * 8 + 7, none⟩ = some (.string s) ∧ W.cell? ⟨N7, 0, none⟩ = some (slOf As cs ls 0) ∧ W.cell? ⟨N7, 1, none⟩ = some (slOf As cs ls 1) ∧ W.cell? ⟨N7, 2, none⟩ = some (slOf As cs ls 2) ∧ W.cell? ⟨N7, 3, none⟩ = some (.int .i64 (zs 0)) ∧ W.cell? ⟨N7, 4, none⟩ = some (.int .i64 (zs 1))) (by kernel_rfl) (by kernel_rfl) (fun _ _ _ _ _ h => h) (HSC.out _ hrbl.out.drew (hb7.out.drew)) ?_
          simp only [List.map_cons, List.map_nil, Ms.fill, List.getD_cons_zero, List.getD_cons_succ]
          iterate 5 (refine mixT_take (by rfl) ?_ (fun w' hw' => ?_) ?_; rotate_left; (focus (go_simp; (try with_reducible rfl))); (try simp only [Act.put, List.setIfInBounds_toArray, List.set_cons_zero, List.set_cons_succ]))
          refine mixT_par fun K0 hK0 => ?_
          refine parT_cons (fun K hK => ?_) (fun K hK => ?_)
          · obtain ⟨X, hX⟩ : ∃ X, X = (wr.alloc (.cells #[.int .i64 0, .int .i64 0, .int .i64 0, .int .i64 0, .int .i64 0, .slice none 0 0, .string ⟨#[]⟩, .slice none 0 0] 44)).drew := ⟨_, rfl⟩
            have bX : Blk X wr.heap.size 44 #[.int .i64 0, .int .i64 0, .int .i64 0, .int .i64 0, .int .i64 0, .slice none 0 0, .string ⟨#[]⟩, .slice none 0 0] := by rw [hX]; exact (Blk.new _ _ _).drew
            have BX : Below wr.heap.size wr X := by rw [hX]; exact ((Below.refl _ _).alloc (Nat.le_refl _) _).drew
            go_simp
            rw [← hX]
            refine hK _ _ (HSC.out _ (hrbl.out.trans (BX.mono hbge)) (hb7.out.belowAll BX)) ?_
            clear hK K hX
            refine chainT_cons (fun K hK => ?_)
            go_simp
            refine (HOF.out X BX).mono ?_
            rintro e w5 ⟨hb5, cw, ck, cz, co, cn, ca, clk, L, P, pn, pc, rfl, hsp⟩
            have B5 := BX.trans (hb5.mono BX.size)
            have bX5 := bX.belowAll hb5
            refine hK _ _ (HSC.out _ (hrbl.out.trans (B5.mono hbge)) (hb7.out.belowAll B5)) ?_
            clear hK K
            refine chainT_nil ?_
            refine hK0 _ _ ?_
            clear hK0 K0
            refine mixT_step (by rfl) fun K hK => ?_
            have hst := storeRow (ty := 44) (vs := callC cw ck cz co cn (.slice ca L.length clk) s (.slice P pn pc)) bX5 rfl (by simp [Value.oneCell']) (by kernel_rfl)
            refine op_storeBy _ _ _ rfl _ _ rfl rfl hst ?_
            refine hK _ _ (fun h => absurd h (by decide)) ?_
            clear hK K
            refine mixT_nil ?_
            go_wp2_with fail
            go_meet
            case rel => exact ⟨wr.heap.size, cw, ck, cz, co, cn, ca, clk, L, P, pn, pc, X.heap.size, rfl, Below.setRow B5 (Nat.le_refl _) _, Nat.le_refl _, bX5.setRow, BX.size, hsp.row (Nat.le_refl _) (fun b h1 h2 e => by have := bX.lt; omega) _⟩
          · go_simp
            refine (HOF.out wr.drew (Below.refl _ _).drew).mono ?_
            rintro e w5 ⟨hb5, cw, ck, cz, co, cn, ca, clk, L, P, pn, pc, rfl, hsp⟩
            have B5 : Below wr.heap.size wr w5 := (Below.refl _ _).drew.trans hb5
            refine hK _ _ (HSC.out _ (hrbl.out.trans (B5.mono hbge)) (hb7.out.belowAll B5)) ?_
            clear hK K
            refine parT_nil (fun K hK => ?_)
            obtain ⟨X, hX⟩ : ∃ X, X = w5.alloc (.cells #[.int .i64 0, .int .i64 0, .int .i64 0, .int .i64 0, .int .i64 0, .slice none 0 0, .string ⟨#[]⟩, .slice none 0 0] 44) := ⟨_, rfl⟩
            have bX : Blk X w5.heap.size 44 #[.int .i64 0, .int .i64 0, .int .i64 0, .int .i64 0, .int .i64 0, .slice none 0 0, .string ⟨#[]⟩, .slice none 0 0] := by rw [hX]; exact Blk.new _ _ _
            have BX : Below wr.heap.size wr X := by rw [hX]; exact B5.alloc B5.size _
            have h5X : Below w5.heap.size w5 X := by rw [hX]; exact (Below.refl _ _).alloc (Nat.le_refl _) _
            go_simp
            rw [← hX]
            refine hK _ _ (HSC.out _ (hrbl.out.trans (BX.mono hbge)) (hb7.out.belowAll BX)) ?_
            clear hK K hX
            refine hK0 _ _ ?_
            clear hK0 K0
            refine mixT_step (by rfl) fun K hK => ?_
            have hst := storeRow (ty := 44) (vs := callC cw ck cz co cn (.slice ca L.length clk) s (.slice P pn pc)) bX rfl (by simp [Value.oneCell']) (by kernel_rfl)
            refine op_storeBy _ _ _ rfl _ _ rfl rfl hst ?_
            refine hK _ _ (fun h => absurd h (by decide)) ?_
            clear hK K
            refine mixT_nil ?_
            go_wp2_with fail
            go_meet
            case rel => exact ⟨w5.heap.size, cw, ck, cz, co, cn, ca, clk, L, P, pn, pc, wr.drew.heap.size, rfl, Below.setRow BX B5.size _, B5.size, bX.setRow, by simp, hsp.made B5.size h5X _⟩
      case rest =>
        as_aux_lemma =>
          obtain ⟨C, cw, ck, cz, co, cn, ca, clk, L, P, pn, pc, m0, rfl, hbc, hCg, bC, hm0, hsp⟩ := hcut
          have hr1 := hr.below hbc
          have hFm : ∀ b ∈ F, b < wr.heap.size := hr.run.flt
          have hCF : C ∉ F := fun hm => by have := hFm _ hm; omega
          have hC7 : C ≠ N7 := by have := hr.bk.b7.lt; omega
          have HSC2 := Lib.hid hCg
          clear hr hb7 HOF
          have hbl := blocks_tx T F D y wc hr1.run.td.tx hr1.st
          go_wp2_with fail
          refine hbl.mono ?_
          rintro e w6 ⟨ov, rfl, ho, hb6⟩
          obtain ⟨oa, oc, rfl⟩ := own_slice ho
          obtain ⟨w7, hw7⟩ : ∃ w7, w6.alloc (.cells #[.int .i64 y.s, .int .i64 y.j, .int .i64 y.i, .slice oa y.now.length oc] 57) = w7 := ⟨_, rfl⟩
          obtain ⟨OB, hOB⟩ : ∃ OB, w6.heap.size = OB := ⟨_, rfl⟩
          have bO : Blk w7 OB 57 #[.int .i64 y.s, .int .i64 y.j, .int .i64 y.i, .slice oa y.now.length oc] := by rw [← hw7, ← hOB]; exact Blk.new _ _ _
          have b67 : Below w6.heap.size w6 w7 := by rw [← hw7]; exact (Below.refl _ _).alloc (Nat.le_refl _) _
          have b07 : Below wc.heap.size wc w7 := hb6.trans (b67.mono hb6.size)
          have hr7 := hr1.below b07
          have bC7 := bC.belowAll b07
          have q7 := hsp.below b07
          have hRo : Reads w7 oa (y.now.map .bool) := (Reads.of_own ho).below b67
          have hlo : ∀ a, oa = some a → wc.heap.size ≤ a.block := fun a e => by subst e; exact (own_lt ho a.block rfl).1
          have hOC : OB ≠ C := by have := bC.lt; have := hb6.size; omega
          have hOg : wr.heap.size ≤ OB := by have := hb6.size; have := hbc.size; omega
          have hwcg : wr.heap.size ≤ wc.heap.size := hbc.size
          have HW7 := Lib.hid hw7
          have HOB := Lib.hid hOB
          clear hbl ho hb6 b67 hw7 hOB hr1 bC hsp b07
          go_upto_region 13 with fail
          rw [HW7.out, HOB.out]
          clear HW7 HOB
          have hrc := records_tx T F D y w7 hr7.run.td.tx hr7.clean hr7.st
          go_wp2_with fail
          refine hrc.mono ?_
          rintro e w8 ⟨rv, rfl, hor, hb8⟩
          obtain ⟨ra, rc, rfl⟩ := own_slice hor
          have hr8 := hr7.below hb8
          have bC8 := bC7.belowAll hb8
          have bO8 := bO.belowAll hb8
          have q8 := q7.below hb8
          have hRo8 := hRo.below hb8
          have hRr : Reads w8 ra (y.recs.flatMap recV) := Reads.of_own3 hor
          have hlr : ∀ a, ra = some a → w7.heap.size ≤ a.block := fun a e => by subst e; exact (own_lt hor a.block rfl).1
          have h7g : wr.heap.size ≤ w7.heap.size := by have := bO.lt; omega
          have hdn := done_any T F D y B x s (by omega) wr.heap.size m0 cw ck cz co cn ca clk L P pn pc w8 hr8.run.td hr8.clean hr8.st hr8.run.td.tx.ok.dts.2.2.1 (fun b hb => by have := hFm b hb; omega) q8
          have hCt := bC8.cells
          have lCt := bC8.lt
          clear hrc hor hb8 hr7 bC7 bO q7 hRo
          go_wp2_with fail
          refine hdn.mono ?_
          rintro e w9 ⟨RA, lk, PA, pm, pk, t, z, E, y', F', R, rfl, ht, g, hap, hcl, hRl, hkR, hge, hzz, hcn2⟩
          have hF8 : ∀ b ∈ F, b < w8.heap.size := hr8.run.flt
          have r9 := hr8.run.did ht g
          have x9 := hr8.bk.grow g
          obtain ⟨LC, hLC0, hLC⟩ := hr8.lay
          have hLC9 := g.blk hLC hr8.lf
          have hLf9 := g.notin hr8.lf hLC.lt
          have bC9 := g.blk bC8 hCF
          have hOF : OB ∉ F := fun hm => by have := hFm _ hm; omega
          have bO9 := g.blk bO8 hOF
          have k9 := q8.kp.grow (by have := bO8.lt; omega) g
          have hRo9 := hRo8.growF g fun a e hm => by have := hlo a e; have := hFm _ hm; omega
          have hRr9 := hRr.growF g fun a e hm => by have := hlr a e; have := hFm _ hm; omega
          have HS64 : Hid (y'.s = 64) := Lib.hid (hap.same.1.trans hr8.s64)
          have hnl : y'.now.length = y.now.length := hap.len
          obtain ⟨w10, hw10⟩ : ∃ w10, w9.alloc (.cells (ansC (.slice RA R.length lk) (.slice PA pm pk) t z E) 48) = w10 := ⟨_, rfl⟩
          obtain ⟨AB, hAB⟩ : ∃ AB, w9.heap.size = AB := ⟨_, rfl⟩
          have bA : Blk w10 AB 48 (ansC (.slice RA R.length lk) (.slice PA pm pk) t z E) := by rw [← hw10, ← hAB]; exact Blk.new _ _ _
          have b90 : Below w9.heap.size w9 w10 := by rw [← hw10]; exact (Below.refl _ _).alloc (Nat.le_refl _) _
          have r10 := r9.below b90
          have x10 := x9.below b90
          have hLC10 := hLC9.belowAll b90
          have bC10 := bC9.belowAll b90
          have bO10 := bO9.belowAll b90
          have k10 := k9.below b90
          have hRo10 := hRo9.below b90
          have hRr10 := hRr9.below b90
          have hkR10 := hkR.below b90
          have hAg : w8.heap.size ≤ AB := by have := g.keep.size; omega
          have hO8 : OB < w8.heap.size := bO8.lt
          have hC8 : C < w8.heap.size := bC8.lt
          have HW10 := Lib.hid hw10
          have HAB := Lib.hid hAB
          clear hdn hw10 hAB b90 r9 x9 hLC hLC9 bC9 bO9 k9 hRo9 hRr9 hkR hCt lCt
          go_upto_region 15 with fail
          rw [HW10.out, HAB.out]
          clear HW10 HAB
          by_cases hE : y'.stateE = 0
          rotate_left
          · as_aux_lemma =>
              have B10 := r10.bl
              have hbb := blocks_bad _ _ w10 r10.td.tx.st hE
              have hE9 : (y'.stateE != 0) = true := by simpa using hE
              go_wp2_with fail
              refine hbb.mono ?_
              rintro e w11 ⟨rfl, hb11⟩
              have HR10 := Lib.hid (r10.below hb11)
              obtain ⟨w12, hw12⟩ : ∃ w12, w11.alloc (.cells #[.int .i64 0, .int .i64 0, .int .i64 0, .slice none 0 0] 57) = w12 := ⟨_, rfl⟩
              have b12 : Below w11.heap.size w11 w12 := by rw [← hw12]; exact (Below.refl _ _).alloc (Nat.le_refl _) _
              have r12 := HR10.out.below b12
              have HW12 := Lib.hid hw12
              clear hw12 b12 hbb
              go_upto_region 16 with fail
              rw [HW12.out]
              have hrb := txrecords_bad _ _ w12 r12.td.tx.st hE
              go_wp2_with fail
              refine hrb.mono ?_
              rintro e w13 ⟨rfl, hb13⟩
              have r13 := r12.below hb13
              have B13 := r13.bl
              have haw : Calls Tryz.prog 8 #[] w13 (fun e w' => e = .returned (.bool true) ∧ Below w13.heap.size w13 w') := awake_any w13 (HH.out.below B13 hp0)
              clear hrb
              go_wp2_with fail
              refine haw.mono ?_
              rintro e w14 ⟨rfl, hb14⟩
              go_wp2_with fail
              go_ret
              exact ⟨rfl, B13.trans (hb14.mono B13.size)⟩
          · as_aux_lemma =>
              have hbb := blocks_tx T F' D y' w10 r10.td.tx hE
              go_wp2_with fail
              refine hbb.mono ?_
              rintro e w11 ⟨nv, rfl, ho, hb11⟩
              obtain ⟨na, nc, rfl⟩ := own_slice ho
              rw [hnl] at ho ⊢
              obtain ⟨w12, hw12⟩ : ∃ w12, w11.alloc (.cells #[.int .i64 y'.s, .int .i64 y'.j, .int .i64 y'.i, .slice na y.now.length nc] 57) = w12 := ⟨_, rfl⟩
              obtain ⟨NB, hNB⟩ : ∃ NB, w11.heap.size = NB := ⟨_, rfl⟩
              have bN : Blk w12 NB 57 #[.int .i64 y'.s, .int .i64 y'.j, .int .i64 y'.i, .slice na y.now.length nc] := by rw [← hw12, ← hNB]; exact Blk.new _ _ _
              have b12 : Below w10.heap.size w10 w12 := by rw [← hw12]; exact hb11.alloc hb11.size _
              have hRn : Reads w12 na (y'.now.map .bool) := (Reads.of_own ho).below (by rw [← hw12]; exact (Below.refl _ _).alloc (Nat.le_refl _) _)
              have HW12 := Lib.hid hw12
              have HNB := Lib.hid hNB
              have HB12 := Lib.hid b12
              clear hw12 hNB b12 hbb ho hb11
              go_upto_region 16 with fail
              rw [HW12.out, HNB.out]
              have r12 := r10.below HB12.out
              have hrc := records_tx T F' D y' w12 r12.td.tx hcl hE
              go_wp2_with fail
              refine hrc.mono ?_
              rintro e w13 ⟨rv, rfl, hor, hb13⟩
              obtain ⟨sa, sc, rfl⟩ := own_slice hor
              have b13 := HB12.out.trans (hb13.mono HB12.out.size)
              have r13 := r10.below b13
              have x13 := x10.below b13
              have L13 := hLC10.belowAll b13
              have C13 := bC10.belowAll b13
              have O13 := bO10.belowAll b13
              have A13 := bA.belowAll b13
              have N13 := bN.belowAll hb13
              have k13 := k10.below b13
              have Ro13 := hRo10.below b13
              have Rr13 := hRr10.below b13
              have Rn13 := hRn.below hb13
              have Rs13 : Reads w13 sa (y'.recs.flatMap recV) := Reads.of_own3 hor
              have kR13 := hkR10.below b13
              have hdts := hr8.run.td.tx.ok.dts
              obtain ⟨nn, hnn⟩ : ∃ nn, y.now.length = nn := ⟨_, rfl⟩
              rw [hnn] at hdts
              have hw64 : IntKind.i64.wrap (64 - (nn : Int)) = 64 - nn := by rw [IntKind.wrap_i64]; omega
              have cO := O13.cells
              have lO := O13.lt
              have cN := N13.cells
              have lN := N13.lt
              have cL := L13.cells
              have lL := L13.lt
              rw [hnn] at cO cN
              have cL0 : w13.cell? ⟨NL, 0, none⟩ = some (.int .i64 64) := (cL 0).trans hLC0
              clear hrc hor hb13 HW12 HNB cL r10 x10 hLC10 bC10 bO10 bA bN k10 hRo10 hRr10 hRn hkR10
              go_wp2_with fail
              have hLW : Hid (∀ m : Nat, m < nn → y.now.getD m false = true → (m : Int) ∉ L → y'.now.getD m false = true ∧ (atRec y.recs (64 - (nn : Int) + m)).getD noRec = (atRec y'.recs (64 - (nn : Int) + m)).getD noRec) := Lib.hid fun m h1 h2 h3 => by
                have h := apart_law hap hdts.2.1 (by rw [hnn]; exact h1) h2 h3
                rwa [hdts.1, hr8.s64] at h
              have hrl := recs_small hr8.run.td.tx.ok hr8.clean
              have hrl2 := recs_small r13.td.tx.ok hcl
              have HO := Lib.hid O13
              have HN := Lib.hid N13
              have HC := Lib.hid C13
              clear cO lO cN lN cL0 lL
              go_loopw [21] (fun q wr2 => ∃ m : Nat, m ≤ nn ∧ q = .int .i64 m ∧ Below w13.heap.size w13 wr2) (fun q _ => nn - (RowKit.intOf q).toNat)
              case atStart => exact ⟨0, by omega, rfl, Below.refl _ _⟩
              case round =>
                obtain ⟨m, hm, rfl, hbm⟩ := hrel
                have cO := (HO.out.belowAll hbm).cells
                have lO := (HO.out.belowAll hbm).lt
                rw [hnn] at cO
                by_cases hmn : m < nn
                · as_aux_lemma =>
                    have hmi : (m : Int) < nn := by omega
                    have k14 := k13.below hbm
                    have hin := in_any ca clk L (by have := q8.len; omega) m wr k14.sl.reads
                    have cC := (HC.out.belowAll hbm).cells
                    have lC := (HC.out.belowAll hbm).lt
                    go_wp2_with fail
                    refine hin.mono ?_
                    rintro e wb ⟨rfl, hbb⟩
                    have bmb := hbm.trans (hbb.mono hbm.size)
                    have HBM := Lib.hid bmb
                    by_cases hmL : (m : Int) ∈ L
                    · rw [decide_eq_true hmL]
                      clear hin cO lO cC lC
                      go_wp2_with fail
                      go_roundw
                      case rel => exact ⟨m + 1, by omega, by go_num, HBM.out⟩
                      case measure => simp [RowKit.intOf]; omega
                    · rw [decide_eq_false hmL]
                      clear hin cO lO cC lC
                      have cO := (HO.out.belowAll bmb).cells
                      have lO := (HO.out.belowAll bmb).lt
                      rw [hnn] at cO
                      obtain ⟨b1, o1, rfl, hb1, hc1⟩ := (Ro13.below bmb).at_ (k := m) (by rw [List.length_map, hnn]; exact hmn)
                      rw [List.getElem_map] at hc1
                      have hm' : m < y.now.length := by omega
                      have hgd : y.now.getD m false = y.now[m] := by rw [List.getD_eq_getElem?_getD, List.getElem?_eq_getElem hm']; rfl
                      generalize y.now[m] = u at *
                      cases u with
                      | false =>
                        go_wp2_with fail
                        go_roundw
                        case rel => exact ⟨m + 1, by omega, by go_num, HBM.out⟩
                        case measure => simp [RowKit.intOf]; omega
                      | true =>
                        obtain ⟨g1, g2⟩ := hLW.out m hmn hgd hmL
                        have hm2 : m < y'.now.length := by rw [hnl]; exact hm'
                        have hgd2 : y'.now[m] = true := by rw [List.getD_eq_getElem?_getD, List.getElem?_eq_getElem hm2] at g1; exact g1
                        obtain ⟨b2, o2, rfl, hb2, hc2⟩ := (Rn13.below bmb).at_ (k := m) (by rw [List.length_map]; exact hm2)
                        rw [List.getElem_map, hgd2] at hc2
                        have cN := (HN.out.belowAll bmb).cells
                        have lN := (HN.out.belowAll bmb).lt
                        rw [hnn] at cN
                        have hw2 : IntKind.i64.wrap (64 - (nn : Int) + m) = 64 - nn + m := by rw [IntKind.wrap_i64]; omega
                        have ha1 := recAt_any ra rc y.recs hrl (64 - nn + m) wb (Rr13.below bmb)
                        have ha2 : ∀ V, Below w13.heap.size w13 V → Calls Tryz.prog 18 #[.slice sa y'.recs.length sc, .int .i64 (64 - nn + m)] V fun e w' => e = .returned (.agg (recC ((atRec y.recs (64 - nn + m)).getD noRec))) ∧ Below V.heap.size V w' := fun V hV => by rw [g2]; exact recAt_any sa sc y'.recs hrl2 (64 - nn + m) V (Rs13.below hV)
                        generalize (atRec y.recs (64 - (nn : Int) + m)).getD noRec = r0 at ha1 ha2
                        obtain ⟨x1, x2, x3⟩ := r0
                        have HA1 : Hid (Calls Tryz.prog 18 #[.slice ra y.recs.length rc, .int .i64 (64 - nn + m)] wb fun e w' => e = .returned (.agg #[.int .i64 x1, .int .i64 x2, .string x3]) ∧ Below wb.heap.size wb w') := Lib.hid ha1
                        have HA2 : Hid (∀ V, Below w13.heap.size w13 V → Calls Tryz.prog 18 #[.slice sa y'.recs.length sc, .int .i64 (64 - nn + m)] V fun e w' => e = .returned (.agg #[.int .i64 x1, .int .i64 x2, .string x3]) ∧ Below V.heap.size V w') := Lib.hid ha2
                        clear g1 g2 hgd hgd2 hLW ha1 ha2
                        go_wp2_with fail
                        refine HA1.out.mono ?_
                        rintro e wd ⟨rfl, hbd⟩
                        have bmd := HBM.out.trans (hbd.mono HBM.out.size)
                        have HBD := Lib.hid bmd
                        clear hbd cN lN cO lO hc1 hc2 bmb hbb
                        go_wp2_with fail
                        refine (HA2.out wd bmd).mono ?_
                        rintro e we ⟨rfl, hbe⟩
                        have HBE := Lib.hid (bmd.trans (hbe.mono bmd.size))
                        go_wp2_with fail
                        go_roundw
                        case rel => exact ⟨m + 1, by omega, by go_num, HBE.out⟩
                        case measure => simp [RowKit.intOf]; omega
                · obtain rfl : m = nn := by omega
                  as_aux_lemma =>
                    have hkc : ∀ V, Below w13.heap.size w13 V → Calls Tryz.prog 13 #[.agg #[slOf As cs ls 0, slOf As cs ls 1, slOf As cs ls 2, .int .i64 (zs 0), .int .i64 (zs 1)], .agg #[.int .u8 wh, .int .u8 f, .int .i64 kd, .int .i64 off, .int .i64 n, .int .i64 size, .slice LA lm lc, .string s], .agg #[.int .i64 cw, .int .i64 ck, .int .i64 cz, .int .i64 co, .int .i64 cn, .slice ca L.length clk, .string s, .slice P pn pc], .agg #[.slice RA R.length lk, .slice PA pm pk, .string t, .int .i64 z, .int .i64 E]] V fun e w' =>
                        Below V.heap.size V w' ∧ ∃ (ls' : Nat → List Int) (zs' : Nat → Int) (As' : Nat → Option Addr) (cs' : Nat → Nat), e = .returned (.agg (bookC (slOf As' cs' ls' 0) (slOf As' cs' ls' 1) (slOf As' cs' ls' 2) (zs' 0) (zs' 1))) ∧ (∀ k, k < 2 → 0 ≤ zs' k ∧ zs' k ≤ 10000) ∧ (∀ k, k < 3 → Keeps V F' (As' k) (cs' k) (ls' k)) ∧ (∀ k, k < 3 → (ls' k).length ≤ 1000) ∧ ∀ k, k < 3 → As' k = As k ∨ As' k = RA := fun V hV => by
                      obtain ⟨rfl, rfl, rfl, rfl, rfl, rfl, rfl, rfl, rfl, rfl⟩ := HAE.out
                      exact kept_any HWH.out.2 HWH.out.1 ls zs As cs x13.zs (fun k hk => (x13.kp k hk).below hV) x13.ln cw ck cz co cn q8.hcw _ _ _ act.s t z E RA lk R hRl (kR13.below hV) hzz hcn2
                    have hsc3 : ∀ V, Below w13.heap.size w13 V → (fun W => W.cell? ⟨ab, ao + k * 8, none⟩ = some (.int .u8 wh) ∧ W.cell? ⟨ab, ao + k * 8 + 1, none⟩ = some (.int .u8 f) ∧ W.cell? ⟨ab, ao + k * 8 + 2, none⟩ = some (.int .i64 kd) ∧ W.cell? ⟨ab, ao + k * 8 + 3, none⟩ = some (.int .i64 off) ∧ W.cell? ⟨ab, ao + k * 8 + 4, none⟩ = some (.int .i64 n) ∧ W.cell? ⟨ab, ao + k * 8 + 5, none⟩ = some (.int .i64 size) ∧ W.cell? ⟨ab, ao + k * 8 + 6, none⟩ = some (.slice LA lm lc) ∧ W.cell? ⟨ab, ao + k * 8 + 7, none⟩ = some (.string s) ∧ W.cell? ⟨N7, 0, none⟩ = some (slOf As cs ls 0) ∧ W.cell? ⟨N7, 1, none⟩ = some (slOf As cs ls 1) ∧ W.cell? ⟨N7, 2, none⟩ = some (slOf As cs ls 2) ∧ W.cell? ⟨N7, 3, none⟩ = some (.int .i64 (zs 0)) ∧ W.cell? ⟨N7, 4, none⟩ = some (.int .i64 (zs 1)) ∧ W.cell? ⟨C, 0, none⟩ = some (.int .i64 cw) ∧ W.cell? ⟨C, 1, none⟩ = some (.int .i64 ck) ∧ W.cell? ⟨C, 2, none⟩ = some (.int .i64 cz) ∧ W.cell? ⟨C, 3, none⟩ = some (.int .i64 co) ∧ W.cell? ⟨C, 4, none⟩ = some (.int .i64 cn) ∧ W.cell? ⟨C, 5, none⟩ = some (.slice ca L.length clk) ∧ W.cell? ⟨C, 6, none⟩ = some (.string s) ∧ W.cell? ⟨C, 7, none⟩ = some (.slice P pn pc) ∧ W.cell? ⟨AB, 0, none⟩ = some (.slice RA R.length lk) ∧ W.cell? ⟨AB, 1, none⟩ = some (.slice PA pm pk) ∧ W.cell? ⟨AB, 2, none⟩ = some (.string t) ∧ W.cell? ⟨AB, 3, none⟩ = some (.int .i64 z) ∧ W.cell? ⟨AB, 4, none⟩ = some (.int .i64 E)) V := fun V hV => by
                      obtain ⟨q0, q1, q2, q3, q4, q5, q6, q7⟩ := HCE.out V (r13.bl.trans (hV.mono r13.bl.size))
                      have b := x13.b7.belowAll hV
                      have bc := C13.belowAll hV
                      have ba := A13.belowAll hV
                      exact ⟨q0, q1, q2, q3, q4, q5, q6, q7, (b.cells 0).trans rfl, (b.cells 1).trans rfl, (b.cells 2).trans rfl, (b.cells 3).trans rfl, (b.cells 4).trans rfl, (bc.cells 0).trans rfl, (bc.cells 1).trans rfl, (bc.cells 2).trans rfl, (bc.cells 3).trans rfl, (bc.cells 4).trans rfl, (bc.cells 5).trans rfl, (bc.cells 6).trans rfl, (bc.cells 7).trans rfl, (ba.cells 0).trans rfl, (ba.cells 1).trans rfl, (ba.cells 2).trans rfl, (ba.cells 3).trans rfl, (ba.cells 4).trans rfl⟩
                    have HKC := Lib.hid hkc
                    have HSC3 := Lib.hid hsc3
                    have HBM := Lib.hid hbm
                    clear hkc hsc3 hbm
                    go_upto_region 28 with fail
                    refine wp_region_mix [.take 0, .take 1, .take 2, .take 3, .take 4, .take 5, .take 6, .one 7, .one 8] 8 (fun W => W.cell? ⟨ab, ao + k * 8, none⟩ = some (.int .u8 wh) ∧ W.cell? ⟨ab, ao + k * 8 + 1, none⟩ = some (.int .u8 f) ∧ W.cell? ⟨ab, ao + k * 8 + 2, none⟩ = some (.int .i64 kd) ∧ W.cell? ⟨ab, ao + k * 8 + 3, none⟩ = some (.int .i64 off) ∧ W.cell? ⟨ab, ao + k * 8 + 4, none⟩ = some (.int .i64 n) ∧ W.cell? ⟨ab, ao + k * 8 + 5, none⟩ = some (.int .i64 size) ∧ W.cell? ⟨ab, ao + k * 8 + 6, none⟩ = some (.slice LA lm lc) ∧ W.cell? ⟨ab, ao + k * 8 + 7, none⟩ = some (.string s) ∧ W.cell? ⟨N7, 0, none⟩ = some (slOf As cs ls 0) ∧ W.cell? ⟨N7, 1, none⟩ = some (slOf As cs ls 1) ∧ W.cell? ⟨N7, 2, none⟩ = some (slOf As cs ls 2) ∧ W.cell? ⟨N7, 3, none⟩ = some (.int .i64 (zs 0)) ∧ W.cell? ⟨N7, 4, none⟩ = some (.int .i64 (zs 1)) ∧ W.cell? ⟨C, 0, none⟩ = some (.int .i64 cw) ∧ W.cell? ⟨C, 1, none⟩ = some (.int .i64 ck) ∧ W.cell? ⟨C, 2, none⟩ = some (.int .i64 cz) ∧ W.cell? ⟨C, 3, none⟩ = some (.int .i64 co) ∧ W.cell? ⟨C, 4, none⟩ = some (.int .i64 cn) ∧ W.cell? ⟨C, 5, none⟩ = some (.slice ca L.length clk) ∧ W.cell? ⟨C, 6, none⟩ = some (.string s) ∧ W.cell? ⟨C, 7, none⟩ = some (.slice P pn pc) ∧ W.cell? ⟨AB, 0, none⟩ = some (.slice RA R.length lk) ∧ W.cell? ⟨AB, 1, none⟩ = some (.slice PA pm pk) ∧ W.cell? ⟨AB, 2, none⟩ = some (.string t) ∧ W.cell? ⟨AB, 3, none⟩ = some (.int .i64 z) ∧ W.cell? ⟨AB, 4, none⟩ = some (.int .i64 E)) (by kernel_rfl) (by kernel_rfl) (fun _ _ _ _ _ h => h) (HSC3.out _ HBM.out.drew) ?_
                    simp only [List.map_cons, List.map_nil, Ms.fill, List.getD_cons_zero, List.getD_cons_succ]
                    iterate 7 (refine mixT_take (by rfl) ?_ (fun w' hw' => ?_) ?_; rotate_left; (focus (go_simp; (try with_reducible rfl))); (try simp only [Act.put, List.setIfInBounds_toArray, List.set_cons_zero, List.set_cons_succ]))
                    refine mixT_step (by rfl) fun K hK => ?_
                    go_simp
                    refine (HKC.out wr.drew HBM.out.drew).mono ?_
                    rintro e wk ⟨hbk2, ls', zs', As', cs', rfl, n1, n2, n3, n4⟩
                    have bk := HBM.out.drew.trans (hbk2.mono (HBM.out.drew.size))
                    refine hK _ _ (fun _ => HSC3.out _ bk) ?_
                    clear hK K
                    refine mixT_step (by rfl) fun K hK => ?_
                    have xk := x13.below bk
                    have rk := r13.below bk
                    have hst := storeRow (ty := 38) (vs := bookC (slOf As' cs' ls' 0) (slOf As' cs' ls' 1) (slOf As' cs' ls' 2) (zs' 0) (zs' 1)) xk.b7 rfl (by simp [slOf, Value.oneCell']) (by kernel_rfl)
                    refine op_storeBy _ _ _ rfl _ _ rfl rfl hst ?_
                    refine hK _ _ (fun h => absurd h (by decide)) ?_
                    clear hK K
                    refine mixT_nil ?_
                    have n7 : ∀ j a, j < 3 → As' j = some a → a.block ≠ N7 := fun j a hj e => by
                      rcases n4 j hj with h | h
                      · exact xk.k7 j a hj (h.symm.trans e)
                      · have := hge a (h.symm.trans e)
                        have := hr8.bk.b7.lt
                        omega
                    have rB := rk.row (g := N7) xk.f7 xk.d7 hp0 hN7g (bookC (slOf As' cs' ls' 0) (slOf As' cs' ls' 1) (slOf As' cs' ls' 2) (zs' 0) (zs' 1))
                    have xB := xk.book (fun k hk => (n2 k hk).below hbk2) n7 n3 n1
                    have pB : ApRel w _ T D N7 NL B x F' y' ls' zs' As' cs' := ⟨rB, xB, ⟨LC, hLC0, (setRow_other wk N7 NL _ hL7).trans (L13.belowAll bk)⟩, hLf9, hcl, hE, HS64.out⟩
                    clear hst n7 rB xB rk xk
                    go_wp2_with fail
                    go_roundw
                    case rel => exact ⟨k + 1, F', y', ls', zs', As', cs', by omega, by go_num, pB⟩
                    case measure => simp [RowKit.intOf]; omega
    · obtain rfl : k = xs.length := by omega
      have BW := hr.run.bl
      have haw : Calls Tryz.prog 8 #[] wr (fun e w' => e = .returned (.bool true) ∧ Below wr.heap.size wr w') := awake_any wr (HH.out.below BW hp0)
      clear hr
      go_wp2_with fail
      refine haw.mono ?_
      rintro e w5 ⟨rfl, hb5⟩
      go_wp2_with fail
      go_ret
      exact ⟨rfl, BW.trans (hb5.mono BW.size)⟩
end Go.Proofs.YtljmdcegcckblaaGreatDoor
/- P12.7: DataApart: the row proved, and its tied card. -/
namespace Go.Proofs.YtljmdcegcckblaaGreatDoor
open Go.ChangeShapes Go.WideShapes Go.ChangeAt Go.RowKit Go.Joins Go.Deep

set_option maxRecDepth 100000 in
theorem apart_lifted (os : Os) (started : os.Started) (H : Type) (enc : TypeId × Value → H) :
    ReturnsInHanded {} Tryz.checked os 4 .any (fun w args => (Rows.dataApartSpec.pre enc Tryz.prog Tryz.f4 [] false w args ∧ laidMetH Tryz.prog half1 w) ∧ sizedMet enc Tryz.prog Tryz.f4 (OpenSpec.ofChange Rows.dataApartSpec) false w args)
      (Rows.dataApartSpec.post enc Tryz.prog Tryz.f4 false true false false) := by
  refine returnsInHanded_of_change_and (C := Tryz.checked) (X := fun w _ => laidMetH Tryz.prog half1 w) (fun _ _ _ hh h => h.of_heap hh) Tryz.own started (by kernel_rfl) Tryz.func4
    (ChangeSpec.witness_shaped (enc := enc) (C := Tryz.checked) (os := os) (X := fun w _ => laidMetH Tryz.prog half1 w) false (World.doorLaid Tryz.prog 400 os) #[.agg #[.int .u8 0, .int .u8 0], .slice none 0 0] 8 rfl (World.shaped_of_RefB (by kernel_rfl) (by kernel_rfl)) (by kernel_rfl) (by kernel_rfl) (by kernel_rfl) (door_met os _)) ?_
  intro W base args ds gs before hval0 hW _ _ hL _
  have hval : ∀ (j : Nat) t v, Tryz.f4.params[j]? = some t → args[j]? = some v → Value.okWide Tryz.prog W .any base t v := hval0
  have hW' := hW
  obtain ⟨p, q, hA0, hV, rfl, hfz, hnd⟩ := hW
  have hA : DataW.TrodAll enc Tryz.prog W 0 (fun _ => true) true Tryz.f4.params.toList args.toList ds p := hA0
  rw [Tryz.params4] at hA hval
  obtain ⟨v0, v1, d0, d1, p0, p1, rfl, rfl, rfl, h0, h1⟩ := trodAll_two hA
  obtain ⟨rfl, rfl⟩ := trodVars_none hV
  have hH := half_of_laid hL
  have h0k := h0
  have h1k := h1
  clear hA0 hval0
  simp only [List.append_nil] at hW'
  have hlt0 : ∀ x ∈ p0, x.block < W.heap.size := fun x hx => by simpa using hW'.lt x (by simp [hx])
  have hlt1 : ∀ x ∈ p1, x.block < W.heap.size := fun x hx => by simpa using hW'.lt x (by simp [hx])
  obtain ⟨jn, ino, rfl, hj, hi⟩ := open_start (hval 0 23 v0 rfl rfl) h0
  obtain ⟨A, c, xs, rfl, hR, hok, hl⟩ := open_actv (hval 1 24 v1 rfl rfl) h1
  refine (dataApart_any jn ino hj hi A c xs hl W hok hH hR).mono fun e W' ⟨he, hnx⟩ => ?_
  subst he
  refine ⟨_, rfl, _, _, _, [], p0 ++ p1, [], hW', ?_, ?_, rfl, hnx.frame _, fun h => by cases h⟩
  · exact trodAll_mk1 (shut_bool Tryz.underlying4 true)
  · exact trodAll_mk2 (Below.trod Tryz.laidOut (by kernel_rfl) (of_decide_eq_true (by kernel_rfl)) h0k hnx hlt0) (Below.trod Tryz.laidOut (by kernel_rfl) (of_decide_eq_true (by kernel_rfl)) h1k hnx hlt1)

theorem dataApart_holds : Rows.DataApartSaid :=
  OpenClaim.holds_of_wide 4 Tryz.f4 rfl rfl rfl rfl rfl rfl rfl ⟨rfl, rfl, rfl, rfl, rfl⟩ rfl rfl rfl rfl rfl (by kernel_rfl) Tryz.func4 (by kernel_rfl)
    (of_decide_eq_true (by kernel_rfl)) (by unfold Func.isWrapper; first | (rw [if_pos (by decide +kernel)]; kernel_rfl) | (rw [if_neg (by decide +kernel)]; exact ⟨rfl, rfl⟩))
    (fun os started H enc _ => apart_lifted os started H enc)

theorem dataApartCard_holds : Rows.DataApartCardSaid :=
  Claim7.holds_tied_plain_at .later [] [.data] true (true, "13a9981fa89d584258343d5f94a49ba00e5d7457fcac4b4ffe77bfe81a809aa0") false
    dataApart_holds (fun _ h => by cases h) (by kernel_rfl) (fun _ h => by cases h) dataApart_row_tie rfl ⟨rfl, rfl⟩ (by kernel_rfl) rfl
    (fun f fn hf hfn => by
      obtain rfl : f = 4 := Option.some.inj ((show Tryz.prog.funcNamed "limewash/limewashlaw12.DataApart" = some 4 by kernel_rfl).symm.trans hf) |>.symm
      obtain rfl : fn = Tryz.f4 := (Option.some.inj (Tryz.func4.symm.trans hfn)).symm
      exact ⟨by kernel_rfl, fun j t ht => by
        rw [Tryz.params4] at ht
        have hm : t ∈ [23, 24] := by simpa using Array.mem_of_getElem? ht
        have hall : ([23, 24].all fun u => !Tryz.prog.wantsStandIn u) = true := by kernel_rfl
        exact (show Tryz.prog.wantsStandIn t = false by simpa using List.all_eq_true.1 hall t hm)⟩)
    (by kernel_rfl)

#print axioms dataApartCard_holds
end Go.Proofs.YtljmdcegcckblaaGreatDoor
