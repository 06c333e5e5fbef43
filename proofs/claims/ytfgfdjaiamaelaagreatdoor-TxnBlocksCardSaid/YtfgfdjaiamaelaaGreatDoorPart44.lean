/- Parts of the proof, put together by program: TG, TH. -/
import Derived.Test.YtfgfdjaiamaelaaGreatDoorPart43
import Derived.Test.YtfgfdjaiamaelaaGreatDoorPart42
import Derived.Test.YtfgfdjaiamaelaaGreatDoorPart07
/- The laws of layer 10: a device that was saved; TxnNothing, walked. -/
namespace Go.Proofs.YtfgfdjaiamaelaaGreatDoor
open Go.RowKit Go.Maps

/-- What Save returned lies in block S, and its rows in blocks that the transaction does not touch. -/
structure Saved (w : World) (F : List Nat) (S : Nat) (a1 a2 : Option Addr) (c1 c2 : Nat) (sta : List (List Int)) (tk pw : Int) (off : Bool) : Prop where
  box : Blk w S 61 #[.slice a1 sta.length c1, .slice a2 0 c2, .int .i64 tk, .int .i64 pw, .bool off]
  os : w.ownsRow 0 137 128 (.slice a1 sta.length c1) sta.length (sta.flatMap secV)
  oc : w.ownsRow 0 140 129 (.slice a2 0 c2) 0 []
  nb : S ∉ F
  ns : ∀ q, (Value.slice a1 sta.length c1).ownBlock = some q → q ∉ F
  nc : ∀ q, (Value.slice a2 0 c2).ownBlock = some q → q ∉ F
section
variable {w w' : World} {F F' : List Nat} {S : Nat} {a1 a2 : Option Addr} {c1 c2 : Nat} {sta : List (List Int)} {tk pw : Int} {off : Bool}
theorem Saved.grow (h : Saved w F S a1 a2 c1 c2 sta tk pw off) (g : Grow w F w' F') : Saved w' F' S a1 a2 c1 c2 sta tk pw off :=
  ⟨g.blk h.box h.nb, own_block h.os fun q hq => g.keep.block q (own_lt h.os q hq).2 (h.ns q hq), own_block h.oc fun q hq => g.keep.block q (own_lt h.oc q hq).2 (h.nc q hq),
   g.notin h.nb h.box.lt, fun q hq => g.notin (h.ns q hq) (own_lt h.os q hq).2, fun q hq => g.notin (h.nc q hq) (own_lt h.oc q hq).2⟩
theorem Saved.below (h : Saved w F S a1 a2 c1 c2 sta tk pw off) (hb : Below w.heap.size w w') : Saved w' F S a1 a2 c1 c2 sta tk pw off := h.grow (Grow.of_below hb F)
end

section
variable {w0 w : World} {T : Nat} {F : List Nat} {D : Nat} {y : TxS} {B : List Nat} {x : DevS}
theorem Play.devlt (h : Play w0 w T F D y B x) : ∀ b ∈ F ++ B, b < w.heap.size := fun b hb => (List.mem_append.1 hb).elim (fun hb => (h.td.tx.lt b hb).2) (fun hb => (h.td.dev.lt b hb).2)
/-- Save, where the cache is empty. -/
theorem play_save0 (h : Play w0 w T F D y B x) (hc : x.cache = []) :
    Calls Tryz.prog 23 #[.pointer (some ⟨D, 0, none⟩)] w fun e w' => ∃ a1 a2 c1 c2, e = .returned (.agg #[.slice a1 x.stable.length c1, .slice a2 0 c2, .int .i64 x.taken, .int .i64 x.power, .bool x.off]) ∧
      w'.ownsRow w.heap.size 137 128 (.slice a1 x.stable.length c1) x.stable.length (x.stable.flatMap secV) ∧ w'.ownsRow w.heap.size 140 129 (.slice a2 0 c2) 0 [] ∧ Below w.heap.size w w' := by
  refine (play_save h).mono ?_
  rintro e w' ⟨sv, cv, rfl, o1, o2, hb⟩
  rw [hc] at o2
  obtain ⟨a1, c1, rfl⟩ := own_slice o1
  obtain ⟨a2, c2, rfl⟩ := own_slice o2
  exact ⟨a1, a2, c1, c2, rfl, o1, o2, hb⟩
/-- The boxed one, behind Save. -/
theorem Saved.made {w1 w2 : World} {a1 a2 : Option Addr} {c1 c2 : Nat} (h : Play w0 w T F D y B x) (o1 : w1.ownsRow w.heap.size 137 128 (.slice a1 x.stable.length c1) x.stable.length (x.stable.flatMap secV)) (o2 : w1.ownsRow w.heap.size 140 129 (.slice a2 0 c2) 0 []) (hb : Below w.heap.size w w1)
    (hw : w2 = w1.alloc (.cells #[.slice a1 x.stable.length c1, .slice a2 0 c2, .int .i64 x.taken, .int .i64 x.power, .bool x.off] 61)) : Saved w2 (F ++ B) w1.heap.size a1 a2 c1 c2 x.stable x.taken x.power x.off := by
  have hlt := h.devlt
  have hz := hb.size
  have b2 : Below w1.heap.size w1 w2 := by rw [hw]; exact (Below.refl _ _).alloc (Nat.le_refl _) _
  exact ⟨by rw [hw]; exact Blk.new _ _ _, own_lower (own_below o1 b2) (Nat.zero_le _), own_lower (own_below o2 b2) (Nat.zero_le _), fun hm => by have := hlt _ hm; omega, fun q hq hm => by have := hlt _ hm; have := (own_lt o1 q hq).1; omega, fun q hq hm => by have := hlt _ hm; have := (own_lt o2 q hq).1; omega⟩
/-- Same of what was saved, and of the same again. -/
theorem same_saved {S b : Nat} {a1 a2 e1 e2 : Option Addr} {c1 c2 d1 d2 : Nat} {G : List Nat} (ok : x.Ok) (s : Saved w G S a1 a2 c1 c2 x.stable x.taken x.power x.off)
    (o1 : w.ownsRow b 137 128 (.slice e1 x.stable.length d1) x.stable.length (x.stable.flatMap secV)) (o2 : w.ownsRow b 140 129 (.slice e2 0 d2) 0 []) :
    Calls Tryz.prog 25 #[.agg #[.slice e1 x.stable.length d1, .slice e2 0 d2, .int .i64 x.taken, .int .i64 x.power, .bool x.off], .agg #[.slice a1 x.stable.length c1, .slice a2 0 c2, .int .i64 x.taken, .int .i64 x.power, .bool x.off]] w fun e w' => e = .returned (.bool true) ∧ Below w.heap.size w w' :=
  same_eq x.stable (fun s hs => (ok.sec s hs).1) (by have := ok.lo; have := ok.hi; omega) _ _ _ _ x.taken x.power x.off b 0 w o1 s.os o2 s.oc
theorem same_saved' {S b : Nat} {a1 a2 e1 e2 : Option Addr} {c1 c2 d1 d2 : Nat} {G : List Nat} (ok : x.Ok) (s : Saved w G S a1 a2 c1 c2 x.stable x.taken x.power x.off)
    (o1 : w.ownsRow b 137 128 (.slice e1 x.stable.length d1) x.stable.length (x.stable.flatMap secV)) (o2 : w.ownsRow b 140 129 (.slice e2 0 d2) 0 []) :
    Calls Tryz.prog 25 #[.agg #[.slice a1 x.stable.length c1, .slice a2 0 c2, .int .i64 x.taken, .int .i64 x.power, .bool x.off], .agg #[.slice e1 x.stable.length d1, .slice e2 0 d2, .int .i64 x.taken, .int .i64 x.power, .bool x.off]] w fun e w' => e = .returned (.bool true) ∧ Below w.heap.size w w' :=
  same_eq x.stable (fun s hs => (ok.sec s hs).1) (by have := ok.lo; have := ok.hi; omega) _ _ _ _ x.taken x.power x.off 0 b w s.os o1 s.oc o2
end
theorem ckE64 (us : List Bool) (hu : us.length = 14) : CkE 64 8 40 us.length = 0 := by
  have h := ckE_rgB rg64
  rw [rgB64] at h
  rw [hu]; exact h
theorem free_nil (us : List Bool) (hu : us.length = 14) : (begTx 64 8 40 us).free [] = (0, begTx 64 8 40 us) := by
  have h1 : TnE 64 8 40 us [] false 4 = 0 := by
    unfold TnE
    rw [if_pos (ckE64 us hu)]
    rfl
  have e := free_b (y := begTx 64 8 40 us) (l := []) rfl h1
  rw [e]
  rfl
theorem commit_none (us : List Bool) (x : DevS) : (begTx 64 8 40 us).commit x = (0, x) := rfl

/-- A device's cells, of a block. -/
def SavedC (W : World) (S n : Nat) (a1 a2 : Option Addr) (c1 c2 : Nat) (tk pw : Int) (off : Bool) : Prop :=
  W.cell? ⟨S, 0, none⟩ = some (.slice a1 n c1) ∧ W.cell? ⟨S, 1, none⟩ = some (.slice a2 0 c2) ∧ W.cell? ⟨S, 2, none⟩ = some (.int .i64 tk) ∧ W.cell? ⟨S, 3, none⟩ = some (.int .i64 pw) ∧ W.cell? ⟨S, 4, none⟩ = some (.bool off)
theorem Saved.cells {w : World} {F : List Nat} {S : Nat} {a1 a2 : Option Addr} {c1 c2 : Nat} {sta : List (List Int)} {tk pw : Int} {off : Bool} (h : Saved w F S a1 a2 c1 c2 sta tk pw off) : SavedC w S sta.length a1 a2 c1 c2 tk pw off :=
  ⟨(h.box.cells 0).trans rfl, (h.box.cells 1).trans rfl, (h.box.cells 2).trans rfl, (h.box.cells 3).trans rfl, (h.box.cells 4).trans rfl⟩

set_option maxRecDepth 100000 in
set_option maxHeartbeats 8000000 in
theorem txnNothing_any (A : Option Addr) (c : Nat) (xs : List StepV) (hl : xs.length ≤ maxLen) (w : World) (hok : ∀ a ∈ xs, StepOk w a) (hH : HalfAt w) (hR : Reads w A (xs.flatMap stepL)) :
    Calls Tryz.prog 5 #[.slice A xs.length c] w fun e w' => e = .returned (.bool true) ∧ Below w.heap.size w w' := by
  have hbg := begun10_any w hH
  have hp0 := hH.1
  have HH := Lib.hid hH
  have HOK := Lib.hid hok
  have HR := Lib.hid hR
  have hs : ∀ a ∈ xs, a.s.size ≤ maxLen ∧ a.l.length ≤ maxLen := fun a ha => ⟨(hok a ha).str, Nat.le_trans (hok a ha).cap.1 (hok a ha).cap.2⟩
  have HS := Lib.hid hs
  have HL := Lib.hid hl
  unfold maxLen at hl
  clear hH hok hR hs
  go_enter Tryz.func5, Tryz.ntmps5
  go_wp2_with fail
  refine hbg.mono ?_
  rintro e w1 ⟨D, T, F1, B, x, rfl, hF, hcache, h1⟩
  have hL := hF.live
  have f1 := long_any A c xs HL.out HS.out w1 (h1.reads HR.out)
  clear hbg hF
  go_wp2_with fail
  refine f1.mono ?_
  rintro e w2 ⟨rfl, hb2⟩
  have h2 := h1.below hb2
  clear f1 h1 hb2
  by_cases hlong : longB xs = true
  · rw [hlong]
    have B2 := h2.bl
    have haw := awake10_any w2 (HH.out.below B2 hp0)
    clear h2
    go_wp2_with fail
    refine haw.mono ?_
    rintro e w3 ⟨rfl, hb3⟩
    go_wp2_with fail
    go_ret
    exact ⟨rfl, B2.trans (hb3.mono B2.size)⟩
  have hlong' : longB xs = false := by simpa using hlong
  rw [hlong']
  have HB : Hid (∀ a ∈ xs, bigB a = false) := Lib.hid (fun a ha => by
    unfold longB at hlong'
    simp only [Bool.or_eq_false_iff] at hlong'
    have := List.any_eq_false.1 hlong'.1 a ha
    simpa using this)
  clear hlong hlong'
  have f2 := play_save0 h2 hcache
  go_wp2_with fail
  refine f2.mono ?_
  rintro e w3 ⟨a1, a2, c1, c2, rfl, o1, o2, hb3⟩
  obtain ⟨w4, hw4⟩ : ∃ w4, w4 = w3.alloc (.cells #[.slice a1 x.stable.length c1, .slice a2 0 c2, .int .i64 x.taken, .int .i64 x.power, .bool x.off] 61) := ⟨_, rfl⟩
  have s4 := Saved.made h2 o1 o2 hb3 hw4
  have h4 : Play w w4 T F1 D yA B x := (h2.below hb3).below (by rw [hw4]; exact (Below.refl _ _).alloc (Nat.le_refl _) _)
  obtain ⟨S, hS⟩ : ∃ S, S = w3.heap.size := ⟨_, rfl⟩
  rw [← hS] at s4
  have HSW := Lib.hid hS
  have HW := Lib.hid hw4
  clear f2 o1 o2 hb3 h2 hw4 hS
  go_wp2_with fail
  rw [← HW.out, ← HSW.out]
  clear HW HSW
  go_loopw [6] (fun q wr => ∃ (k : Nat) (F : List Nat) (y : TxS), k ≤ xs.length ∧ q = .int .i64 k ∧ Play w wr T F D y B x ∧ y.Clean ∧ yA.Like y ∧ Saved wr (F ++ B) S a1 a2 c1 c2 x.stable x.taken x.power x.off) (fun q _ => xs.length - (intOf q).toNat)
  case atStart => exact ⟨0, F1, yA, Nat.zero_le _, rfl, h4, yA_clean, .refl _, s4⟩
  case round =>
    obtain ⟨k, F, y, hk, rfl, hp, hcl, hlk, hsv⟩ := hrel
    clear h4 s4
    by_cases hlt : k < xs.length
    · obtain ⟨b, off, rfl, hbl, e0, e1, e2, e3, e4, e5⟩ := steps_at (hp.reads HR.out) hlt
      have hm := List.getElem_mem hlt
      have hoka := HOK.out _ hm
      have hbig := HB.out _ hm
      have hcall := calls_any hp hcl xs[k] hoka hbig
      have hcl' := step_clean hcl xs[k]
      have hlk' := hlk.trans (step_like y xs[k])
      have hwh := hoka.wh
      generalize y.step xs[k] = y' at *
      generalize xs[k] = a at *
      obtain ⟨wh, at_, kd, n, s, A, l, ca⟩ := a
      unfold stepC at hcall
      simp only at e0 e1 e2 e3 e4 e5 hwh hcall
      have g1 : wh.tmod 9 = wh % 9 := Int.tmod_eq_emod_of_nonneg hwh.1
      have g3 : IntKind.u8.wrap (wh % 9) = wh % 9 := by rw [IntKind.wrap_u8]; omega
      clear hm hoka hbig hwh
      by_cases h7 : wh % 9 < 7
      · generalize wh % 9 = r at *
        have hd : decide (r < 7) = true := decide_eq_true h7
        go_wp2_with fail
        refine hcall.mono ?_
        rintro e w5 ⟨rfl, F', hp', g'⟩
        have hsv' := hsv.grow g'
        clear hcall
        go_wp2_with fail
        go_roundw
        case rel => exact ⟨k + 1, F', y', by omega, by go_num, hp', hcl', hlk', hsv'⟩
        case measure => simp [intOf]; omega
      · generalize wh % 9 = r at *
        have hd : decide (r < 7) = false := decide_eq_false h7
        clear hcall
        go_wp2_with fail
        go_roundw
        case rel => exact ⟨k + 1, F, y, by omega, by go_num, hp, hcl, hlk, hsv⟩
        case measure => simp [intOf]; omega
    · obtain rfl : k = xs.length := by omega
      have hen : y.ended = false := hlk.ended
      have p9 := hp.drewN 1
      have s9 := hsv.below (below_drewN' (Below.refl _ _) 1)
      clear hp hsv
      go_wp2_with fail
      refine wp_region_mix [.take 0, .take 2, .one 1, .one 3, .take 4, .take 5, .take 6, .one 7, .take 8, .take 9, .take 10, .take 11, .take 13, .one 12, .one 14, .take 15, .take 16] 17 (fun W => W.cell? ⟨S, 0, none⟩ = some (.slice a1 x.stable.length c1) ∧ W.cell? ⟨S, 1, none⟩ = some (.slice a2 0 c2) ∧ W.cell? ⟨S, 2, none⟩ = some (.int .i64 x.taken) ∧ W.cell? ⟨S, 3, none⟩ = some (.int .i64 x.power) ∧ W.cell? ⟨S, 4, none⟩ = some (.bool x.off)) (by kernel_rfl) (by kernel_rfl) (fun _ _ _ _ _ h => h) s9.cells ?_
      simp only [List.map_cons, List.map_nil, Ms.fill, List.getD_cons_zero, List.getD_cons_succ]
      iterate 2 (refine mixT_take (by rfl) ?_ (fun w' hw' => ?_) ?_; rotate_left; (focus (go_simp; (try with_reducible rfl))); (try simp only [Act.put, List.setIfInBounds_toArray, List.set_cons_zero, List.set_cons_succ]))
      refine mixT_step (by rfl) fun K hK => ?_
      go_simp
      refine (play_save0 p9 hcache).mono ?_
      rintro e w10 ⟨e101, e102, d101, d102, rfl, o101, o102, hb10⟩
      have p10 := p9.below hb10
      have s10 := s9.below hb10
      refine hK _ _ (fun _ => s10.cells) ?_
      clear hK K hb10
      refine mixT_step (by rfl) fun K hK => ?_
      go_simp
      refine (same_saved p10.td.dev.ok s10 o101 o102).mono ?_
      rintro e w11 ⟨rfl, hb11⟩
      have p11 := p10.below hb11
      have s11 := s10.below hb11
      refine hK _ _ (fun _ => s11.cells) ?_
      clear hK K hb11 p10 s10 o101 o102
      iterate 3 (refine mixT_take (by rfl) ?_ (fun w' hw' => ?_) ?_; rotate_left; (focus (go_simp; (try with_reducible rfl))); (try simp only [Act.put, List.setIfInBounds_toArray, List.set_cons_zero, List.set_cons_succ]))
      refine mixT_step (by rfl) fun K hK => ?_
      go_simp
      refine (play_abort p11 hen).mono ?_
      rintro e w12 ⟨rfl, F12, p12, g12⟩
      have s12 := s11.grow g12
      refine hK _ _ (fun _ => s12.cells) ?_
      clear hK K g12 p11 s11
      iterate 5 (refine mixT_take (by rfl) ?_ (fun w' hw' => ?_) ?_; rotate_left; (focus (go_simp; (try with_reducible rfl))); (try simp only [Act.put, List.setIfInBounds_toArray, List.set_cons_zero, List.set_cons_succ]))
      refine mixT_step (by rfl) fun K hK => ?_
      go_simp
      refine (play_save0 p12 hcache).mono ?_
      rintro e w13 ⟨e131, e132, d131, d132, rfl, o131, o132, hb13⟩
      have p13 := p12.below hb13
      have s13 := s12.below hb13
      refine hK _ _ (fun _ => s13.cells) ?_
      clear hK K hb13
      refine mixT_step (by rfl) fun K hK => ?_
      go_simp
      refine (same_saved p13.td.dev.ok s13 o131 o132).mono ?_
      rintro e w14 ⟨rfl, hb14⟩
      have p14 := p13.below hb14
      have s14 := s13.below hb14
      refine hK _ _ (fun _ => s14.cells) ?_
      clear hK K hb14 p13 s13 o131 o132
      iterate 2 (refine mixT_take (by rfl) ?_ (fun w' hw' => ?_) ?_; rotate_left; (focus (go_simp; (try with_reducible rfl))); (try simp only [Act.put, List.setIfInBounds_toArray, List.set_cons_zero, List.set_cons_succ]))
      refine mixT_nil ?_
      go_wp2_with fail
      refine (plain_any w14).mono ?_
      rintro e w15 ⟨rfl, hb15⟩
      have p15 := p14.below hb15
      have s15 := s14.below hb15
      have f15 := play_begin p15 rg64 hL
      clear p14 s14 hb15
      go_wp2_with fail
      refine f15.mono ?_
      rintro e w16 ⟨U, F16, rfl, p16, g16⟩
      have s16 := (s15.grow g16).below (below_drewN' (Below.refl _ _) 1)
      have q16 := p16.drewN 1
      clear f15 p15 s15 g16 p16
      go_wp2_with fail
      refine wp_region_mix [.take 0, .take 1, .take 2, .take 3, .take 4, .take 5, .take 6, .take 7, .one 8, .take 9, .take 10, .take 11, .take 12, .one 13, .take 14, .take 15, .take 16, .take 17, .one 18, .take 19, .take 20, .take 21, .take 22, .take 24, .one 23, .one 25, .take 26, .take 27, .one 28, .take 29, .take 30] 31 (fun W => W.cell? ⟨S, 0, none⟩ = some (.slice a1 x.stable.length c1) ∧ W.cell? ⟨S, 1, none⟩ = some (.slice a2 0 c2) ∧ W.cell? ⟨S, 2, none⟩ = some (.int .i64 x.taken) ∧ W.cell? ⟨S, 3, none⟩ = some (.int .i64 x.power) ∧ W.cell? ⟨S, 4, none⟩ = some (.bool x.off)) (by kernel_rfl) (by kernel_rfl) (fun _ _ _ _ _ h => h) s16.cells ?_
      simp only [List.map_cons, List.map_nil, Ms.fill, List.getD_cons_zero, List.getD_cons_succ]
      iterate 8 (refine mixT_take (by rfl) ?_ (fun w' hw' => ?_) ?_; rotate_left; (focus (go_simp; (try with_reducible rfl))); (try simp only [Act.put, List.setIfInBounds_toArray, List.set_cons_zero, List.set_cons_succ]))
      refine mixT_step (by rfl) fun K hK => ?_
      go_simp
      have f17 := play_free q16 none 0 [] (by simp) Reads.nil
      rw [rgB64, free_nil _ (List.length_replicate ..)] at f17
      refine f17.mono ?_
      rintro e w17 ⟨rfl, F17, p17, g17⟩
      have s17 := s16.grow g17
      refine hK _ _ (fun _ => s17.cells) ?_
      clear hK K g17 f17 q16 s16
      iterate 4 (refine mixT_take (by rfl) ?_ (fun w' hw' => ?_) ?_; rotate_left; (focus (go_simp; (try with_reducible rfl))); (try simp only [Act.put, List.setIfInBounds_toArray, List.set_cons_zero, List.set_cons_succ]))
      refine mixT_step (by rfl) fun K hK => ?_
      go_simp
      have f18 := play_commit p17 (begTx_clean (by decide) _) rfl (commit_none _ x)
      refine f18.mono ?_
      rintro e w18 ⟨rfl, B18, p18, g18⟩
      have s18 := s17.grow g18
      refine hK _ _ (fun _ => s18.cells) ?_
      clear hK K g18 f18 p17 s17
      iterate 4 (refine mixT_take (by rfl) ?_ (fun w' hw' => ?_) ?_; rotate_left; (focus (go_simp; (try with_reducible rfl))); (try simp only [Act.put, List.setIfInBounds_toArray, List.set_cons_zero, List.set_cons_succ]))
      refine mixT_step (by rfl) fun K hK => ?_
      go_simp
      have f19 := txcommit_bad _ _ w18 p18.td.tx.st (by decide)
      refine f19.mono ?_
      rintro e w19 ⟨rfl, hb19⟩
      have p19 := p18.below hb19
      have s19 := s18.below hb19
      refine hK _ _ (fun _ => s19.cells) ?_
      clear hK K hb19 f19 p18 s18
      iterate 5 (refine mixT_take (by rfl) ?_ (fun w' hw' => ?_) ?_; rotate_left; (focus (go_simp; (try with_reducible rfl))); (try simp only [Act.put, List.setIfInBounds_toArray, List.set_cons_zero, List.set_cons_succ]))
      refine mixT_step (by rfl) fun K hK => ?_
      go_simp
      refine (play_save0 p19 hcache).mono ?_
      rintro e w20 ⟨e201, e202, d201, d202, rfl, o201, o202, hb20⟩
      have p20 := p19.below hb20
      have s20 := s19.below hb20
      refine hK _ _ (fun _ => s20.cells) ?_
      clear hK K hb20
      refine mixT_step (by rfl) fun K hK => ?_
      go_simp
      refine (same_saved p20.td.dev.ok s20 o201 o202).mono ?_
      rintro e w21 ⟨rfl, hb21⟩
      have p21 := p20.below hb21
      have s21 := s20.below hb21
      refine hK _ _ (fun _ => s21.cells) ?_
      clear hK K hb21 p20 s20 o201 o202
      iterate 2 (refine mixT_take (by rfl) ?_ (fun w' hw' => ?_) ?_; rotate_left; (focus (go_simp; (try with_reducible rfl))); (try simp only [Act.put, List.setIfInBounds_toArray, List.set_cons_zero, List.set_cons_succ]))
      refine mixT_step (by rfl) fun K hK => ?_
      go_simp
      have B21 := p21.bl
      refine (awake10_any w21 (HH.out.below B21 hp0)).mono ?_
      rintro e w22 ⟨rfl, hb22⟩
      have s22 := s21.below hb22
      refine hK _ _ (fun _ => s22.cells) ?_
      clear hK K
      iterate 2 (refine mixT_take (by rfl) ?_ (fun w' hw' => ?_) ?_; rotate_left; (focus (go_simp; (try with_reducible rfl))); (try simp only [Act.put, List.setIfInBounds_toArray, List.set_cons_zero, List.set_cons_succ]))
      refine mixT_nil ?_
      go_wp2_with fail
      go_ret
      exact ⟨rfl, B21.trans (hb22.mono B21.size)⟩
end Go.Proofs.YtfgfdjaiamaelaaGreatDoor
/- Arguments opened: calls of a transaction. -/
namespace Go.Proofs.YtfgfdjaiamaelaaGreatDoor
open Go.ChangeShapes Go.WideShapes Go.ChangeAt Go.RowKit Go.Deep

theorem Tryz.cellsInt : Tryz.prog.cellsOf 3 = 1 := by kernel_rfl
theorem Tryz.cellsU8 : Tryz.prog.cellsOf 5 = 1 := by kernel_rfl
theorem Tryz.cellsStr : Tryz.prog.cellsOf 9 = 1 := by kernel_rfl
theorem Tryz.cellsInts : Tryz.prog.cellsOf 29 = 1 := by kernel_rfl
theorem Tryz.cellsStep : Tryz.prog.cellsOf 64 = 6 := by kernel_rfl
theorem wf_u8_iff {f : Int} (h : (Lit.int .u8 f).wf = true) : 0 ≤ f ∧ f ≤ 255 := by
  simp [Lit.wf, IntKind.min, IntKind.max, IntKind.bits, IntKind.signed] at h; omega
theorem wf_i64_iff {f : Int} (h : (Lit.int .i64 f).wf = true) : -9223372036854775808 ≤ f ∧ f ≤ 9223372036854775807 := by
  simp [Lit.wf, IntKind.min, IntKind.max, IntKind.bits, IntKind.signed] at h; omega

section
variable {H : Type} {enc : TypeId × Value → H} {W : World}
set_option maxRecDepth 100000 in
theorem open_ints' {fuel : Nat} {v : Value} {x : DataW H × List MemPlace} (h : DataW.trod enc Tryz.prog W 0 (fun _ => true) true fuel 29 [v] = some x) :
    ∃ (A : Option Addr) (n c : Nat) (xs : List Int), v = .slice A n c ∧ xs.length = n ∧ Reads W A (xs.map (Value.int .i64)) ∧ n ≤ c ∧ c ≤ maxLen ∧ (A = none → n = 0 ∧ c = 0) :=
  open_cells (Value.int .i64) Tryz.underlying29 Tryz.cellsInt (fun n cs x hx => by obtain ⟨b, rfl, _⟩ := DataW.trod_int Tryz.underlying3 hx; exact ⟨b, rfl⟩) h

set_option maxRecDepth 100000 in
/-- A call as its cells. -/
theorem open_step_cells {fuel : Nat} {cs : List Value} (hsz : cs.length = 6) {x : DataW H × List MemPlace} (h : DataW.trod enc Tryz.prog W 0 (fun _ => true) true fuel 64 cs = some x) :
    ∃ a : StepV, cs = stepL a ∧ StepOk W a := by
  match cs, hsz with
  | [c0, c1, c2, c3, c4, c5], _ =>
    obtain ⟨xs, n, _, _, _, hlen, hg⟩ := DataW.trod_struct Tryz.underlying64 h
    have g0 : DataW.trod enc Tryz.prog W 0 (fun _ => true) true n 5 [c0] = xs[0]? := by have := hg 0 _ rfl; simpa [Tryz.cellsU8, Value.cells] using this
    have g1 : DataW.trod enc Tryz.prog W 0 (fun _ => true) true n 3 [c1] = xs[1]? := by have := hg 1 _ rfl; simpa [Tryz.cellsInt, Value.cells] using this
    have g2 : DataW.trod enc Tryz.prog W 0 (fun _ => true) true n 3 [c2] = xs[2]? := by have := hg 2 _ rfl; simpa [Tryz.cellsInt, Value.cells] using this
    have g3 : DataW.trod enc Tryz.prog W 0 (fun _ => true) true n 3 [c3] = xs[3]? := by have := hg 3 _ rfl; simpa [Tryz.cellsInt, Value.cells] using this
    have g4 : DataW.trod enc Tryz.prog W 0 (fun _ => true) true n 9 [c4] = xs[4]? := by have := hg 4 _ rfl; simpa [Tryz.cellsStr, Value.cells] using this
    have g5 : DataW.trod enc Tryz.prog W 0 (fun _ => true) true n 29 [c5] = xs[5]? := by have := hg 5 _ rfl; simpa [Tryz.cellsInts, Value.cells] using this
    clear hg
    match xs, hlen with
    | [y0, y1, y2, y3, y4, y5], _ =>
      simp only [List.getElem?_cons_zero, List.getElem?_cons_succ] at g0 g1 g2 g3 g4 g5
      obtain ⟨a0, e0, _, w0⟩ := DataW.trod_int Tryz.underlying5 g0
      obtain ⟨a1, e1, _, w1⟩ := DataW.trod_int Tryz.underlying3 g1
      obtain ⟨a2, e2, _, w2⟩ := DataW.trod_int Tryz.underlying3 g2
      obtain ⟨a3, e3, _, w3⟩ := DataW.trod_int Tryz.underlying3 g3
      obtain ⟨s, e4, _, w4⟩ := DataW.trod_string Tryz.underlying9 g4
      simp at e0 e1 e2 e3 e4
      subst e0 e1 e2 e3 e4
      obtain ⟨A, m, c, l, rfl, q1, q2, q3, q4, q5⟩ := open_ints' g5
      subst q1
      exact ⟨⟨a0, a1, a2, a3, s, A, l, c⟩, rfl, wf_u8_iff w0, wf_i64_iff w1, wf_i64_iff w2, wf_i64_iff w3, q2, ⟨q3, q4⟩, w4⟩

set_option maxRecDepth 100000 in
theorem open_steps {fuel : Nat} {v : Value} {x : DataW H × List MemPlace} (h : DataW.trod enc Tryz.prog W 0 (fun _ => true) true fuel 56 [v] = some x) :
    ∃ (A : Option Addr) (c : Nat) (xs : List StepV), v = .slice A xs.length c ∧ Reads W A (xs.flatMap stepL) ∧ (∀ a ∈ xs, StepOk W a) ∧ xs.length ≤ maxLen := by
  obtain ⟨A, n, c, xs, h1, h2, h3, h4, h5, h6, -⟩ := open_rows stepL (StepOk W) 6 (by omega) Tryz.underlying56 Tryz.cellsStep (fun n cs x hsz hx => open_step_cells hsz hx) h
  subst h2
  exact ⟨A, c, xs, h1, h3, fun a ha => (h4 a ha).2, by omega⟩
set_option maxRecDepth 100000 in
/-- The same, of an argument. -/
theorem open_stepv {r : Reach} {b0 : Nat} {v : Value} {d : DataW H} {p : List MemPlace} (hv : Value.okWide Tryz.prog W r b0 56 v) (h : DataW.Trod enc Tryz.prog W 0 (fun _ => true) true 56 v d p) :
    ∃ (A : Option Addr) (c : Nat) (xs : List StepV), v = .slice A xs.length c ∧ Reads W A (xs.flatMap stepL) ∧ (∀ a ∈ xs, StepOk W a) ∧ xs.length ≤ maxLen := by
  obtain ⟨a0, l0, c0, rfl⟩ := okWide_slice Tryz.underlying56 hv
  obtain ⟨fuel, hf⟩ := h
  exact open_steps (v := .slice a0 l0 c0) (by simpa [Value.cells] using hf)
end
end Go.Proofs.YtfgfdjaiamaelaaGreatDoor
