/- Parts of the proof, put together by program: CH, CI. -/
import Derived.Test.YtloddiipepiocaaGreatDoorPart29
import Derived.Test.YtloddiipepiocaaGreatDoorPart30
import Derived.Test.YtloddiipepiocaaGreatDoorPart22
import Derived.Test.YtloddiipepiocaaGreatDoorPart21
set_option linter.unusedVariables false
set_option linter.unusedSimpArgs false
/- Layer 10, the reference: Begin walked. -/
namespace Go.Proofs.YtloddiipepiocaaGreatDoor
open Go.RowKit Go.Maps

/-- A struct known whole and an error as results. -/
theorem results_rowE {fn : Func} {m n R : Nat} {ty t : TypeId} {tmps : Array Value} {w : World} {cs : Array Value} {fr : Nat × Nat} {e : Int} {fs : _} (hr : fn.results = #[.cell m ty, .tmp n]) (hm : tmps.getD m undef = .pointer (some ⟨R, 0, none⟩)) (hn : tmps.getD n undef = .int .i64 e)
    (hg : w.heap[R]? = some (.cells cs t fr)) (hu : Tryz.prog.underlying ty = some (.struct fs)) (hi : (Tryz.prog.info? ty).map (·.size) = some cs.size) :
    (results fn tmps).run Tryz.prog w = .ok (.tuple #[.agg cs, .int .i64 e]) w := by
  have h := run_loadVar_row (P := Tryz.prog) w R t ty cs fr _ hg hu rfl hi
  have h1 : (asAddr (.pointer (some ⟨R, 0, none⟩))).run Tryz.prog w = .ok ⟨R, 0, none⟩ w := rfl
  have hm' : tmps[m]?.getD undef = .pointer (some ⟨R, 0, none⟩) := by simpa using hm
  have hn' : tmps[n]?.getD undef = .int .i64 e := by simpa using hn
  simp [results, hr, hm', hn', h1, h]
theorem wpList_buildTo {P : Program} {ops : Array Oper} {rest : List Oper} {o : Oper} {a : Act} {w : World} {Q : Exit → Act → World → Prop} (hg : o.guard = none) (t : TypeId) (parts : Array (Nat × Operand)) (ho : o.op = .build t parts) (cells : Array Value)
    (hf : P.built t (parts.toList.map fun p => (p.1, a.eval p.2)) = some cells) (h : wpList P ops Q rest (a.put o.dst (.agg cells)) w) : wpList P ops Q (o :: rest) a w := by
  have hf' : P.built t (parts.map fun (i, x) => (i, a.eval x)).toList = some cells := by rw [Array.toList_map]; exact hf
  refine wpList_build hg t parts ho (by rw [hf']; rfl) ?_
  rw [hf']
  exact h

/-- A transaction of the reference, in memory. -/
def txR (D0 : Option Addr) (n c : Nat) (C0 : Option Addr) (nc cc : Nat) (tk pw : Int) (off : Bool) (s j i r1 r2 r3 r4 r5 : Int) (A : Option Addr) (na ca : Nat) (B : Option Addr) (nb cb : Nat) (W0 : Option Addr) (nw cw : Nat) (ch br en : Bool) : Array Value :=
  #[.slice D0 n c, .slice C0 nc cc, .int .i64 tk, .int .i64 pw, .bool off, .int .i64 s, .int .i64 j, .int .i64 i, .int .i64 r1, .int .i64 r2, .int .i64 r3, .int .i64 r4, .int .i64 r5, .int .i64 s, .int .i64 j, .int .i64 i, .slice A na ca, .int .i64 s, .int .i64 j, .int .i64 i, .slice B nb cb, .slice W0 nw cw, .bool ch, .bool br, .bool en]
/-- The transaction that is none, in memory. -/
def txZ : Array Value := txR none 0 0 none 0 0 0 0 false 0 0 0 0 0 0 0 0 none 0 0 none 0 0 none 0 0 false false false
theorem Tryz.builtTxR (D0 : Option Addr) (n c : Nat) (C0 : Option Addr) (nc cc : Nat) (tk pw : Int) (off : Bool) (s j i r1 r2 r3 r4 r5 : Int) (A : Option Addr) (na ca : Nat) :
    Tryz.prog.built 56 [(0, .agg #[.slice D0 n c, .slice C0 nc cc, .int .i64 tk, .int .i64 pw, .bool off]), (1, .agg #[.int .i64 s, .int .i64 j, .int .i64 i]), (2, .agg #[.int .i64 r1, .int .i64 r2, .int .i64 r3, .int .i64 r4, .int .i64 r5]), (3, .agg #[.int .i64 s, .int .i64 j, .int .i64 i, .slice A na ca]), (4, .agg #[.int .i64 s, .int .i64 j, .int .i64 i, .slice A na ca])] = some (txR D0 n c C0 nc cc tk pw off s j i r1 r2 r3 r4 r5 A na ca A na ca none 0 0 false false false) := by kernel_rfl
theorem Tryz.builtTxZ : Tryz.prog.built 56 [] = some txZ := by kernel_rfl

/-- What Begin of the reference hands back. -/
def RBegPost (w : World) (D0 : Option Addr) (c : Nat) (C0 : Option Addr) (nc cc : Nat) (s j i : Int) (x : DevS) (e : Ending) (w' : World) : Prop :=
  Below w.heap.size w w' ∧ ∃ E, x.beginE s j i E ∧ ((E ≠ 0 ∧ e = .returned (.tuple #[.agg txZ, .int .i64 E])) ∨
    (E = 0 ∧ ∃ g, w.heap.size ≤ g ∧ e = .returned (.tuple #[.agg (txR D0 x.stable.length c C0 nc cc x.taken x.power x.off s j i 1 (1 + j) (2 + j) (2 + j + i) (s - (2 + j + i)) (some ⟨g, 0, none⟩) (rgB s j i).toNat (rgB s j i).toNat (some ⟨g, 0, none⟩) (rgB s j i).toNat (rgB s j i).toNat none 0 0 false false false), .int .i64 0]) ∧
      Reads w' (some ⟨g, 0, none⟩) ((decS (strL (x.fr (1 + j)).data) (rgB s j i).toNat 768).map .bool)))

set_option maxRecDepth 100000 in
set_option maxHeartbeats 800000 in
theorem rbegin_any (S c : Nat) (C0 : Option Addr) (nc cc : Nat) (s j i : Int) (x : DevS) (hlo : 64 ≤ x.stable.length) (hsz : (x.fr (1 + j)).data.size ≤ 1000) (w : World)
    (hget : findE x.stable.length s j i = 0 → ∀ W, Below w.heap.size w W → Calls Tryz.prog 46 #[.agg (stateC (.slice (some ⟨S, 0, none⟩) x.stable.length c) (.slice C0 nc cc) x.taken x.power x.off), .int .i64 (1 + j)] W fun e w' => Below W.heap.size W w' ∧ e = .returned (.tuple #[.agg #[.int .i64 (x.fr (1 + j)).kind, .int .u32 (x.fr (1 + j)).seq, .string (x.fr (1 + j)).data], .int .i64 (x.ge (1 + j))])) :
    Calls Tryz.prog 11 #[.agg (stateC (.slice (some ⟨S, 0, none⟩) x.stable.length c) (.slice C0 nc cc) x.taken x.power x.off), .agg #[.int .i64 s, .int .i64 j, .int .i64 i]] w (RBegPost w (some ⟨S, 0, none⟩) c C0 nc cc s j i x) := by
  have hf := fun W => rfits_any (.slice C0 nc cc) S x.stable.length c x.taken x.power s j i x.off W
  have hfe : findE x.stable.length s j i = fitE x.stable.length s j i := by
    unfold findE fitE
    by_cases h1 : rgE s j i = 0
    · rw [if_neg (by simpa using h1), if_neg (by omega)]
      by_cases h2 : (x.stable.length : Int) = s
      · rw [if_neg (by simpa using h2), if_neg (by simp [h2]), h1]
      · rw [if_pos h2, if_pos ⟨h1, h2⟩]
    · rw [if_pos h1, if_neg (by simp [h1])]
  obtain ⟨w0, hw0⟩ : ∃ w0, w0 = ((w.alloc (.cells (stateC (.slice (some ⟨S, 0, none⟩) x.stable.length c) (.slice C0 nc cc) x.taken x.power x.off) 33)).alloc (.cells #[.int .i64 s, .int .i64 j, .int .i64 i] 23)).alloc (.cells txZ 56) := ⟨_, rfl⟩
  have bD : Blk w0 w.heap.size 33 (stateC (.slice (some ⟨S, 0, none⟩) x.stable.length c) (.slice C0 nc cc) x.taken x.power x.off) := by rw [hw0]; exact ((Blk.new _ _ _).alloc _).alloc _
  have bL : Blk w0 (w.heap.size + 1) 23 #[.int .i64 s, .int .i64 j, .int .i64 i] := by rw [hw0]; exact (Blk.new' (by simp)).alloc _
  have bT : Blk w0 (w.heap.size + 1 + 1) 56 txZ := by rw [hw0]; exact Blk.new' (by simp)
  have B0 : Below w.heap.size w w0 := by rw [hw0]; (repeat' (first | (with_reducible exact Below.refl _ _) | (with_reducible assumption) | (with_reducible refine Below.alloc ?_ ?_ _) | (with_reducible refine Below.drew ?_) | (with_reducible refine below_drewN' ?_ _) | (with_reducible refine Below.setCell ?_ ?_ _) | (with_reducible exact Nat.le_refl _) | omega | (simp; done) | (simp; omega)))
  unfold stateC at *
  unfold txZ txR at hw0
  by_cases hE : fitE x.stable.length s j i = 0
  rotate_left
  · have HB : Hid (x.beginE s j i (fitE x.stable.length s j i)) := Lib.hid (.inl ⟨by rw [hfe]; exact hE, hfe.symm⟩)
    have HN := Lib.hid hE
    unfold RBegPost
    clear hget hfe hsz
    go_enter Tryz.func11, Tryz.ntmps11
    go_upto_region 1 with fail
    rw [← hw0]
    clear hw0
    have cD := bD.cells
    have cL := bL.cells
    have lD := bD.lt
    have lL := bL.lt
    go_wp2_with fail
    refine (hf w0).mono ?_
    rintro e w1 ⟨hb1, rfl⟩
    have bT1 := bT.belowAll hb1
    have B1 := B0.trans (hb1.mono B0.size)
    obtain ⟨a1, a2, a3, a4, a5, hv⟩ : ∃ a1 a2 a3 a4 a5 : Int, rgV s j i = .agg #[.int .i64 a1, .int .i64 a2, .int .i64 a3, .int .i64 a4, .int .i64 a5] := ⟨_, _, _, _, _, rfl⟩
    rw [hv]
    clear hv hf
    generalize fitE x.stable.length s j i = E at *
    have hd : (E != 0) = true := by simpa using hE
    clear hE
    have bT2 := bT1.alloc (.cells #[.int .i64 a1, .int .i64 a2, .int .i64 a3, .int .i64 a4, .int .i64 a5] 38)
    have hst := storeRow' (ty := 56) (vs := txZ) bT2 rfl (by simp [txZ, txR, Value.oneCell']) (by kernel_rfl)
    have bT3 := bT2.setRow (cs' := txZ)
    obtain ⟨W3, hW3⟩ : ∃ W3, W3 = World.setRow (w1.alloc (.cells #[.int .i64 a1, .int .i64 a2, .int .i64 a3, .int .i64 a4, .int .i64 a5] 38)) (w.heap.size + 1 + 1) txZ := ⟨_, rfl⟩
    have B3 : Below w.heap.size w W3 := by rw [hW3]; exact Below.setRow (B1.alloc B1.size _) (by omega) _
    rw [← hW3] at hst bT3
    clear hW3 bT2
    go_wp2_with (first | (refine wpList_buildTo rfl 56 _ rfl txZ Tryz.builtTxZ ?_) | (refine wpList_storeBy rfl _ _ _ rfl _ _ rfl rfl hst ?_))
    refine bodyPost_ret (results_rowE (cs := txZ) rfl rfl rfl bT3 Tryz.underlying56 rfl) rfl ?_
    exact ⟨B3, E, HB.out, .inl ⟨HN.out, rfl⟩⟩
  have hE0 : findE x.stable.length s j i = 0 := hfe.trans hE
  replace hget := hget hE0
  obtain ⟨hrg, hns⟩ := findE_zero hE0
  obtain ⟨r1, r2, r3, r4, r5⟩ := rg_ok hrg
  have hv : rgV s j i = .agg #[.int .i64 1, .int .i64 (1 + j), .int .i64 (2 + j), .int .i64 (2 + j + i), .int .i64 (s - (2 + j + i))] := by unfold rgV; rw [r1, r2, r3, r4, r5]
  rw [hv, hE] at hf
  have HE := Lib.hid hE0
  have HRG := Lib.hid hrg
  clear hE hE0 hfe hv r1 r2 r3 r4 r5 hrg hns
  unfold RBegPost
  go_enter Tryz.func11, Tryz.ntmps11
  go_upto_region 1 with fail
  rw [← hw0]
  clear hw0
  have cD := bD.cells
  have cL := bL.cells
  have lD := bD.lt
  have lL := bL.lt
  go_wp2_with fail
  refine (hf w0).mono ?_
  rintro e w1 ⟨hb1, rfl⟩
  have bT1 := bT.belowAll hb1
  have bD1 := bD.belowAll hb1
  have bL1 := bL.belowAll hb1
  have B1 := B0.trans (hb1.mono B0.size)
  clear hf hb1 cD cL lD lL bD bL bT B0
  obtain ⟨RB, hRB⟩ : ∃ RB, RB = w1.heap.size := ⟨_, rfl⟩
  obtain ⟨w2, hw2⟩ : ∃ w2, w2 = w1.alloc (.cells #[.int .i64 1, .int .i64 (1 + j), .int .i64 (2 + j), .int .i64 (2 + j + i), .int .i64 (s - (2 + j + i))] 38) := ⟨_, rfl⟩
  have bR2 : Blk w2 RB 38 #[.int .i64 1, .int .i64 (1 + j), .int .i64 (2 + j), .int .i64 (2 + j + i), .int .i64 (s - (2 + j + i))] := by rw [hw2, hRB]; exact Blk.new _ _ _
  have bT2 := bT1.alloc (.cells #[.int .i64 1, .int .i64 (1 + j), .int .i64 (2 + j), .int .i64 (2 + j + i), .int .i64 (s - (2 + j + i))] 38)
  have bD2 := bD1.alloc (.cells #[.int .i64 1, .int .i64 (1 + j), .int .i64 (2 + j), .int .i64 (2 + j + i), .int .i64 (s - (2 + j + i))] 38)
  have bL2 := bL1.alloc (.cells #[.int .i64 1, .int .i64 (1 + j), .int .i64 (2 + j), .int .i64 (2 + j + i), .int .i64 (s - (2 + j + i))] 38)
  have B2 := B1.alloc B1.size (.cells #[.int .i64 1, .int .i64 (1 + j), .int .i64 (2 + j), .int .i64 (2 + j + i), .int .i64 (s - (2 + j + i))] 38)
  rw [← hw2] at bT2 bD2 bL2 B2
  have cD := bD1.cells
  have lD := bD1.lt
  go_wp2_with fail
  rw [← hw2, ← hRB]
  clear hw2 hRB bT1 bD1 bL1 B1
  refine (hget w2 B2).mono ?_
  rintro e w3 ⟨hb3, rfl⟩
  have bT3 := bT2.belowAll hb3
  have bD3 := bD2.belowAll hb3
  have bL3 := bL2.belowAll hb3
  have bR3 := bR2.belowAll hb3
  have B3 := B2.trans (hb3.mono B2.size)
  clear hget hb3 cD lD bT2 bD2 bL2 bR2 B2
  have HBE : Hid (∀ E, x.beginE s j i E ↔ (findE x.stable.length s j i ≠ 0 ∧ E = findE x.stable.length s j i) ∨
  (findE x.stable.length s j i = 0 ∧ x.ge (1 + j) ≠ 0 ∧ E = x.ge (1 + j)) ∨
  (findE x.stable.length s j i = 0 ∧ x.ge (1 + j) = 0 ∧ ¬ (mapOk (x.fr (1 + j)).data (rgB s j i).toNat ∧ (x.fr (1 + j)).kind = 5) ∧ E = 6) ∨
  (findE x.stable.length s j i = 0 ∧ x.ge (1 + j) = 0 ∧ mapOk (x.fr (1 + j)).data (rgB s j i).toNat ∧ (x.fr (1 + j)).kind = 5 ∧ E = 0)) := Lib.hid fun E => Iff.rfl
  generalize x.ge (1 + j) = GE at *
  obtain ⟨f, hfr⟩ : ∃ f, f = x.fr (1 + j) := ⟨_, rfl⟩
  have HFR := Lib.hid hfr
  rw [← hfr] at hsz HBE ⊢
  clear hfr
  obtain ⟨fk, fs, fd⟩ := f
  simp only at hsz HBE ⊢
  obtain ⟨w4, hw4⟩ : ∃ w4, w4 = w3.alloc (.cells #[.int .i64 fk, .int .u32 fs, .string fd] 26) := ⟨_, rfl⟩
  obtain ⟨FB, hFB⟩ : ∃ FB, FB = w3.heap.size := ⟨_, rfl⟩
  have bF4 : Blk w4 FB 26 #[.int .i64 fk, .int .u32 fs, .string fd] := by rw [hw4, hFB]; exact Blk.new _ _ _
  have bT4 : Blk w4 (w.heap.size + 1 + 1) 56 txZ := by rw [hw4]; exact bT3.alloc _
  have bD4 := bD3.alloc (.cells #[.int .i64 fk, .int .u32 fs, .string fd] 26)
  have bL4 := bL3.alloc (.cells #[.int .i64 fk, .int .u32 fs, .string fd] 26)
  have bR4 := bR3.alloc (.cells #[.int .i64 fk, .int .u32 fs, .string fd] 26)
  have B4 : Below w.heap.size w w4 := by rw [hw4]; exact B3.alloc B3.size _
  rw [← hw4] at bD4 bL4 bR4
  by_cases hG : GE = 0
  rotate_left
  · have hG' : (GE != 0) = true := by simpa using hG
    have HN := Lib.hid hG
    have hst := storeRow' (ty := 56) (vs := txZ) bT4 rfl (by simp [txZ, txR, Value.oneCell']) (by kernel_rfl)
    have bT5 := bT4.setRow (cs' := txZ)
    have B5 : Below w.heap.size w (w4.setRow (w.heap.size + 1 + 1) txZ) := Below.setRow B4 (by omega) _
    obtain ⟨W5, hW5⟩ : ∃ W5, W5 = w4.setRow (w.heap.size + 1 + 1) txZ := ⟨_, rfl⟩
    rw [← hW5] at hst bT5 B5
    rw [hw4] at hst
    clear hG hW5 bT4 bT3 hw4 hFB
    go_wp2_with (first | (refine wpList_buildTo rfl 56 _ rfl txZ Tryz.builtTxZ ?_) | (refine wpList_storeBy rfl _ _ _ rfl _ _ rfl rfl hst ?_))
    refine bodyPost_ret (results_rowE (cs := txZ) rfl rfl rfl bT5 Tryz.underlying56 rfl) rfl ?_
    exact ⟨B5, GE, (HBE.out _).2 (.inr (.inl ⟨HE.out, HN.out, rfl⟩)), .inl ⟨HN.out, rfl⟩⟩
  subst hG
  have cL3 := bL3.cells
  have lL3 := bL3.lt
  go_wp2_with fail
  rw [← hw4, ← hFB]
  clear hw4 hFB bT3 bD3 bL3 bR3 B3 cL3 lL3
  have cF := bF4.cells
  have lF := bF4.lt
  have cL := bL4.cells
  have lL := bL4.lt
  obtain ⟨w5, ca, hcv, hb5, hR5⟩ := conv_str w4 fd
  have z4 := B4.size
  have hdec := decodeR_any s j i (some ⟨w4.heap.size, 0, none⟩) ca (strL fd) (by rw [strL_length]; omega) (strL_bytes fd) w5 hR5
  rw [strL_length] at hdec
  have bT5 := bT4.belowAll hb5
  have bD5 := bD4.belowAll hb5
  have bL5 := bL4.belowAll hb5
  have bF5 := bF4.belowAll hb5
  have bR5 := bR4.belowAll hb5
  have B5 := B4.trans (hb5.mono z4)
  clear z4
  go_simp
  go_wp2_with fail
  refine hdec.mono ?_
  rintro e w6 ⟨hb6, hd6⟩
  have bT6 := bT5.belowAll hb6
  have bD6 := bD5.belowAll hb6
  have bL6 := bL5.belowAll hb6
  have bF6 := bF5.belowAll hb6
  have bR6 := bR5.belowAll hb6
  have B6 := B5.trans (hb6.mono B5.size)
  have z5 := B5.size
  have zT := bT5.lt
  have cF := bF6.cells
  have lF := bF6.lt
  clear hdec hb6 bF5 bT5 bD5 bL5 bR5 B5 hb5 hR5 hcv cL lL bF4 bT4 bD4 bL4 bR4 B4
  rcases hd6 with ⟨hne, -⟩ | ⟨-, h96, rfl⟩ | ⟨-, h96, hna, rfl⟩ | ⟨-, h96, hna, g, rfl, hg, hR6⟩
  · exact absurd HRG.out hne
  · have HX : Hid (¬ (mapOk fd (rgB s j i).toNat ∧ fk = 5)) := Lib.hid fun hh => h96 hh.1.1
    have hk' : (fk != 5) = true ∨ (fk != 5) = false := by cases (fk != 5) <;> simp
    have hst := storeRow' (ty := 56) (vs := txZ) (bT6.alloc (.cells #[.int .i64 0, .int .i64 0, .int .i64 0, .slice none 0 0] 53)) rfl (by simp [txZ, txR, Value.oneCell']) (by kernel_rfl)
    have bT7 := (bT6.alloc (.cells #[.int .i64 0, .int .i64 0, .int .i64 0, .slice none 0 0] 53)).setRow (cs' := txZ)
    have B7 := Below.setRow (B6.alloc B6.size (.cells #[.int .i64 0, .int .i64 0, .int .i64 0, .slice none 0 0] 53)) (g := w.heap.size + 1 + 1) (by omega) txZ
    obtain ⟨W7, hW7⟩ : ∃ W7, W7 = (w6.alloc (.cells #[.int .i64 0, .int .i64 0, .int .i64 0, .slice none 0 0] 53)).setRow (w.heap.size + 1 + 1) txZ := ⟨_, rfl⟩
    rw [← hW7] at hst bT7 B7
    clear hW7 bT6 bD6 bL6 bR6 h96 
    rcases hk' with hk' | hk' <;>
    · go_wp2_with (first | (refine wpList_buildTo rfl 56 _ rfl txZ Tryz.builtTxZ ?_) | (refine wpList_storeBy rfl _ _ _ rfl _ _ rfl rfl hst ?_))
      refine bodyPost_ret (results_rowE (cs := txZ) rfl rfl rfl bT7 Tryz.underlying56 rfl) rfl ?_
      exact ⟨B7, 6, (HBE.out _).2 (.inr (.inr (.inl ⟨HE.out, by first | trivial | rfl, HX.out, rfl⟩))), .inl ⟨by decide, rfl⟩⟩
  · have HX : Hid (¬ (mapOk fd (rgB s j i).toNat ∧ fk = 5)) := Lib.hid fun hh => hna hh.1.2
    have hk' : (fk != 5) = true ∨ (fk != 5) = false := by cases (fk != 5) <;> simp
    have hst := storeRow' (ty := 56) (vs := txZ) (bT6.alloc (.cells #[.int .i64 0, .int .i64 0, .int .i64 0, .slice none 0 0] 53)) rfl (by simp [txZ, txR, Value.oneCell']) (by kernel_rfl)
    have bT7 := (bT6.alloc (.cells #[.int .i64 0, .int .i64 0, .int .i64 0, .slice none 0 0] 53)).setRow (cs' := txZ)
    have B7 := Below.setRow (B6.alloc B6.size (.cells #[.int .i64 0, .int .i64 0, .int .i64 0, .slice none 0 0] 53)) (g := w.heap.size + 1 + 1) (by omega) txZ
    obtain ⟨W7, hW7⟩ : ∃ W7, W7 = (w6.alloc (.cells #[.int .i64 0, .int .i64 0, .int .i64 0, .slice none 0 0] 53)).setRow (w.heap.size + 1 + 1) txZ := ⟨_, rfl⟩
    rw [← hW7] at hst bT7 B7
    clear hW7 bT6 bD6 bL6 bR6 h96 hna
    rcases hk' with hk' | hk' <;>
    · go_wp2_with (first | (refine wpList_buildTo rfl 56 _ rfl txZ Tryz.builtTxZ ?_) | (refine wpList_storeBy rfl _ _ _ rfl _ _ rfl rfl hst ?_))
      refine bodyPost_ret (results_rowE (cs := txZ) rfl rfl rfl bT7 Tryz.underlying56 rfl) rfl ?_
      exact ⟨B7, 6, (HBE.out _).2 (.inr (.inr (.inl ⟨HE.out, by first | trivial | rfl, HX.out, rfl⟩))), .inl ⟨by decide, rfl⟩⟩
  have HMO : Hid (mapOk fd (rgB s j i).toNat) := Lib.hid ⟨h96, hna⟩
  clear h96 hna
  obtain ⟨NB, hNB⟩ : ∃ NB, NB = (rgB s j i).toNat := ⟨_, rfl⟩
  rw [← hNB] at hR6 HMO HBE ⊢
  have HNB := Lib.hid hNB
  clear hNB
  by_cases hk : fk = 5
  rotate_left
  · have HX : Hid (¬ (mapOk fd NB ∧ fk = 5)) := Lib.hid fun hh => hk hh.2
    have hk' : (fk != 5) = true := by simpa using hk
    have hst := storeRow' (ty := 56) (vs := txZ) (bT6.alloc (.cells #[.int .i64 s, .int .i64 j, .int .i64 i, .slice (some ⟨g, 0, none⟩) NB NB] 53)) rfl (by simp [txZ, txR, Value.oneCell']) (by kernel_rfl)
    have bT7 := (bT6.alloc (.cells #[.int .i64 s, .int .i64 j, .int .i64 i, .slice (some ⟨g, 0, none⟩) NB NB] 53)).setRow (cs' := txZ)
    have B7 := Below.setRow (B6.alloc B6.size (.cells #[.int .i64 s, .int .i64 j, .int .i64 i, .slice (some ⟨g, 0, none⟩) NB NB] 53)) (g := w.heap.size + 1 + 1) (by omega) txZ
    obtain ⟨W7, hW7⟩ : ∃ W7, W7 = (w6.alloc (.cells #[.int .i64 s, .int .i64 j, .int .i64 i, .slice (some ⟨g, 0, none⟩) NB NB] 53)).setRow (w.heap.size + 1 + 1) txZ := ⟨_, rfl⟩
    rw [← hW7] at hst bT7 B7
    clear hW7 bT6 bD6 bL6 bR6 hk hR6
    go_wp2_with (first | (refine wpList_buildTo rfl 56 _ rfl txZ Tryz.builtTxZ ?_) | (refine wpList_storeBy rfl _ _ _ rfl _ _ rfl rfl hst ?_))
    refine bodyPost_ret (results_rowE (cs := txZ) rfl rfl rfl bT7 Tryz.underlying56 rfl) rfl ?_
    exact ⟨B7, 6, (HBE.out _).2 (.inr (.inr (.inl ⟨HE.out, by first | trivial | rfl, HX.out, rfl⟩))), .inl ⟨by decide, rfl⟩⟩
  subst hk
  obtain ⟨w7, hw7⟩ : ∃ w7, w7 = w6.alloc (.cells #[.int .i64 s, .int .i64 j, .int .i64 i, .slice (some ⟨g, 0, none⟩) NB NB] 53) := ⟨_, rfl⟩
  obtain ⟨SB, hSB⟩ : ∃ SB, SB = w6.heap.size := ⟨_, rfl⟩
  have hb7 : Below w6.heap.size w6 w7 := by rw [hw7]; exact (Below.refl _ _).alloc (Nat.le_refl _) _
  have bS7 : Blk w7 SB 53 #[.int .i64 s, .int .i64 j, .int .i64 i, .slice (some ⟨g, 0, none⟩) NB NB] := by rw [hw7, hSB]; exact Blk.new _ _ _
  have bT7 := bT6.belowAll hb7
  have bD7 := bD6.belowAll hb7
  have bL7 := bL6.belowAll hb7
  have bR7 := bR6.belowAll hb7
  have B7 := B6.trans (hb7.mono B6.size)
  have hR7 := hR6.below hb7
  go_upto_region 10 with fail
  rw [← hw7, ← hSB]
  have hgT : g ≠ w.heap.size + 1 + 1 := by omega
  clear hw7 hSB hb7 bT6 bD6 bL6 bR6 hR6 B6 cF lF bF6
  have cD := bD7.cells
  have lD := bD7.lt
  have cL := bL7.cells
  have lL := bL7.lt
  have cR := bR7.cells
  have lR := bR7.lt
  have cS := bS7.cells
  have lS := bS7.lt
  obtain ⟨tx, htx⟩ : ∃ tx, tx = txR (some ⟨S, 0, none⟩) x.stable.length c C0 nc cc x.taken x.power x.off s j i 1 (1 + j) (2 + j) (2 + j + i) (s - (2 + j + i)) (some ⟨g, 0, none⟩) NB NB (some ⟨g, 0, none⟩) NB NB none 0 0 false false false := ⟨_, rfl⟩
  have hbt := Tryz.builtTxR (some ⟨S, 0, none⟩) x.stable.length c C0 nc cc x.taken x.power x.off s j i 1 (1 + j) (2 + j) (2 + j + i) (s - (2 + j + i)) (some ⟨g, 0, none⟩) NB NB
  rw [← htx] at hbt
  have hszt : tx.size = 25 := by rw [htx]; rfl
  have hst := storeRow' (ty := 56) (vs := tx) bT7 (by rw [hszt]; rfl) (by rw [htx]; simp [txR, Value.oneCell']) (by rw [hszt]; kernel_rfl)
  have bT8 := bT7.setRow (cs' := tx)
  have B8 := Below.setRow B7 (g := w.heap.size + 1 + 1) (by omega) tx
  have hR8 : Reads (w7.setRow (w.heap.size + 1 + 1) tx) (some ⟨g, 0, none⟩) ((decS (strL fd) NB 768).map .bool) := by
    rcases hR7 with h0 | ⟨b, off, he, hl, hc⟩
    · exact .inl h0
    · cases he
      exact .inr ⟨g, 0, rfl, by simpa using hl, fun k v hv => (World.cell?_of_block (w := w7) (a := ⟨g, 0 + k, none⟩) (setRow_other _ _ _ _ (show g ≠ w.heap.size + 1 + 1 from hgT))).trans (hc k v hv)⟩
  obtain ⟨W8, hW8⟩ : ∃ W8, W8 = w7.setRow (w.heap.size + 1 + 1) tx := ⟨_, rfl⟩
  rw [← hW8] at hst bT8 B8 hR8
  have HT := Lib.hid htx
  have HS := Lib.hid hszt
  clear hW8 htx hszt
  go_wp2_with (first | (refine wpList_buildTo rfl 56 _ rfl tx (by refine (congrArg (Tryz.prog.built 56) ?_).trans hbt; rfl) ?_) | (refine wpList_storeBy rfl _ _ _ rfl _ _ rfl rfl hst ?_))
  refine bodyPost_ret (results_rowE (cs := tx) rfl rfl rfl bT8 Tryz.underlying56 (by rw [HS.out]; rfl)) rfl ?_
  exact ⟨B8, 0, (HBE.out _).2 (.inr (.inr (.inr ⟨HE.out, by first | trivial | rfl, HMO.out, by first | trivial | rfl, rfl⟩))), .inr ⟨rfl, g, Nat.le_trans z5 hg, by rw [HT.out, HNB.out], by rw [← HNB.out, ← HFR.out]; exact hR8⟩⟩

end Go.Proofs.YtloddiipepiocaaGreatDoor
/- Layer 10 on a device that is none: find, Begin, Format. -/
namespace Go.Proofs.YtloddiipepiocaaGreatDoor
open Go.RowKit Go.Maps

/-- The error on a device that is none. -/
def nilE (s j i : Int) : Int := if rgE s j i = 0 then 1 else rgE s j i
theorem nilE_ne (s j i : Int) : nilE s j i ≠ 0 := by
  unfold nilE
  split
  · decide
  · assumption

set_option maxRecDepth 100000 in
set_option maxHeartbeats 1000000 in
theorem find_nil (s j i : Int) (w : World) :
    Calls Tryz.prog 42 #[.pointer none, .agg #[.int .i64 s, .int .i64 j, .int .i64 i]] w fun e w' => e = .returned (.tuple #[.agg (PV none 0 0 0 0 0 0 0 0), .int .i64 (nilE s j i)]) ∧ Below w.heap.size w w' := by
  obtain ⟨wA, hA⟩ : ∃ wA, wA = (w.alloc (.cells #[.int .i64 s, .int .i64 j, .int .i64 i] 23)).alloc (.cells noPlace.toArray 117) := ⟨_, rfl⟩
  have bL : Blk wA w.heap.size 23 #[.int .i64 s, .int .i64 j, .int .i64 i] := by rw [hA]; exact (by (repeat' (first | (with_reducible assumption) | exact Blk.new' (by simp) | refine Blk.alloc ?_ _)))
  have bP : Blk wA (w.heap.size + 1) 117 noPlace.toArray := by rw [hA]; exact (by (repeat' (first | (with_reducible assumption) | exact Blk.new' (by simp) | refine Blk.alloc ?_ _)))
  have BA : Below w.heap.size w wA := by rw [hA]; (repeat' (first | (with_reducible exact Below.refl _ _) | (with_reducible assumption) | (with_reducible refine Below.alloc ?_ ?_ _) | (with_reducible refine Below.drew ?_) | (with_reducible refine below_drewN' ?_ _) | (with_reducible refine Below.setCell ?_ ?_ _) | (with_reducible exact Nat.le_refl _) | omega | (simp; done) | (simp; omega)))
  have hrg := regions_any s j i wA
  have hz : noPlace.toArray = #[.pointer none, .int .i64 0, .int .i64 0, .int .i64 0, .int .i64 0, .int .i64 0, .int .i64 0, .int .i64 0, .int .i64 0] := rfl
  unfold RgPost rgV at hrg
  rw [hz] at hA bP
  clear hz
  have cL := bL.cells
  have lL := bL.lt
  go_enter Tryz.func42, Tryz.ntmps42
  go_wp2_with fail
  rw [← hA]
  clear hA
  go_wp2_with fail
  refine hrg.mono ?_
  rintro e w1 ⟨rfl, hb1⟩
  have B1 := BA.trans (hb1.mono BA.size)
  have bP1 := bP.belowAll hb1
  clear hb1 hrg cL lL bL bP BA
  have bP2 := bP1.alloc (.cells #[.int .i64 (rgJ s j i), .int .i64 (rgM s j i), .int .i64 (rgT s j i), .int .i64 (rgD s j i), .int .i64 (rgB s j i)] 38)
  have hst := storeRow (ty := 117) (vs := PV none 0 0 0 0 0 0 0 0) bP2 rfl (by simp [Value.oneCell']) (by kernel_rfl)
  have bP3 := bP2.setRow (cs' := PV none 0 0 0 0 0 0 0 0)
  have BF : Below w.heap.size w _ := Below.setRow (B1.alloc B1.size (.cells #[.int .i64 (rgJ s j i), .int .i64 (rgM s j i), .int .i64 (rgT s j i), .int .i64 (rgD s j i), .int .i64 (rgB s j i)] 38)) (g := w.heap.size + 1) (by omega) (PV none 0 0 0 0 0 0 0 0)
  have cP2 := bP2.cells
  have lP2 := bP2.lt
  by_cases hE : rgE s j i = 0
  rotate_left
  · have HE : Hid (nilE s j i = rgE s j i) := Lib.hid (by unfold nilE; rw [if_neg hE])
    obtain ⟨E, hEE⟩ : ∃ E, rgE s j i = E := ⟨_, rfl⟩
    rw [hEE] at hE HE ⊢
    have hE' : (E != 0) = true := by simpa using hE
    clear hE hEE
    go_wp2_with (refine wpList_storeBy rfl _ _ _ rfl _ _ rfl rfl hst ?_)
    have cP3 := bP3.cells
    refine bodyPost_ret (v := .tuple #[.agg (PV none 0 0 0 0 0 0 0 0), .int .i64 E]) (by simp [results, Tryz.results42, go_sem, cP3]) rfl ?_
    exact ⟨by rw [HE.out], BF⟩
  · have HE : Hid (nilE s j i = 1) := Lib.hid (by unfold nilE; rw [if_pos hE])
    rw [hE]
    clear hE
    go_wp2_with (first | (refine wpList_storeBy rfl _ _ _ rfl _ _ rfl rfl hst ?_) | fail)
    refine (sectors_nil _).mono ?_
    rintro e w' ⟨rfl, rfl⟩
    go_wp2_with (first | (refine wpList_storeBy rfl _ _ _ rfl _ _ rfl rfl hst ?_) | fail)
    have cP3 := bP3.cells
    refine bodyPost_ret (v := .tuple #[.agg (PV none 0 0 0 0 0 0 0 0), .int .i64 1]) (by simp [results, Tryz.results42, go_sem, cP3]) rfl ?_
    exact ⟨by rw [HE.out], BF⟩

set_option maxRecDepth 100000 in
set_option maxHeartbeats 1000000 in
theorem begin_nil (s j i : Int) (w : World) :
    Calls Tryz.prog 10 #[.pointer none, .agg #[.int .i64 s, .int .i64 j, .int .i64 i]] w fun e w' => e = .returned (.tuple #[.pointer none, .int .i64 (nilE s j i)]) ∧ Below w.heap.size w w' := by
  obtain ⟨wA, hA⟩ : ∃ wA, wA = w.alloc (.cells #[.int .i64 s, .int .i64 j, .int .i64 i] 23) := ⟨_, rfl⟩
  have bL : Blk wA w.heap.size 23 #[.int .i64 s, .int .i64 j, .int .i64 i] := by rw [hA]; exact (by (repeat' (first | (with_reducible assumption) | exact Blk.new' (by simp) | refine Blk.alloc ?_ _)))
  have BA : Below w.heap.size w wA := by rw [hA]; (repeat' (first | (with_reducible exact Below.refl _ _) | (with_reducible assumption) | (with_reducible refine Below.alloc ?_ ?_ _) | (with_reducible refine Below.drew ?_) | (with_reducible refine below_drewN' ?_ _) | (with_reducible refine Below.setCell ?_ ?_ _) | (with_reducible exact Nat.le_refl _) | omega | (simp; done) | (simp; omega)))
  have hfi := find_nil s j i wA
  have hN := nilE_ne s j i
  have cL := bL.cells
  have lL := bL.lt
  obtain ⟨E, hEE⟩ : ∃ E, nilE s j i = E := ⟨_, rfl⟩
  rw [hEE] at hfi hN ⊢
  have hE' : (E != 0) = true := by simpa using hN
  clear hN hEE
  go_enter Tryz.func10, Tryz.ntmps10
  go_wp2_with fail
  rw [← hA]
  go_wp2_with fail
  refine hfi.mono ?_
  rintro e w1 ⟨rfl, hb1⟩
  have B1 := BA.trans (hb1.mono BA.size)
  clear hA
  go_wp2_with fail
  go_ret2
  exact ⟨rfl, B1.alloc B1.size _⟩

set_option maxRecDepth 100000 in
set_option maxHeartbeats 1000000 in
theorem tformat_nil (s j i : Int) (w : World) :
    Calls Tryz.prog 14 #[.pointer none, .agg #[.int .i64 s, .int .i64 j, .int .i64 i]] w fun e w' => e = .returned (.int .i64 (nilE s j i)) ∧ Below w.heap.size w w' := by
  obtain ⟨wA, hA⟩ : ∃ wA, wA = w.alloc (.cells #[.int .i64 s, .int .i64 j, .int .i64 i] 23) := ⟨_, rfl⟩
  have bL : Blk wA w.heap.size 23 #[.int .i64 s, .int .i64 j, .int .i64 i] := by rw [hA]; exact (by (repeat' (first | (with_reducible assumption) | exact Blk.new' (by simp) | refine Blk.alloc ?_ _)))
  have BA : Below w.heap.size w wA := by rw [hA]; (repeat' (first | (with_reducible exact Below.refl _ _) | (with_reducible assumption) | (with_reducible refine Below.alloc ?_ ?_ _) | (with_reducible refine Below.drew ?_) | (with_reducible refine below_drewN' ?_ _) | (with_reducible refine Below.setCell ?_ ?_ _) | (with_reducible exact Nat.le_refl _) | omega | (simp; done) | (simp; omega)))
  have hfi := find_nil s j i wA
  have hN := nilE_ne s j i
  have cL := bL.cells
  have lL := bL.lt
  obtain ⟨E, hEE⟩ : ∃ E, nilE s j i = E := ⟨_, rfl⟩
  rw [hEE] at hfi hN ⊢
  have hE' : (E != 0) = true := by simpa using hN
  clear hN hEE
  go_enter Tryz.func14, Tryz.ntmps14
  go_wp2_with fail
  rw [← hA]
  go_wp2_with fail
  refine hfi.mono ?_
  rintro e w1 ⟨rfl, hb1⟩
  have B1 := BA.trans (hb1.mono BA.size)
  clear hA
  go_wp2_with fail
  go_ret
  exact ⟨rfl, B1.alloc B1.size _⟩

end Go.Proofs.YtloddiipepiocaaGreatDoor
