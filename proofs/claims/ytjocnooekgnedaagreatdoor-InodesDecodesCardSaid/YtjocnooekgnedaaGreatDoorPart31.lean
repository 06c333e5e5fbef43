/- Parts of the proof, put together by program: IA, G3, G4. -/
import Derived.Test.YtjocnooekgnedaaGreatDoorPart30
import Derived.Test.YtjocnooekgnedaaGreatDoorPart10
import Derived.Test.YtjocnooekgnedaaGreatDoorPart01
import Derived.Test.YtjocnooekgnedaaGreatDoorPart21
import Derived.Test.YtjocnooekgnedaaGreatDoorPart12
import Derived.Maps.AppendAt
set_option linter.unusedVariables false
set_option linter.unusedSimpArgs false
/- Layer 10: what a transaction writes, in plain words. No program in sight. -/
namespace Go.Proofs.YtjocnooekgnedaaGreatDoor
open Go.RowKit Go.Maps

def TxS.bmap (y : TxS) : Rec := ⟨1 + y.j, 5, mapS y.now⟩
/-- What Records returns. -/
def TxS.recs (y : TxS) : List Rec := if y.changed then insRec y.writes y.bmap else y.writes
/-- The records that came by Write. -/
structure TxS.Clean (y : TxS) : Prop where
  asc : Asc y.writes
  out : ∀ r ∈ y.writes, r.at_ < 1 ∨ 1 + y.j < r.at_
  small : ∀ r ∈ y.writes, r.data.size ≤ 96
  j0 : 0 ≤ y.j

theorem insRec_perm {l : List Rec} {r : Rec} (h : ∀ x ∈ l, x.at_ ≠ r.at_) : (insRec l r).Perm (r :: l) := by
  induction l with
  | nil => exact List.Perm.refl _
  | cons x t ih =>
    have h1 := h x (by simp)
    unfold insRec
    split
    · exact List.Perm.refl _
    · split
      · omega
      · exact ((ih fun y hy => h y (List.mem_cons_of_mem _ hy)).cons x).trans (List.Perm.swap _ _ _)
theorem asc_perm {l m : List Rec} (hl : Asc l) (hm : m.Pairwise (fun a b => a.at_ ≤ b.at_)) (hp : m.Perm l) : m = l := by
  induction l generalizing m with
  | nil => exact hp.eq_nil
  | cons x t ih =>
    obtain ⟨h1, h2⟩ := List.pairwise_cons.1 hl
    cases m with
    | nil => exact absurd hp.symm.eq_nil (by simp)
    | cons y s =>
      obtain ⟨k1, k2⟩ := List.pairwise_cons.1 hm
      have e : y = x := by
        have hy : y ∈ x :: t := hp.mem_iff.1 (by simp)
        rcases List.mem_cons.1 hy with e | hy
        · exact e
        · have hx : x ∈ y :: s := hp.mem_iff.2 (by simp)
          rcases List.mem_cons.1 hx with e | hx
          · exact e.symm
          · have := h1 y hy; have := k1 x hx; omega
      subst e
      rw [ih h2 k2 ((List.perm_cons _).1 hp)]
theorem recs_asc {y : TxS} (h : y.Clean) : Asc y.recs := by
  unfold TxS.recs
  split
  · exact insRec_asc h.asc _
  · exact h.asc
theorem recs_perm {y : TxS} (h : y.Clean) : y.recs.Perm (y.writes ++ if y.changed then [y.bmap] else []) := by
  unfold TxS.recs
  split
  · refine (insRec_perm fun x hx => ?_).trans ?_
    · have := h.out x hx; have := h.j0; show x.at_ ≠ 1 + y.j; omega
    · exact (List.perm_append_comm (l₁ := [y.bmap]) (l₂ := y.writes))
  · rw [List.append_nil]
theorem recs_length {y : TxS} (h : y.Clean) : y.recs.length = y.writes.length + if y.changed then 1 else 0 := by
  rw [(recs_perm h).length_eq, List.length_append]
  split <;> rfl

/-! How calls turn it. -/
theorem clean_insRec {y : TxS} (h : y.Clean) {r : Rec} (h1 : r.at_ < 1 ∨ 1 + y.j < r.at_) (h2 : r.data.size ≤ 96) : TxS.Clean { y with writes := insRec y.writes r } :=
  ⟨insRec_asc h.asc r, fun x hx => (insRec_mem hx).elim (fun e => e ▸ h1) (h.out x), fun x hx => (insRec_mem hx).elim (fun e => e ▸ h2) (h.small x), h.j0⟩
theorem TxS.Clean.brk {y : TxS} (h : y.Clean) : y.brk.Clean := ⟨h.asc, h.out, h.small, h.j0⟩
theorem TxS.Clean.change {y : TxS} (h : y.Clean) (us : List Bool) (n : Nat) : (y.change us n).Clean := by
  unfold TxS.change
  split
  · exact h
  · split
    · exact h
    · exact ⟨h.asc, h.out, h.small, h.j0⟩
theorem TxS.Clean.write {y : TxS} (h : y.Clean) (a k : Int) (d : ByteArray) : (y.write a k d).2.Clean := by
  unfold TxS.write
  split
  · exact h
  · split
    · exact h.brk
    · rename_i hE
      unfold TxS.writeE at hE
      split at hE
      · exact absurd (by decide) hE
      · split at hE
        · exact absurd (by decide) hE
        · split at hE
          · exact absurd (by decide) hE
          · exact clean_insRec h (by show a < 1 ∨ 1 + y.j < a; omega) (by show d.size ≤ 96; omega)
theorem TxS.Clean.take {y : TxS} (h : y.Clean) (near many : Int) : (y.take near many).2.Clean := by
  unfold TxS.take
  split
  · exact h
  · split
    · exact h.brk
    · exact h.change _ _
theorem TxS.Clean.free {y : TxS} (h : y.Clean) (l : List Int) : (y.free l).2.Clean := by
  unfold TxS.free
  split
  · exact h
  · split
    · exact h.brk
    · exact h.change _ _

end Go.Proofs.YtjocnooekgnedaaGreatDoor
/- Layer 6: Save. -/
namespace Go.Proofs.YtjocnooekgnedaaGreatDoor
open Go.RowKit Go.Maps

theorem Tryz.infoSec3 : (Tryz.prog.info? 204).map (fun i => (i.zero, i.size, i.bytes)) = some (some (.agg (fill (.int .u8 0) 128)), 128, 128) := by kernel_rfl
theorem wpList_appendBy' {P : Program} {ops : Array Oper} {rest : List Oper} {o : Oper} {a : Act} {w w' : World} {Q : Exit → Act → World → Prop} (hgd : o.guard = none) (s x : Operand) (t : TypeId) (ho : o.op = .call { callee := .builtin .append, args := #[s, x], argTypes := #[t, t] }) (p q v : Value) (hs : a.eval s = p) (hx : a.eval x = q)
    (hrun : (Builtin.append_ #[t, t] o.type #[p, q]).run P w = .ok v w') (h : wpList P ops Q rest (a.put o.dst v) w') : wpList P ops Q (o :: rest) a w := by
  refine wpList_plain hgd fun _ hK => ?_
  unfold Oper.wp execOp
  simp only [ho, resolve, invoke, builtin, Sem.run_bind, Sem.run_pure, Result.andThen_ok, List.map_toArray, List.map_cons, List.map_nil, hs, hx, hrun]
  exact hK _ _ h

set_option maxRecDepth 100000 in
set_option maxHeartbeats 400000 in
theorem clone_sec (A : Option Addr) (n c : Nat) (xs : List Value) (hx : xs.length = n * 128) (hn : n ≤ 1000) (w : World) (hR : Reads w A xs) (hA : A = none → n = 0) (h1 : ∀ u ∈ xs, u.oneCell' = true) :
    Calls Tryz.prog 152 #[.slice A n c] w fun e w' => ∃ v, e = .returned v ∧ w'.ownsRow w.heap.size 204 128 v n xs ∧ Below w.heap.size w w' := by
  obtain ⟨i, z, hi, hz, hsz, hby, hzs⟩ : ∃ i z, Tryz.prog.info? 204 = some i ∧ i.zero = some z ∧ i.size = 128 ∧ i.bytes = 128 ∧ z.cells.size = 128 := by
    have h0 : ((Tryz.prog.info? 204).bind fun i => i.zero.map fun z => (i.size, i.bytes, z.cells.size)) = some (128, 128, 128) := by kernel_rfl
    cases hi : Tryz.prog.info? 204 with
    | none => rw [hi] at h0; cases h0
    | some i =>
      rw [hi] at h0
      cases hz : i.zero with
      | none => rw [Option.bind_some, hz] at h0; cases h0
      | some z =>
        rw [Option.bind_some, hz] at h0
        simp only [Option.map_some, Option.some.injEq, Prod.mk.injEq] at h0
        exact ⟨i, z, rfl, hz, h0.1, h0.2.1, h0.2.2⟩
  have hnil := fun (w : World) => Lib.run_eql_slice_nil (P := Tryz.prog) w 149 204 A n c 0 0 Tryz.underlying149
  rcases A with _ | ad
  · have hn0 := hA rfl
    subst hn0
    obtain rfl : xs = [] := List.eq_nil_of_length_eq_zero (by omega)
    go_enter Tryz.func152, Tryz.ntmps152
    go_wp2_with fail
    go_ret
    exact ⟨_, rfl, World.ownsRow_nil _ _ _ _, Below.refl _ _⟩
  · obtain ⟨w0, hw0⟩ : ∃ w0, w0 = w.alloc (.cells #[] 204) := ⟨_, rfl⟩
    have hown0 : w0.ownsRow w.heap.size 204 128 (.slice (some ⟨w.heap.size, 0, none⟩) 0 0) 0 [] := by rw [hw0]; exact World.ownsRow_made w #[] 0 (Nat.le_refl _) (by simp) rfl
    have B0 : Below w.heap.size w w0 := by rw [hw0]; exact (Below.refl _ _).alloc (Nat.le_refl _) _
    have hcells : ∀ j u, xs[j]? = some u → w0.cell? (ad.add j) = some u := fun j u hu => by
      rcases hR.below B0 with h | ⟨b, off, hb, hlt, hc⟩
      · subst h; simp at hu
      · cases hb
        rw [addr_add]
        exact hc j u hu
    obtain ⟨v1, w1, hrun, hown1, hg1, -, hat1⟩ := run_append_own_at (P := Tryz.prog) w0 w.heap.size 149 149 204 i z 128 128 Tryz.underlying149 hi hz hsz hby hzs (by omega) _ _ _ hown0 ad n c xs hx hcells h1 (by simp only [maxLen]; omega) (by omega) B0.size
    go_enter Tryz.func152, Tryz.ntmps152
    go_wp2_with (refine wpList_appendBy' rfl _ _ _ rfl (.slice (some ⟨w.heap.size, 0, none⟩) 0 0) (.slice (some ad) n c) v1 rfl rfl (by rw [← hw0]; exact hrun) ?_)
    go_ret
    exact ⟨v1, rfl, by simpa using hown1, B0.grown hg1 B0.size (fun k hk => by simp [Value.ownBlock] at hk; omega)⟩
set_option maxRecDepth 100000 in
set_option maxHeartbeats 400000 in
theorem clone_dvw (A : Option Addr) (n c : Nat) (xs : List Value) (hx : xs.length = n * 129) (hn : n ≤ 1000) (w : World) (hR : Reads w A xs) (hA : A = none → n = 0) (h1 : ∀ u ∈ xs, u.oneCell' = true) :
    Calls Tryz.prog 153 #[.slice A n c] w fun e w' => ∃ v, e = .returned v ∧ w'.ownsRow w.heap.size 206 129 v n xs ∧ Below w.heap.size w w' := by
  obtain ⟨i, z, hi, hz, hsz, hby, hzs⟩ : ∃ i z, Tryz.prog.info? 206 = some i ∧ i.zero = some z ∧ i.size = 129 ∧ i.bytes = 136 ∧ z.cells.size = 129 := by
    have h0 : ((Tryz.prog.info? 206).bind fun i => i.zero.map fun z => (i.size, i.bytes, z.cells.size)) = some (129, 136, 129) := by kernel_rfl
    cases hi : Tryz.prog.info? 206 with
    | none => rw [hi] at h0; cases h0
    | some i =>
      rw [hi] at h0
      cases hz : i.zero with
      | none => rw [Option.bind_some, hz] at h0; cases h0
      | some z =>
        rw [Option.bind_some, hz] at h0
        simp only [Option.map_some, Option.some.injEq, Prod.mk.injEq] at h0
        exact ⟨i, z, rfl, hz, h0.1, h0.2.1, h0.2.2⟩
  have hnil := fun (w : World) => Lib.run_eql_slice_nil (P := Tryz.prog) w 150 206 A n c 0 0 Tryz.underlying150
  rcases A with _ | ad
  · have hn0 := hA rfl
    subst hn0
    obtain rfl : xs = [] := List.eq_nil_of_length_eq_zero (by omega)
    go_enter Tryz.func153, Tryz.ntmps153
    go_wp2_with fail
    go_ret
    exact ⟨_, rfl, World.ownsRow_nil _ _ _ _, Below.refl _ _⟩
  · obtain ⟨w0, hw0⟩ : ∃ w0, w0 = w.alloc (.cells #[] 206) := ⟨_, rfl⟩
    have hown0 : w0.ownsRow w.heap.size 206 129 (.slice (some ⟨w.heap.size, 0, none⟩) 0 0) 0 [] := by rw [hw0]; exact World.ownsRow_made w #[] 0 (Nat.le_refl _) (by simp) rfl
    have B0 : Below w.heap.size w w0 := by rw [hw0]; exact (Below.refl _ _).alloc (Nat.le_refl _) _
    have hcells : ∀ j u, xs[j]? = some u → w0.cell? (ad.add j) = some u := fun j u hu => by
      rcases hR.below B0 with h | ⟨b, off, hb, hlt, hc⟩
      · subst h; simp at hu
      · cases hb
        rw [addr_add]
        exact hc j u hu
    obtain ⟨v1, w1, hrun, hown1, hg1, -, hat1⟩ := run_append_own_at (P := Tryz.prog) w0 w.heap.size 150 150 206 i z 129 136 Tryz.underlying150 hi hz hsz hby hzs (by omega) _ _ _ hown0 ad n c xs hx hcells h1 (by simp only [maxLen]; omega) (by omega) B0.size
    go_enter Tryz.func153, Tryz.ntmps153
    go_wp2_with (refine wpList_appendBy' rfl _ _ _ rfl (.slice (some ⟨w.heap.size, 0, none⟩) 0 0) (.slice (some ad) n c) v1 rfl rfl (by rw [← hw0]; exact hrun) ?_)
    go_ret
    exact ⟨v1, rfl, by simpa using hown1, B0.grown hg1 B0.size (fun k hk => by simp [Value.ownBlock] at hk; omega)⟩

theorem storeRow' {W : World} {g : Nat} {t ty : TypeId} {cur : Array Value} {vs : Array Value} (b : Blk W g t cur) (hl : cur.size = vs.size) (h1 : vs.all (·.oneCell') = true) (hsz : (sizeOf ty).run Tryz.prog W = .ok vs.size W) :
    (Instr.storeAt ty (.pointer (some ⟨g, 0, none⟩)) (.agg vs)).run Tryz.prog W = .ok () (W.setRow g vs) := by
  have h := run_storeAt_row (P := Tryz.prog) (w := W) (ty := ty) (t := t) (g := g) (o := 0) (cur := cur) (vs := vs.toList) b (by simp; omega) (fun v hv => by
    have := Array.all_eq_true'.1 h1 v (by simpa using hv)
    exact this) (by simpa using hsz)
  have e : (cur.toList.take 0 ++ vs.toList ++ cur.toList.drop (0 + vs.toList.length)).toArray = vs := by
    rw [List.take_zero, List.nil_append, List.drop_of_length_le (by simp; omega), List.append_nil]
  rw [e] at h
  simpa using h
/-- What Save returns. -/
def stateC (sv cv : Value) (tk pw : Int) (off : Bool) : Array Value := #[sv, cv, .int .i64 tk, .int .i64 pw, .bool off]
set_option maxRecDepth 100000 in
set_option maxHeartbeats 1000000 in
theorem save_any (D S c M : Nat) (cv : Value) (x : DevS) (ok : x.Ok) (w : World) (m : DevMem w D S c M cv x) :
    Calls Tryz.prog 106 #[.pointer (some ⟨D, 0, none⟩)] w fun e w' => ∃ sv cv', e = .returned (.agg (stateC sv cv' x.taken x.power x.off)) ∧ w'.ownsRow w.heap.size 204 128 sv x.stable.length (x.stable.flatMap secV) ∧ w'.ownsRow w.heap.size 206 129 cv' x.cache.length (x.cache.flatMap dwV) ∧ Below w.heap.size w w' := by
  obtain ⟨A, cc, g, hcv, hA⟩ := cv_form m
  subst hcv
  have hL := ok.len
  have hN := ok.hi
  have bD := m.dev
  unfold devC at bD
  have hok := fun W (b : Blk W D 210 #[.slice (some ⟨S, 0, none⟩) x.stable.length c, .slice A x.cache.length cc, .int .i64 x.taken, .int .i64 x.power, .bool x.off, .map (some M)]) => devOk_any D S x.stable.length c (.slice A x.cache.length cc) x.taken x.power x.off M W b
  obtain ⟨w0, hw0⟩ : ∃ w0, w0 = w.alloc (.cells (stateC (.slice none 0 0) (.slice none 0 0) 0 0 false) 152) := ⟨_, rfl⟩
  obtain ⟨w1, hw1⟩ : ∃ w1, w1 = w0.alloc (.cells (stateC (.slice (some ⟨S, 0, none⟩) x.stable.length c) (.slice A x.cache.length cc) x.taken x.power x.off) 152) := ⟨_, rfl⟩
  have bD0 : Blk w0 D 210 #[.slice (some ⟨S, 0, none⟩) x.stable.length c, .slice A x.cache.length cc, .int .i64 x.taken, .int .i64 x.power, .bool x.off, .map (some M)] := by rw [hw0]; exact bD.alloc _
  have bR1 : Blk w1 w.heap.size 152 (stateC (.slice none 0 0) (.slice none 0 0) 0 0 false) := by rw [hw1, hw0]; exact (Blk.new _ _ _).alloc _
  have bS1 : Blk w1 (w.heap.size + 1) 152 (stateC (.slice (some ⟨S, 0, none⟩) x.stable.length c) (.slice A x.cache.length cc) x.taken x.power x.off) := by rw [hw1, hw0]; exact Blk.new' (by simp)
  have B0 : Below w.heap.size w w0 := by rw [hw0]; (repeat' (first | (with_reducible exact Below.refl _ _) | (with_reducible assumption) | (with_reducible refine Below.alloc ?_ ?_ _) | (with_reducible refine Below.drew ?_) | (with_reducible refine below_drewN' ?_ _) | (with_reducible refine Below.setCell ?_ ?_ _) | (with_reducible exact Nat.le_refl _) | omega | (simp; done) | (simp; omega)))
  have B1 : Below w.heap.size w w1 := by rw [hw1]; exact B0.alloc B0.size _
  have Rs : Reads w (some ⟨S, 0, none⟩) (x.stable.flatMap secV) := .inr ⟨S, 0, rfl, (m.sta.lt S rfl).2, fun j u hu => by rw [Nat.zero_add]; exact own_cell m.sta hu⟩
  have Rc : Reads w A (x.cache.flatMap dwV) := by
    by_cases h0 : 0 < x.cache.length
    · have hA' := hA h0
      subst hA'
      exact .inr ⟨g, 0, rfl, (m.cac.lt g rfl).2, fun j u hu => by rw [Nat.zero_add]; exact own_cell m.cac hu⟩
    · left
      have : x.cache = [] := List.eq_nil_of_length_eq_zero (by omega)
      rw [this]; rfl
  have lenS : (x.stable.flatMap secV).length = x.stable.length * 128 := m.sta.1
  have lenC : (x.cache.flatMap dwV).length = x.cache.length * 129 := m.cac.1
  have oneS : ∀ u ∈ x.stable.flatMap secV, u.oneCell' = true := fun u hu => by
    obtain ⟨s, _, hs⟩ := List.mem_flatMap.1 hu
    exact secV_one s u hs
  have oneC : ∀ u ∈ x.cache.flatMap dwV, u.oneCell' = true := fun u hu => by
    obtain ⟨s, _, hs⟩ := List.mem_flatMap.1 hu
    exact dwV_one s u hs
  have hAn : A = none → x.cache.length = 0 := fun h => by
    by_cases h0 : 0 < x.cache.length
    · have := hA h0; rw [h] at this; cases this
    · omega
  have cl1 := clone_sec (some ⟨S, 0, none⟩) x.stable.length c (x.stable.flatMap secV) lenS (by omega) w1.drew ((Rs.below B1).below (Below.refl _ _).drew) (fun h => by cases h) oneS
  have cD0 := bD0.cells
  have lD0 := bD0.lt
  have hS0 : w1.cell? ⟨w.heap.size + 1, 0, none⟩ = some (.slice (some ⟨S, 0, none⟩) x.stable.length c) ∧ w1.cell? ⟨w.heap.size + 1, 1, none⟩ = some (.slice A x.cache.length cc) := ⟨by rw [bS1.cells]; rfl, by rw [bS1.cells]; rfl⟩
  have Rc1 := Rc.below B1
  clear Rs Rc B0 bD m
  have hok0 := hok w0 bD0
  have hz0 : w0.heap.size = w.heap.size + 1 := by rw [hw0]; simp
  have z1 := B1.size
  have HZ0 := Lib.hid hz0
  clear hz0
  have HW1 := Lib.hid hw1
  unfold stateC at hw0 hw1 bR1 bS1
  go_enter Tryz.func106, Tryz.ntmps106
  go_wp2_with fail
  rw [← hw0]
  refine hok0.mono ?_
  rintro e w' ⟨rfl, hw'⟩
  replace hw' := hw'.symm
  subst hw'
  clear hok0 hok hw0
  go_wp2_with fail
  rw [← hw1, HZ0.out]
  clear hw1 cD0 lD0
  refine wp_region_mix [.take 0, .take 1, .take 3, .take 4, .one 2, .take 6, .one 5, .one 7, .one 8, .one 9] 7 (fun w' => w'.cell? ⟨w.heap.size + 1, 0, none⟩ = some (.slice (some ⟨S, 0, none⟩) x.stable.length c) ∧ w'.cell? ⟨w.heap.size + 1, 1, none⟩ = some (.slice A x.cache.length cc)) (by kernel_rfl) (by kernel_rfl) (fun _ _ _ _ _ h => h) hS0 ?_
  simp only [List.map_cons, List.map_nil, Ms.fill, List.getD_cons_zero, List.getD_cons_succ]
  iterate 4 (refine mixT_take (by rfl) ?_ (fun w' hw' => ?_) ?_; rotate_left; (focus (go_simp; (try with_reducible rfl))); (try simp only [Act.put, List.setIfInBounds_toArray, List.set_cons_zero, List.set_cons_succ]))
  refine mixT_step (by rfl) fun K hK => ?_
  go_simp
  refine cl1.mono ?_
  rintro e w2 ⟨sv, rfl, ownS, hb2⟩
  have bS2 := bS1.drew.belowAll hb2
  have bR2 := bR1.drew.belowAll hb2
  have B2 : Below w.heap.size w w2 := B1.drew.trans (hb2.mono z1)
  have Rc2 := (Rc1.below (Below.refl _ _).drew).below hb2
  have ownS2 : w2.ownsRow w.heap.size 204 128 sv x.stable.length (x.stable.flatMap secV) := own_base ownS z1
  have hsv : ∀ g, sv.ownBlock = some g → w1.heap.size ≤ g := fun g e => (ownS.lt g e).1
  have z2 : w1.heap.size ≤ w2.heap.size := hb2.size
  refine hK _ _ (fun _ => ⟨by rw [bS2.cells]; rfl, by rw [bS2.cells]; rfl⟩) ?_
  clear hK K cl1 hb2 hS0 bS1 bR1 Rc1 ownS
  iterate 1 (refine mixT_take (by rfl) ?_ (fun w' hw' => ?_) ?_; rotate_left; (focus (go_simp; (try with_reducible rfl))); (try simp only [Act.put, List.setIfInBounds_toArray, List.set_cons_zero, List.set_cons_succ]))
  refine mixT_step (by rfl) fun K hK => ?_
  go_simp
  refine (clone_dvw A x.cache.length cc (x.cache.flatMap dwV) lenC (by omega) w2 Rc2 hAn oneC).mono ?_
  rintro e w3 ⟨cv', rfl, ownC, hb3⟩
  have bS3 := bS2.belowAll hb3
  have bR3 := bR2.belowAll hb3
  have B3 : Below w.heap.size w w3 := B2.trans (hb3.mono B2.size)
  have ownS3 := own_below ownS2 hb3
  have ownC3 : w3.ownsRow w.heap.size 206 129 cv' x.cache.length (x.cache.flatMap dwV) := own_base ownC B2.size
  have hcv' : ∀ g, cv'.ownBlock = some g → w1.heap.size ≤ g := fun g e => Nat.le_trans z2 (ownC.lt g e).1
  refine hK _ _ (fun _ => ⟨by rw [bS3.cells]; rfl, by rw [bS3.cells]; rfl⟩) ?_
  clear hK K hb3 bS2 bR2 B2 Rc2 ownS2 ownC z2
  obtain ⟨S', c', rfl, -, -⟩ := own_form ownS3 (by have := ok.lo; omega)
  obtain ⟨A', cc', g', hcv2, -⟩ : ∃ A' cc' g', cv' = .slice A' x.cache.length cc' ∧ (0 < x.cache.length → A' = some ⟨g', 0, none⟩) := by
    rcases ownC3.2 with ⟨rfl, h0⟩ | ⟨g, cap, cur, rfl, -⟩
    · exact ⟨none, 0, 0, by rw [h0], by omega⟩
    · exact ⟨_, cap, g, rfl, fun _ => rfl⟩
  subst hcv2
  have cS3 := bS3.cells
  have fS3 := bS3.free
  have lS3 := bS3.lt
  refine mixT_step (by rfl) fun K hK => ?_
  go_simp
  refine hK _ _ (fun h => absurd h (by decide)) ?_
  clear hK K
  refine mixT_step (by rfl) fun K hK => ?_
  go_simp
  refine hK _ _ (fun h => absurd h (by decide)) ?_
  clear hK K
  refine mixT_step (by rfl) fun K hK => ?_
  go_simp
  refine hK _ _ (fun h => absurd h (by decide)) ?_
  clear hK K
  refine mixT_nil ?_
  obtain ⟨w4, hw4⟩ : ∃ w4, w4 = (w3.setCell ⟨w.heap.size + 1, 0, none⟩ (.slice (some ⟨S', 0, none⟩) x.stable.length c')).setCell ⟨w.heap.size + 1, 1, none⟩ (.slice A' x.cache.length cc') := ⟨_, rfl⟩
  have zz : w.heap.size + 1 < w1.heap.size := by have := HZ0.out; rw [HW1.out]; simp; omega
  have bS4 : Blk w4 (w.heap.size + 1) 152 #[.slice (some ⟨S', 0, none⟩) x.stable.length c', .slice A' x.cache.length cc', .int .i64 x.taken, .int .i64 x.power, .bool x.off] := by rw [hw4]; exact (bS3.set_ 0 _).set_ 1 _
  have bR4 : Blk w4 w.heap.size 152 #[.slice none 0 0, .slice none 0 0, .int .i64 0, .int .i64 0, .bool false] := by rw [hw4]; exact (bR3.far (by simp) _).far (by simp) _
  have B4 : Below w.heap.size w w4 := by rw [hw4]; exact (B3.setCell (by simp) _).setCell (by simp) _
  have k4 : KeepEx w3.heap.size [w.heap.size + 1] w3 w4 := by rw [hw4]; exact (KeepEx.setCell _ (.inl (by simp)) _).trans (KeepEx.setCell _ (.inl (by simp)) _)
  rw [← hw4]
  clear hw4 cS3 fS3 lS3 bS3 bR3 B3
  have ownS4 := own_block ownS3 (fun g e => k4.block g (ownS3.lt g e).2 (by have := hsv g e; simp; omega))
  have ownC4 := own_block ownC3 (fun g e => k4.block g (ownC3.lt g e).2 (by have := hcv' g e; simp; omega))
  have cS4 := bS4.cells
  have lS4 := bS4.lt
  have cR4 := bR4.cells
  have fR4 := bR4.free
  have lR4 := bR4.lt
  have hst := storeRow' (ty := 152) (vs := stateC (.slice (some ⟨S', 0, none⟩) x.stable.length c') (.slice A' x.cache.length cc') x.taken x.power x.off) bR4 rfl (by simp [stateC, Value.oneCell']) (by kernel_rfl)
  unfold stateC at hst
  clear fR4 cR4 lR4
  go_wp2_with (refine wpList_storeBy rfl _ _ _ rfl _ _ rfl rfl hst ?_)
  have bR5 := bR4.setRow (cs' := #[.slice (some ⟨S', 0, none⟩) x.stable.length c', .slice A' x.cache.length cc', .int .i64 x.taken, .int .i64 x.power, .bool x.off])
  have cR5 := bR5.cells
  have k5 : KeepEx w4.heap.size [w.heap.size] w4 (w4.setRow w.heap.size #[.slice (some ⟨S', 0, none⟩) x.stable.length c', .slice A' x.cache.length cc', .int .i64 x.taken, .int .i64 x.power, .bool x.off]) := KeepEx.setRow _ (.inl (by simp)) _
  refine bodyPost_ret (v := .agg #[.slice (some ⟨S', 0, none⟩) x.stable.length c', .slice A' x.cache.length cc', .int .i64 x.taken, .int .i64 x.power, .bool x.off]) (by simp [results, Tryz.results106, go_sem, cR5]) rfl ?_
  exact ⟨_, _, rfl, own_block ownS4 (fun g e => k5.block g (ownS4.lt g e).2 (by have := hsv g e; simp; omega)), own_block ownC4 (fun g e => k5.block g (ownC4.lt g e).2 (by have := hcv' g e; simp; omega)), Below.setRow B4 (Nat.le_refl _) _⟩

end Go.Proofs.YtjocnooekgnedaaGreatDoor
/- Layer 6: Load of a device without a cache; New. -/
namespace Go.Proofs.YtjocnooekgnedaaGreatDoor
open Go.RowKit Go.Maps

set_option maxRecDepth 100000 in
set_option maxHeartbeats 400000 in
theorem indexDv_nil (fv : Value) (w : World) :
    Calls Tryz.prog 150 #[.slice none 0 0, fv] w fun e w' => e = .returned (.int .i64 (-1)) ∧ w' = w := by
  go_enter Tryz.func150, Tryz.ntmps150
  go_wp2_with fail
  refine wp_loop_rounds 1 ?_
  rw [rounds_succ]
  go_wp2_with fail
  go_ret
  exact ⟨rfl, rfl⟩
set_option maxRecDepth 100000 in
set_option maxHeartbeats 400000 in
theorem containsDv_nil (fv : Value) (w : World) :
    Calls Tryz.prog 104 #[.slice none 0 0, fv] w fun e w' => e = .returned (.bool false) ∧ w' = w := by
  go_enter Tryz.func104, Tryz.ntmps104
  go_wp2_with fail
  refine (indexDv_nil fv w).mono ?_
  rintro e w1 ⟨rfl, rfl⟩
  go_wp2_with fail
  go_ret
  exact ⟨rfl, rfl⟩

set_option maxRecDepth 100000 in
set_option maxHeartbeats 2000000 in
theorem load_fresh (S c : Nat) (x : DevS) (ok : x.Ok) (hc : x.cache = []) (w : World) (hH : HalfAt w) (own : w.ownsRow 0 204 128 (.slice (some ⟨S, 0, none⟩) x.stable.length c) x.stable.length (x.stable.flatMap secV)) :
    Calls Tryz.prog 69 #[.agg #[.slice (some ⟨S, 0, none⟩) x.stable.length c, .slice none 0 0, .int .i64 x.taken, .int .i64 x.power, .bool x.off]] w fun e w' =>
      ∃ D F, e = .returned (.tuple #[.pointer (some ⟨D, 0, none⟩), .int .i64 0]) ∧ DevAt w' D F x ∧ Below w.heap.size w w' ∧ ∀ b ∈ F, w.heap.size ≤ b := by
  have hmf : ∀ (fn : Fn) (first cap : Array Value) (w : World), (Instr.makeFunc fn first cap).run Tryz.prog w = .ok (.func fn first cap) w := fun _ _ _ _ => rfl
  have hlo := ok.lo
  have hhi := ok.hi
  have htk := ok.tk
  have hpw := ok.pw
  have d1 : decide ((x.stable.length : Int) < 64) = false := decide_eq_false (by omega)
  have d2 : decide (256 < (x.stable.length : Int)) = false := decide_eq_false (by omega)
  have d3 : decide (x.taken < 0) = false := decide_eq_false (by omega)
  have d4 : decide (1000000000000 < x.taken) = false := decide_eq_false (by omega)
  have d5 : decide (x.power < -1) = false := decide_eq_false (by omega)
  have d6 : decide (1000000000000 < x.power) = false := decide_eq_false (by omega)
  have hmm := @run_makeMap Tryz.prog
  obtain ⟨w0, hw0⟩ : ∃ w0, w0 = (w.alloc (.cells #[.slice (some ⟨S, 0, none⟩) x.stable.length c, .slice none 0 0, .int .i64 x.taken, .int .i64 x.power, .bool x.off] 152)).alloc (.cells #[.int .i64 x.stable.length] 3) := ⟨_, rfl⟩
  have b0 : Blk w0 w.heap.size 152 #[.slice (some ⟨S, 0, none⟩) x.stable.length c, .slice none 0 0, .int .i64 x.taken, .int .i64 x.power, .bool x.off] := by rw [hw0]; exact (by (repeat' (first | (with_reducible assumption) | exact Blk.new' (by simp) | refine Blk.alloc ?_ _)))
  have b1 : Blk w0 (w.heap.size + 1) 3 #[.int .i64 x.stable.length] := by rw [hw0]; exact (by (repeat' (first | (with_reducible assumption) | exact Blk.new' (by simp) | refine Blk.alloc ?_ _)))
  have B0 : Below w.heap.size w w0 := by rw [hw0]; (repeat' (first | (with_reducible exact Below.refl _ _) | (with_reducible assumption) | (with_reducible refine Below.alloc ?_ ?_ _) | (with_reducible refine Below.drew ?_) | (with_reducible refine below_drewN' ?_ _) | (with_reducible refine Below.setCell ?_ ?_ _) | (with_reducible exact Nat.le_refl _) | omega | (simp; done) | (simp; omega)))
  have z0 : w0.heap.size = w.heap.size + 2 := by rw [hw0]; simp
  have c0 := b0.cells
  have l0 := b0.lt
  have c1 := b1.cells
  have l1 := b1.lt
  have HZ := Lib.hid z0
  clear z0
  go_enter Tryz.func69, Tryz.ntmps69
  go_wp2_with fail
  rw [← hw0]
  go_wp2_with fail
  refine (containsDv_nil _ w0).mono ?_
  rintro e w' ⟨rfl, hw'⟩
  replace hw' := hw'.symm
  subst hw'
  clear hw0
  go_wp2_with fail
  obtain ⟨W, hW⟩ : ∃ W, W = (w0.alloc (.map #[] 0)).alloc (.cells #[.slice (some ⟨S, 0, none⟩) x.stable.length c, .slice none 0 0, .int .i64 x.taken, .int .i64 x.power, .bool x.off, .map (some w0.heap.size)] 210) := ⟨_, rfl⟩
  have hc0 : x.cache.length = 0 := by rw [hc]; rfl
  have BW : Below w.heap.size w W := by rw [hW]; exact (B0.alloc B0.size _).alloc (by have := B0.size; simp; omega) _
  have bP : Blk W w.heap.size 152 #[.slice (some ⟨S, 0, none⟩) x.stable.length c, .slice none 0 0, .int .i64 x.taken, .int .i64 x.power, .bool x.off] := by rw [hW]; exact (b0.alloc _).alloc _
  have mW : DevMem W (w0.heap.size + 1) S c w0.heap.size (.slice none 0 0) x := by
    refine ⟨by rw [hW]; exact Blk.new' (by simp), own_below own BW, ?_, ?_⟩
    · rw [hc]; exact World.ownsRow_nil _ _ _ _
    · rw [hc, hW]
      exact (World.ownsMap_made _ _ _ _).alloc _
  have zW : W.heap.size = w0.heap.size + 2 := by rw [hW]; simp
  have HZW := Lib.hid zW
  rw [← hW]
  clear hW hmm zW c0 l0 c1 l1 b0 b1
  refine (save_any _ S c _ _ x ok W mW).mono ?_
  rintro e w3 ⟨sv, cv', rfl, ownS, ownC, hb3⟩
  obtain ⟨S', c', rfl, hS1, hS2⟩ := own_form ownS (by omega)
  obtain ⟨A', cc', hcv2, hA'⟩ : ∃ A' cc', cv' = .slice A' x.cache.length cc' ∧ (∀ g, cv'.ownBlock = some g → W.heap.size ≤ g ∧ g < w3.heap.size) := by
    refine (fun h => ?_) (fun g e => ownC.lt g e : ∀ g, cv'.ownBlock = some g → W.heap.size ≤ g ∧ g < w3.heap.size)
    rcases ownC.2 with ⟨rfl, h0⟩ | ⟨g, cap, cur, rfl, -⟩
    · exact ⟨none, 0, by rw [h0], h⟩
    · exact ⟨_, cap, rfl, h⟩
  rw [hcv2] at ownC hA'
  subst hcv2
  have bD3 := mW.dev.belowAll hb3
  have bP3 := bP.belowAll hb3
  have B3 : Below w.heap.size w w3 := BW.trans (hb3.mono BW.size)
  have mp3 := map_block mW.map (hb3.block _ mW.map.lt)
  have z3 : w0.heap.size + 2 ≤ w3.heap.size := by have := hb3.size; have := HZW.out; omega
  have hS1' : w0.heap.size + 2 ≤ S' := by have := HZW.out; omega
  have hA2 : ∀ g, (Value.slice A' x.cache.length cc').ownBlock = some g → w0.heap.size + 2 ≤ g ∧ g < w3.heap.size := fun g e => by have := hA' g e; have := HZW.out; omega
  clear hA' hb3 bP BW mW
  unfold devC at bD3
  have cD3 := bD3.cells
  have fD3 := bD3.free
  have lD3 := bD3.lt
  have cP3 := bP3.cells
  have lP3 := bP3.lt
  unfold stateC
  have nPD : w.heap.size ≠ w0.heap.size + 1 := by have := HZ.out; omega
  go_wp2_with fail
  refine wp_loop_rounds 1 ?_
  rw [rounds_succ]
  go_wp2_with fail
  go_ret2
  obtain ⟨W5, hW5⟩ : ∃ W5, W5 = ((((w3.setCell ⟨w0.heap.size + 1, 0, none⟩ (.slice (some ⟨S', 0, none⟩) x.stable.length c')).setCell ⟨w0.heap.size + 1, 1, none⟩ (.slice A' x.cache.length cc')).setCell ⟨w0.heap.size + 1, 2, none⟩ (.int .i64 x.taken)).setCell ⟨w0.heap.size + 1, 3, none⟩ (.int .i64 x.power)).setCell ⟨w0.heap.size + 1, 4, none⟩ (.bool x.off) := ⟨_, rfl⟩
  have bD5 : Blk W5 (w0.heap.size + 1) 210 (devC S' x.stable.length c' (.slice A' x.cache.length cc') x.taken x.power x.off w0.heap.size) := by
    rw [hW5]; exact ((((bD3.set_ 0 _).set_ 1 _).set_ 2 _).set_ 3 _).set_ 4 _
  have k5 : KeepEx w3.heap.size [w0.heap.size + 1] w3 W5 := by
    rw [hW5]
    exact ((((KeepEx.setCell _ (.inl (by simp)) _).trans (KeepEx.setCell _ (.inl (by simp)) _)).trans (KeepEx.setCell _ (.inl (by simp)) _)).trans (KeepEx.setCell _ (.inl (by simp)) _)).trans (KeepEx.setCell _ (.inl (by simp)) _)
  have z5 := k5.size
  have hz0 := HZ.out
  have zz0 := B0.size
  have B5 : Below w.heap.size w W5 := B3.trans (k5.toBelow B3.size (by intro k hk; simp at hk; omega))
  have lS : S' < w3.heap.size := hS2
  rw [hc0] at hW5
  rw [← hW5]
  refine ⟨w0.heap.size + 1, [w0.heap.size + 1, S', w0.heap.size] ++ (Value.slice A' x.cache.length cc').ownBlock.toList, rfl, ⟨ok, hH.below B5 hH.1, ⟨S', c', w0.heap.size, .slice A' x.cache.length cc', ⟨bD5, ?_, ?_, ?_⟩, by simp, by simp, by simp, fun g e => by simp [e]⟩, fun b hb => ?_⟩, B5, fun b hb => ?_⟩
  · exact own_block (own_base ownS (Nat.zero_le _)) (fun g e => by cases e; exact k5.block S' lS (by simp; omega))
  · exact own_block (own_base ownC (Nat.zero_le _)) (fun g e => k5.block g (hA2 g e).2 (by have := hA2 g e; simp; omega))
  · exact map_block mp3 (k5.block _ (by omega) (by simp))
  · rcases List.mem_append.1 hb with hb | hb
    · simp at hb
      have := hH.1
      rcases hb with rfl | rfl | rfl <;> omega
    · have := hA2 b (by simpa using hb)
      have := hH.1
      omega
  · rcases List.mem_append.1 hb with hb | hb
    · simp at hb
      rcases hb with rfl | rfl | rfl <;> omega
    · have := hA2 b (by simpa using hb)
      omega

/-- A new device. -/
def newDev (n : Nat) : DevS := ⟨List.replicate n zsec, [], 0, -1, false⟩
theorem newDev_ok {n : Nat} (h : 64 ≤ n ∧ n ≤ 256) : (newDev n).Ok :=
  ⟨by show 64 ≤ (List.replicate n zsec).length; simp; omega, by show (List.replicate n zsec).length ≤ 256; simp; omega, fun s hs => by
    obtain rfl := List.eq_of_mem_replicate hs
    exact ⟨zsec_length, zsec_bytes⟩, fun p hp => (by cases hp), by show 0 ≤ 400; omega, by show (0 : Int) ≤ 0 ∧ (0 : Int) ≤ 1000000000000; omega, by show (-1 : Int) ≤ -1 ∧ (-1 : Int) ≤ 1000000000000; omega⟩
theorem flat_len (n : Nat) : ((List.replicate n zsec).flatMap secV).length = n * 128 := by
  induction n with
  | zero => rfl
  | succ n ih => rw [List.replicate_succ, List.flatMap_cons, List.length_append, ih, secV_length, zsec_length, Nat.add_mul]; omega
theorem flat_zero (n : Nat) : ∀ u ∈ (List.replicate n zsec).flatMap secV, u = .int .u8 0 := by
  intro u hu
  obtain ⟨s, hs, hu⟩ := List.mem_flatMap.1 hu
  obtain rfl := List.eq_of_mem_replicate hs
  unfold secV at hu
  obtain ⟨y, hy, rfl⟩ := List.mem_map.1 hu
  rw [List.eq_of_mem_replicate (show y ∈ List.replicate 128 (0 : Int) from hy)]
theorem made_zero (k : Nat) : ∀ u ∈ (madeCells (fill (.int .u8 0) 128) k).toList, u = Value.int .u8 0 := by
  intro u hu
  unfold madeCells at hu
  simp only [Array.toList_map, List.mem_map] at hu
  obtain ⟨i, -, rfl⟩ := hu
  rw [fill_eq]
  have hlt : i % (Array.replicate 128 (Value.int .u8 0)).size < (Array.replicate 128 (Value.int .u8 0)).size := by rw [Array.size_replicate]; exact Nat.mod_lt _ (by omega)
  rw [getElem!_pos (Array.replicate 128 (Value.int .u8 0)) _ hlt]
  simp
theorem made_flat (n : Nat) : madeCells (fill (.int .u8 0) 128) (n * 128) = ((List.replicate n zsec).flatMap secV).toArray := by
  apply Array.toList_inj.1
  rw [List.eq_replicate_of_mem (made_zero (n * 128)), List.eq_replicate_of_mem (flat_zero n)]
  simp only [Array.length_toList, flat_len, size_madeCells]

set_option maxRecDepth 100000 in
set_option maxHeartbeats 1000000 in
theorem new_dev (n : Nat) (hn : 64 ≤ n ∧ n ≤ 256) (w : World) (hH : HalfAt w) :
    Calls Tryz.prog 46 #[.int .i64 n] w fun e w' => ∃ D F, e = .returned (.tuple #[.pointer (some ⟨D, 0, none⟩), .int .i64 0]) ∧ DevAt w' D F (newDev n) ∧ Below w.heap.size w w' ∧ ∀ b ∈ F, w.heap.size ≤ b := by
  have hmin : min (n : Int) 257 = n := by omega
  obtain ⟨i, hi, hz, hsz, hby⟩ := info_parts Tryz.infoSec3
  have hmk := run_make (P := Tryz.prog) w 149 204 i _ Tryz.underlying149 hi hz .i64 .i64 n n (by omega) (Int.le_refl _) (by rw [hby]; omega) (by omega)
  rw [Int.toNat_natCast, hsz] at hmk
  obtain ⟨w0, hw0⟩ : ∃ w0, w0 = w.alloc (.cells ((List.replicate n zsec).flatMap secV).toArray 204) := ⟨_, rfl⟩
  have hmk2 : (Instr.makeSlice 149 (.int .i64 n) (.int .i64 n)).run Tryz.prog w = .ok (.slice (some ⟨w.heap.size, 0, none⟩) n n) w0 := by
    rw [hmk, hw0]
    show Result.ok _ (w.alloc (.cells (madeCells (fill (.int .u8 0) 128) (n * 128)) 204)) = _
    rw [made_flat]
  have B0 : Below w.heap.size w w0 := by rw [hw0]; exact (Below.refl _ _).alloc (Nat.le_refl _) _
  have own : w0.ownsRow 0 204 128 (.slice (some ⟨w.heap.size, 0, none⟩) n n) n ((List.replicate n zsec).flatMap secV) := by
    refine ⟨flat_len n, .inr ⟨w.heap.size, n, _, rfl, Nat.zero_le _, by rw [hw0]; exact heap_alloc_new w _, Nat.le_refl _, by simp only [maxLen]; omega, by simp only [List.size_toArray]; exact flat_len n, ?_⟩⟩
    rw [List.take_of_length_le (by rw [flat_len n]; exact Nat.le_refl _)]
  have hld := load_fresh w.heap.size n (newDev n) (newDev_ok hn) rfl w0 (hH.below B0 hH.1) (by
    show w0.ownsRow 0 _ 128 (.slice (some ⟨w.heap.size, 0, none⟩) (List.replicate n zsec).length n) (List.replicate n zsec).length _
    rw [List.length_replicate]
    exact own)
  have hld2 : Calls Tryz.prog 69 #[.agg #[.slice (some ⟨w.heap.size, 0, none⟩) n n, .slice none 0 0, .int .i64 0, .int .i64 (-1), .bool false]] w0 fun e w' => ∃ D F, e = .returned (.tuple #[.pointer (some ⟨D, 0, none⟩), .int .i64 0]) ∧ DevAt w' D F (newDev n) ∧ Below w0.heap.size w0 w' ∧ ∀ b ∈ F, w0.heap.size ≤ b := by
    have e : (newDev n).stable.length = n := List.length_replicate
    rw [e] at hld
    exact hld
  clear hmk hld hi hz hsz hby own hw0
  go_enter Tryz.func46, Tryz.ntmps46
  go_wp2_with fail
  refine hld2.mono ?_
  rintro e w1 ⟨D, F, rfl, hd, hb, hF⟩
  go_wp2_with fail
  go_ret2
  exact ⟨D, F, rfl, hd, B0.trans (hb.mono B0.size), fun b hm => Nat.le_trans B0.size (hF b hm)⟩

end Go.Proofs.YtjocnooekgnedaaGreatDoor
