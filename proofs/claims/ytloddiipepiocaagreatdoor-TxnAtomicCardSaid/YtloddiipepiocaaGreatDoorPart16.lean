/- Layer 9: Log's closures. -/
import Derived.Test.YtloddiipepiocaaGreatDoorPart15
set_option linter.unusedVariables false
set_option linter.unusedSimpArgs false
namespace Go.Proofs.YtloddiipepiocaaGreatDoor
open Go.RowKit Go.Maps

theorem Grow.box {w w1 w' : World} {g : Nat} {B B' : List Nat} (h1 : KeepEx w.heap.size [g] w w1) (h : Grow w1 B w' B') : Grow w (g :: B) w' (g :: B') :=
  ⟨⟨h.keep.os.trans h1.os, h.keep.tape.trans h1.tape, h.keep.output.trans h1.output, Nat.le_trans h1.size h.keep.size, fun k hk hn => by
      have n1 : k ≠ g := fun e => hn (by simp [e])
      have n2 : k ∉ B := fun e => hn (by simp [e])
      exact (h.keep.block k (Nat.lt_of_lt_of_le hk h1.size) n2).trans (h1.block k hk (by simpa using n1))⟩,
   fun b hb => by
    rcases List.mem_cons.1 hb with rfl | hb
    · exact .inl (by simp)
    · rcases h.new b hb with e | e
      · exact .inl (by simp [e])
      · exact .inr (Nat.le_trans h1.size e)⟩
theorem Grow.cons_ {w w' : World} {B B' : List Nat} (h : Grow w B w' B') (g : Nat) : Grow w (g :: B) w' (g :: B') := Grow.box (KeepEx.refl _ _ _) h

set_option maxRecDepth 100000 in
set_option maxHeartbeats 1000000 in
theorem logPut (D PA PD PQ : Nat) (a kind q : Int) (ha : 0 ≤ a ∧ a ≤ 1000000) (hq : 0 ≤ q ∧ q < 4294967296) (s : ByteArray) (hs : s.size ≤ maxLen) (B : List Nat) (x : DevS) (w : World) (h : DevAt w D B x)
    (bA : Blk w PA 3 #[.int .i64 a]) (nA : PA ∉ B) (nA0 : PA ≠ 0) (bD : Blk w PD 45 #[.pointer (some ⟨D, 0, none⟩)]) (nAD : PA ≠ PD) (bQ : Blk w PQ 24 #[.int .u32 q]) (nAQ : PA ≠ PQ) :
    Calls Tryz.prog 163 #[.int .i64 kind, .string s, .pointer (some ⟨PA, 0, none⟩), .pointer (some ⟨PD, 0, none⟩), .pointer (some ⟨PQ, 0, none⟩)] w fun e w' =>
      e = .returned (.int .i64 (x.put (a + 1) kind (next q) s).1) ∧ ∃ B', DevAt w' D B' (x.put (a + 1) kind (next q) s).2 ∧ Grow w (PA :: B) w' (PA :: B') ∧ Blk w' PA 3 #[.int .i64 (a + 1)] ∧ PA ∉ B' := by
  have hw : IntKind.i64.wrap (a + 1) = a + 1 := by rw [IntKind.wrap_i64]; omega
  have cA := bA.cells
  have fA := bA.free
  have lA := bA.lt
  have cD := bD.cells
  have lD := bD.lt
  have cQ := bQ.cells
  have lQ := bQ.lt
  have hd : DevAt (w.setCell ⟨PA, 0, none⟩ (.int .i64 (a + 1))) D B x := h.set_ nA nA0 _
  have hp := put_dev D B x (a + 1) kind ((q + 1) % 4294967296) s hs (by omega) _ hd
  have bA1 : Blk (w.setCell ⟨PA, 0, none⟩ (.int .i64 (a + 1))) PA 3 #[.int .i64 (a + 1)] := bA.set_ 0 _
  have k1 : KeepEx w.heap.size [PA] w (w.setCell ⟨PA, 0, none⟩ (.int .i64 (a + 1))) := KeepEx.setCell _ (.inl (by simp)) _
  unfold next
  go_enter Tryz.func163, Tryz.ntmps163
  go_wp2_with fail
  refine hp.mono ?_
  rintro e w1 ⟨rfl, B', hd1, g1⟩
  go_wp2_with fail
  go_ret
  exact ⟨rfl, B', hd1, Grow.box k1 g1, g1.blk bA1 nA, g1.notin nA bA1.lt⟩

theorem Grow.blk' {w w' : World} {F F' : List Nat} {g : Nat} {t : TypeId} {cs : Array Value} (h : Grow w F w' F') (b : Blk w g t cs) (hg : g ∉ F) : Blk w' g t cs ∧ g ∉ F' := ⟨h.blk b hg, h.notin hg b.lt⟩
theorem drop_cons {B : List Nat} {a g : Nat} (h1 : g ≠ a) (h2 : g ∉ B) : g ∉ a :: B := by simp; exact ⟨h1, h2⟩

set_option maxRecDepth 100000 in
set_option maxHeartbeats 1000000 in
theorem logEnd (D PA PD PQ PF PR : Nat) (a q : Int) (ha : 0 ≤ a ∧ a ≤ 1000000) (hq : 0 ≤ q ∧ q < 4294967296) (A : Option Addr) (n c : Nat) (hn : n ≤ 1000) (B : List Nat) (x : DevS) (w : World) (h : DevAt w D B x)
    (bA : Blk w PA 3 #[.int .i64 a]) (nA : PA ∉ B) (nA0 : PA ≠ 0) (bD : Blk w PD 45 #[.pointer (some ⟨D, 0, none⟩)]) (nAD : PA ≠ PD) (bQ : Blk w PQ 24 #[.int .u32 q]) (nAQ : PA ≠ PQ)
    (bF : Blk w PF 234 #[.func (.func 163) #[] #[.pointer (some ⟨PA, 0, none⟩), .pointer (some ⟨PD, 0, none⟩), .pointer (some ⟨PQ, 0, none⟩)]]) (nF : PF ∉ PA :: B) (bR : Blk w PR 54 #[.slice A n c]) (nR : PR ∉ PA :: B) :
    Calls Tryz.prog 164 #[.pointer (some ⟨PF, 0, none⟩), .pointer (some ⟨PR, 0, none⟩)] w fun e w' =>
      e = .returned (.int .i64 (x.put (a + 1) 3 (next q) (shortS n)).1) ∧ ∃ B', DevAt w' D B' (x.put (a + 1) 3 (next q) (shortS n)).2 ∧ Grow w (PA :: B) w' (PA :: B') := by
  have cF := bF.cells
  have cR := bR.cells
  have lF := bF.lt
  have lR := bR.lt
  have hS0 : w.cell? ⟨PF, 0, none⟩ = some (.func (.func 163) #[] #[.pointer (some ⟨PA, 0, none⟩), .pointer (some ⟨PD, 0, none⟩), .pointer (some ⟨PQ, 0, none⟩)]) ∧ w.cell? ⟨PR, 0, none⟩ = some (.slice A n c) := ⟨by rw [cF]; rfl, by rw [cR]; rfl⟩
  have hsh := short_any n w.drew
  go_enter Tryz.func164, Tryz.ntmps164
  go_wp2_with fail
  refine wp_region_mix [.take 0, .take 1, .take 2, .one 3, .one 4, .one 5] 6 (fun w' => w'.cell? ⟨PF, 0, none⟩ = some (.func (.func 163) #[] #[.pointer (some ⟨PA, 0, none⟩), .pointer (some ⟨PD, 0, none⟩), .pointer (some ⟨PQ, 0, none⟩)]) ∧ w'.cell? ⟨PR, 0, none⟩ = some (.slice A n c)) (by kernel_rfl) (by kernel_rfl) (fun _ _ _ _ _ h => h) hS0 ?_
  simp only [List.map_cons, List.map_nil, Ms.fill, List.getD_cons_zero, List.getD_cons_succ]
  iterate 3 (refine mixT_take (by rfl) ?_ (fun w' hw' => ?_) ?_; rotate_left; (focus (go_simp; (try with_reducible rfl))); (try simp only [Act.put, List.setIfInBounds_toArray, List.set_cons_zero, List.set_cons_succ]))
  refine mixT_step (by rfl) fun K hK => ?_
  go_simp
  refine hsh.mono ?_
  rintro e w1 ⟨rfl, hb1⟩
  have bF1 := bF.drew.belowAll hb1
  have bR1 := bR.drew.belowAll hb1
  have bA1 := bA.drew.belowAll hb1
  have bD1 := bD.drew.belowAll hb1
  have bQ1 := bQ.drew.belowAll hb1
  have h1 := h.drew.below hb1
  have g1 : Grow w (PA :: B) w1 (PA :: B) := Grow.of_below ((Below.refl w.heap.size w).drew.trans hb1) _
  refine hK _ _ (fun _ => ⟨by rw [bF1.cells]; rfl, by rw [bR1.cells]; rfl⟩) ?_
  clear hK K hsh cF cR lF lR hS0
  refine mixT_step (by rfl) fun K hK => ?_
  have cF := bF1.cells
  go_simp
  refine (logPut D PA PD PQ a 3 q ha hq (shortS n) (by show (strOfNums _).size ≤ _; rw [strOfNums_size]; simp [maxLen]) B x w1 h1 bA1 nA nA0 bD1 nAD bQ1 nAQ).mono ?_
  rintro e w2 ⟨rfl, B', h2, g2, -, -⟩
  have bF2 := g2.blk bF1 nF
  have bR2 := g2.blk bR1 nR
  have hS2 : w2.cell? ⟨PF, 0, none⟩ = some (.func (.func 163) #[] #[.pointer (some ⟨PA, 0, none⟩), .pointer (some ⟨PD, 0, none⟩), .pointer (some ⟨PQ, 0, none⟩)]) ∧ w2.cell? ⟨PR, 0, none⟩ = some (.slice A n c) := ⟨by rw [bF2.cells]; rfl, by rw [bR2.cells]; rfl⟩
  refine hK _ _ (fun _ => hS2) ?_
  clear hK K cF
  refine mixT_step (by rfl) fun K hK => ?_
  go_simp
  refine hK _ _ (fun _ => hS2) ?_
  clear hK K
  refine mixT_nil ?_
  go_wp2_with fail
  go_ret
  exact ⟨rfl, B', h2, g1.trans g2⟩

end Go.Proofs.YtloddiipepiocaaGreatDoor
