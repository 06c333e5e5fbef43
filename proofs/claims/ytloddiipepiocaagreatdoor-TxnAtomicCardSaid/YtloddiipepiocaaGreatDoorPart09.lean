/- Parts of the proof, put together by program: V3, V4, V5, V6, V7. -/
import Derived.Test.YtloddiipepiocaaGreatDoorPart08
import Derived.Test.YtloddiipepiocaaGreatDoorPart07
import Derived.MapFrom
set_option linter.unusedVariables false
set_option linter.unusedSimpArgs false
/- Layer 6: Read. -/
namespace Go.Proofs.YtloddiipepiocaaGreatDoor
open Go.RowKit Go.Maps

/-- A sector's bytes lie at a place. -/
def SecAt (w : World) (p : Addr) (xs : List Int) : Prop := xs.length = 128 ∧ p.spot = none ∧ ∀ j, j < 128 → w.cell? ⟨p.block, p.off + j, none⟩ = some (.int .u8 (xs.getD j 0))
theorem SecAt.load {w : World} {p : Addr} {xs : List Int} (h : SecAt w p xs) : (loadVar 42 p).run Tryz.prog w = .ok (.agg (bytesV xs)) w := by
  obtain ⟨hl, hsp, hc⟩ := h
  obtain ⟨b, off, spot⟩ := p
  simp only at hsp
  subst hsp
  have hload : (loadCells ⟨b, off, none⟩ 128).run Tryz.prog w = .ok (bytesV xs) w := by
    have := run_loadCells_list (P := Tryz.prog) w ⟨b, off, none⟩ (xs.map (Value.int .u8)) (fun j v hv => by
      have hadd : (⟨b, off, none⟩ : Addr).add j = ⟨b, off + j, none⟩ := by unfold Addr.add; split <;> simp_all
      rw [List.getElem?_map] at hv
      by_cases hj : j < xs.length
      · rw [List.getElem?_eq_getElem hj, Option.map_some, Option.some.injEq] at hv
        rw [hadd, hc j (by omega), ← hv]
        simp [List.getD_eq_getElem?_getD, hj]
      · rw [List.getElem?_eq_none (by omega)] at hv; cases hv)
    rw [List.length_map, hl] at this
    exact this
  have hag : (isAgg 42).run Tryz.prog w = .ok true w := by kernel_rfl
  have hsz : (sizeOf 42).run Tryz.prog w = .ok 128 w := by kernel_rfl
  unfold loadVar
  simp [hag, hsz, hload]
theorem wpList_loadSecAny {ops : Array Oper} {rest : List Oper} {o : Oper} {a : Act} {w : World} {Q : Exit → Act → World → Prop} (hgd : o.guard = none) (x : Operand) (ho : o.op = .load 42 x)
    (p : Addr) (hx : a.eval x = .pointer (some p)) {l : List Int} (hs : SecAt w p l)
    (h : wpList Tryz.prog ops Q rest (a.put o.dst (.agg (bytesV l))) w) : wpList Tryz.prog ops Q (o :: rest) a w := by
  refine wpList_plain hgd fun _ hK => ?_
  unfold Oper.wp execOp
  simp only [ho, hx, Instr.loadAt, Instr.sureAddr, Sem.run_bind, Sem.run_pure, Result.andThen_ok, hs.load]
  exact hK _ _ h

theorem results_sec {fn : Func} {m n R : Nat} {tmps : Array Value} {w : World} {t : TypeId} {l : List Int} {e : Int} (hr : fn.results = #[.cell m 42, .tmp n]) (hm : tmps.getD m undef = .pointer (some ⟨R, 0, none⟩)) (hn : tmps.getD n undef = .int .i64 e) (b : Blk w R t (bytesV l)) (hl : l.length = 128) :
    (results fn tmps).run Tryz.prog w = .ok (.tuple #[.agg (bytesV l), .int .i64 e]) w := by
  have h := b.loadSec hl
  have h1 : (asAddr (.pointer (some ⟨R, 0, none⟩))).run Tryz.prog w = .ok ⟨R, 0, none⟩ w := rfl
  have hm' : tmps[m]?.getD undef = .pointer (some ⟨R, 0, none⟩) := by simpa using hm
  have hn' : tmps[n]?.getD undef = .int .i64 e := by simpa using hn
  simp [results, hr, hm', hn', h1, h]
set_option maxRecDepth 100000 in
set_option maxHeartbeats 1000000 in
theorem read_any (D S n c g L cc : Nat) (A : Option Addr) (tk pw : Int) (off : Bool) (M q : Nat) (ats : List Int) (a : Int) (xs : List Int) (hL : ats.length = L) (hA : 0 < L → A = some ⟨g, 0, none⟩) (hn : n ≤ 1000) (hL2 : L ≤ 1000) (w : World)
    (bD : Blk w D 115 (devC S n c (.slice A L cc) tk pw off M)) (hM : w.ownsMap Tryz.prog 3 (plainElem Tryz.prog 3) M q (newestD ats L)) (hS : atE off n a = 0 → SecAt w (readsP S ats g a.toNat) xs ∧ (readsP S ats g a.toNat).block < w.heap.size) :
    Calls Tryz.prog 92 #[.pointer (some ⟨D, 0, none⟩), .int .i64 a] w fun e w' => Below w.heap.size w w' ∧ e = .returned (.tuple #[.agg (bytesV (if atE off n a = 0 then xs else zsec)), .int .i64 (atE off n a)]) := by
  have hz := zeroSector
  have bD1 : Blk (w.alloc (.cells (bytesV zsec) 42)) D 115 (devC S n c (.slice A L cc) tk pw off M) := bD.alloc _
  have bR1 : Blk (w.alloc (.cells (bytesV zsec) 42)) w.heap.size 42 (bytesV zsec) := Blk.new _ _ _
  have lD := bD.lt
  by_cases hE : atE off n a = 0
  · rw [if_pos hE]
    obtain ⟨hS, hSb⟩ := hS hE
    have hxl := hS.1
    have ha : 0 ≤ a ∧ a < (n : Int) := by
      unfold atE at hE
      cases off
      · simp only [Bool.false_eq_true, if_false] at hE
        split at hE
        · omega
        · omega
      · simp at hE
    obtain ⟨an, rfl⟩ := Int.eq_ofNat_of_zero_le ha.1
    rw [Int.toNat_natCast] at hS hSb
    have hat := at_any D S n c (.slice A L cc) tk pw off M an _ bD1
    rw [hE] at hat ⊢
    have hrd := reads_any D S n c g L cc A tk pw off M q ats an hL hA (by omega) hn hL2 _ bD1 (hM.alloc _)
    have hS1 : SecAt (w.alloc (.cells (bytesV zsec) 42)) (readsP S ats g an) xs := ⟨hS.1, hS.2.1, fun j hj => by
      rw [← hS.2.2 j hj]
      exact World.cell?_of_block (Below.heap_alloc w _ _ hSb)⟩
    generalize readsP S ats g an = p at *
    clear hE bD hM hS
    go_enter Tryz.func92, Tryz.ntmps92
    go_wp2_with fail
    refine hat.mono ?_
    rintro e w1 ⟨rfl, rfl⟩
    go_wp2_with fail
    refine hrd.mono ?_
    rintro e w1 ⟨rfl, rfl⟩
    go_wp2_with (first
      | (refine wpList_loadSecAny rfl _ rfl p rfl hS1 ?_)
      | (refine wpList_storeSec rfl _ _ rfl w.heap.size xs rfl rfl bR1 zsec_length hxl ?_))
    refine bodyPost_ret (results_sec rfl rfl rfl (bR1.setRow (cs' := bytesV xs)) hxl) rfl ?_
    exact ⟨Below.setRow (by (repeat' (first | (with_reducible exact Below.refl _ _) | (with_reducible assumption) | (with_reducible refine Below.alloc ?_ ?_ _) | (with_reducible refine Below.drew ?_) | (with_reducible refine below_drewN' ?_ _) | (with_reducible refine Below.setCell ?_ ?_ _) | (with_reducible exact Nat.le_refl _) | omega | (simp; done) | (simp; omega)))) (Nat.le_refl _) _, rfl⟩
  · rw [if_neg hE]
    have hat := at_any D S n c (.slice A L cc) tk pw off M a _ bD1
    generalize atE off n a = E at *
    have hE' : (E != 0) = true := by simpa using hE
    clear hE hS hM bD
    go_enter Tryz.func92, Tryz.ntmps92
    go_wp2_with fail
    refine hat.mono ?_
    rintro e w1 ⟨rfl, rfl⟩
    go_wp2_with (refine wpList_storeSec rfl _ _ rfl w.heap.size zsec rfl rfl bR1 zsec_length zsec_length ?_)
    refine bodyPost_ret (results_sec rfl rfl rfl (bR1.setRow (cs' := bytesV zsec)) zsec_length) rfl ?_
    exact ⟨Below.setRow (by (repeat' (first | (with_reducible exact Below.refl _ _) | (with_reducible assumption) | (with_reducible refine Below.alloc ?_ ?_ _) | (with_reducible refine Below.drew ?_) | (with_reducible refine below_drewN' ?_ _) | (with_reducible refine Below.setCell ?_ ?_ _) | (with_reducible exact Nat.le_refl _) | omega | (simp; done) | (simp; omega)))) (Nat.le_refl _) _, rfl⟩

end Go.Proofs.YtloddiipepiocaaGreatDoor
/- Layer 7: Get. -/
namespace Go.Proofs.YtloddiipepiocaaGreatDoor
open Go.RowKit Go.Maps

/-- The error and the frame that Get returns: of a sector's bytes, where the device gives them. -/
def getE (off : Bool) (n : Nat) (a : Int) (xs : List Int) : Int := if atE off n a = 0 then openE a xs else atE off n a
def getV (off : Bool) (n : Nat) (a : Int) (xs : List Int) : Array Value := if atE off n a = 0 then openV a xs else #[Value.int .i64 0, Value.int .u32 0, Value.string ⟨#[]⟩]

theorem openV_form (a : Int) (xs : List Int) : ∃ k q s, openV a xs = #[.int .i64 k, .int .u32 q, .string s] := by
  unfold openV
  split
  · exact ⟨_, _, _, rfl⟩
  · exact ⟨_, _, _, rfl⟩

set_option maxRecDepth 100000 in
set_option maxHeartbeats 1000000 in
theorem get_any (D S n c g L cc : Nat) (A : Option Addr) (tk pw : Int) (off : Bool) (M q : Nat) (ats : List Int) (a : Int) (xs : List Int) (hL : ats.length = L) (hA : 0 < L → A = some ⟨g, 0, none⟩) (hn : n ≤ 1000) (hL2 : L ≤ 1000) (hbx : Bytes xs) (w : World) (hH : HalfAt w)
    (bD : Blk w D 115 (devC S n c (.slice A L cc) tk pw off M)) (hM : w.ownsMap Tryz.prog 3 (plainElem Tryz.prog 3) M q (newestD ats L)) (hS : atE off n a = 0 → SecAt w (readsP S ats g a.toNat) xs ∧ (readsP S ats g a.toNat).block < w.heap.size) :
    Calls Tryz.prog 43 #[.pointer (some ⟨D, 0, none⟩), .int .i64 a] w fun e w' => Below w.heap.size w w' ∧ e = .returned (.tuple #[.agg (getV off n a xs), .int .i64 (getE off n a xs)]) := by
  have hz := zeroSector
  have hrd := read_any D S n c g L cc A tk pw off M q ats a xs hL hA hn hL2 (w.alloc (.cells #[Value.int .i64 0, Value.int .u32 0, Value.string ⟨#[]⟩] 26)) (bD.alloc _) (hM.alloc _) (fun hE => by
    obtain ⟨h1, h2⟩ := hS hE
    exact ⟨⟨h1.1, h1.2.1, fun j hj => by rw [← h1.2.2 j hj]; exact World.cell?_of_block (Below.heap_alloc w _ _ h2)⟩, by simp; omega⟩)
  unfold getE getV
  by_cases hE : atE off n a = 0
  · have hxl := (hS hE).1.1
    rw [hE] at hrd
    rw [if_pos hE, if_pos hE]
    rw [if_pos rfl] at hrd
    clear hE bD hM hS
    go_enter Tryz.func43, Tryz.ntmps43
    go_wp2_with fail
    refine hrd.mono ?_
    rintro e w1 ⟨hb1, rfl⟩
    have bF : Blk w1 w.heap.size 26 #[Value.int .i64 0, Value.int .u32 0, Value.string ⟨#[]⟩] := Blk.belowAll (by (repeat' (first | (with_reducible assumption) | exact Blk.new' (by simp) | refine Blk.alloc ?_ _))) hb1
    have B1 := below1 hb1
    have lF := bF.lt
    have bZ : Blk (w1.alloc (.cells (bytesV zsec) 42)) w1.heap.size 42 (bytesV zsec) := Blk.new _ _ _
    have bX : Blk ((w1.alloc (.cells (bytesV zsec) 42)).setRow w1.heap.size (bytesV xs)) w1.heap.size 42 (bytesV xs) := bZ.setRow
    have bF2 : Blk ((w1.alloc (.cells (bytesV zsec) 42)).setRow w1.heap.size (bytesV xs)) w.heap.size 26 #[Value.int .i64 0, Value.int .u32 0, Value.string ⟨#[]⟩] := (bF.alloc _).rowFar (by omega)
    have B2 : Below w.heap.size w ((w1.alloc (.cells (bytesV zsec) 42)).setRow w1.heap.size (bytesV xs)) := Below.setRow (B1.alloc B1.size _) B1.size _
    clear hb1 bF B1
    go_wp2_with (first
      | (refine wpList_storeSec rfl _ _ rfl w1.heap.size xs rfl rfl bZ zsec_length hxl ?_)
      | (refine wpList_loadSec rfl _ rfl w1.heap.size rfl bX hxl ?_))
    refine (open_any a xs hxl hbx _ (hH.below B2 hH.1)).mono ?_
    rintro e w2 ⟨hb2, rfl⟩
    have bF3 := bF2.belowAll hb2
    have B3 := B2.trans (hb2.mono B2.size)
    have cF := bF3.cells
    have fF := bF3.free
    have lF3 := bF3.lt
    obtain ⟨fk, fq, fs, hov⟩ := openV_form a xs
    rw [hov]
    have HOV := Lib.hid hov
    clear hov
    go_wp2_with fail
    refine bodyPost_ret (v := .tuple #[.agg #[.int .i64 fk, .int .u32 fq, .string fs], .int .i64 (openE a xs)]) (by simp [results, Tryz.results43, go_sem, cF, lF3]) rfl ?_
    exact ⟨by (repeat' (first | (with_reducible exact Below.refl _ _) | (with_reducible assumption) | (with_reducible refine Below.alloc ?_ ?_ _) | (with_reducible refine Below.drew ?_) | (with_reducible refine below_drewN' ?_ _) | (with_reducible refine Below.setCell ?_ ?_ _) | (with_reducible exact Nat.le_refl _) | omega | (simp; done) | (simp; omega))), by rw [HOV.out]⟩
  · rw [if_neg hE, if_neg hE]
    generalize atE off n a = E at *
    rw [if_neg hE] at hrd
    have hE' : (E != 0) = true := by simpa using hE
    clear hE hS hM bD
    go_enter Tryz.func43, Tryz.ntmps43
    go_wp2_with fail
    refine hrd.mono ?_
    rintro e w1 ⟨hb1, rfl⟩
    have bF : Blk w1 w.heap.size 26 #[Value.int .i64 0, Value.int .u32 0, Value.string ⟨#[]⟩] := Blk.belowAll (by (repeat' (first | (with_reducible assumption) | exact Blk.new' (by simp) | refine Blk.alloc ?_ _))) hb1
    have B1 := below1 hb1
    have cF := bF.cells
    have fF := bF.free
    have lF := bF.lt
    clear hb1
    have bZ : Blk (w1.alloc (.cells (bytesV zsec) 42)) w1.heap.size 42 (bytesV zsec) := Blk.new _ _ _
    have bF2 : Blk ((w1.alloc (.cells (bytesV zsec) 42)).setRow w1.heap.size (bytesV zsec)) w.heap.size 26 #[Value.int .i64 0, Value.int .u32 0, Value.string ⟨#[]⟩] := (bF.alloc _).rowFar (by omega)
    have B2 : Below w.heap.size w ((w1.alloc (.cells (bytesV zsec) 42)).setRow w1.heap.size (bytesV zsec)) := Below.setRow (B1.alloc B1.size _) B1.size _
    clear cF fF lF bF
    have cF := bF2.cells
    have fF := bF2.free
    have lF := bF2.lt
    go_wp2_with (refine wpList_storeSec rfl _ _ rfl w1.heap.size zsec rfl rfl bZ zsec_length zsec_length ?_)
    refine bodyPost_ret (v := .tuple #[.agg #[Value.int .i64 0, Value.int .u32 0, Value.string ⟨#[]⟩], .int .i64 E]) (by simp [results, Tryz.results43, go_sem, cF, lF]) rfl ?_
    exact ⟨by (repeat' (first | (with_reducible exact Below.refl _ _) | (with_reducible assumption) | (with_reducible refine Below.alloc ?_ ?_ _) | (with_reducible refine Below.drew ?_) | (with_reducible refine below_drewN' ?_ _) | (with_reducible refine Below.setCell ?_ ?_ _) | (with_reducible exact Nat.le_refl _) | omega | (simp; done) | (simp; omega))), rfl⟩

end Go.Proofs.YtloddiipepiocaaGreatDoor
/- Layer 6: Sectors, empty. -/
namespace Go.Proofs.YtloddiipepiocaaGreatDoor
open Go.RowKit Go.Maps

set_option maxRecDepth 100000 in
set_option maxHeartbeats 400000 in
theorem sectors_any (D S n c : Nat) (cv : Value) (tk pw : Int) (off : Bool) (M : Nat) (w : World) (bD : Blk w D 115 (devC S n c cv tk pw off M)) :
    Calls Tryz.prog 91 #[.pointer (some ⟨D, 0, none⟩)] w fun e w' => e = .returned (.int .i64 n) ∧ w' = w := by
  have hok := devOk_any D S n c cv tk pw off M w bD
  unfold devC at bD
  have cD := bD.cells
  go_enter Tryz.func91, Tryz.ntmps91
  go_wp2_with fail
  refine hok.mono ?_
  rintro e w1 ⟨rfl, rfl⟩
  go_wp2_with fail
  go_ret
  exact ⟨rfl, rfl⟩
set_option maxHeartbeats 400000 in
theorem sectors_nil (w : World) :
    Calls Tryz.prog 91 #[.pointer none] w fun e w' => e = .returned (.int .i64 0) ∧ w' = w := by
  have hok := devOk_nil w
  go_enter Tryz.func91, Tryz.ntmps91
  go_wp2_with fail
  refine hok.mono ?_
  rintro e w1 ⟨rfl, rfl⟩
  go_wp2_with fail
  go_ret
  exact ⟨rfl, rfl⟩

end Go.Proofs.YtloddiipepiocaaGreatDoor
/- Layer 6: a device as a whole: its state in plain words, and the blocks that hold it. -/
namespace Go.Proofs.YtloddiipepiocaaGreatDoor
open Go.RowKit Go.Maps

/-- A device's state in plain words. -/
structure DevS where
  stable : List (List Int)
  cache : List (Int × List Int)
  taken : Int
  power : Int
  off : Bool
deriving DecidableEq, Inhabited

def secV (s : List Int) : List Value := s.map (.int .u8)
def dwV (p : Int × List Int) : List Value := .int .i64 p.1 :: secV p.2
def atsOf (c : List (Int × List Int)) : List Int := c.map (·.1)

structure DevS.Ok (x : DevS) : Prop where
  lo : 64 ≤ x.stable.length
  hi : x.stable.length ≤ 256
  sec : ∀ s ∈ x.stable, s.length = 128 ∧ Bytes s
  cac : ∀ p ∈ x.cache, 0 ≤ p.1 ∧ p.1 < x.stable.length ∧ p.2.length = 128 ∧ Bytes p.2
  len : x.cache.length ≤ 400
  tk : 0 ≤ x.taken ∧ x.taken ≤ 1000000000000
  pw : -1 ≤ x.power ∧ x.power ≤ 1000000000000

structure DevMem (w : World) (D S c M : Nat) (cv : Value) (x : DevS) : Prop where
  dev : Blk w D 115 (devC S x.stable.length c cv x.taken x.power x.off M)
  sta : w.ownsRow 0 42 128 (.slice (some ⟨S, 0, none⟩) x.stable.length c) x.stable.length (x.stable.flatMap secV)
  cac : w.ownsRow 0 111 129 cv x.cache.length (x.cache.flatMap dwV)
  map : w.ownsMap Tryz.prog 3 (plainElem Tryz.prog 3) M x.cache.length (newestD (atsOf x.cache) x.cache.length)

/-- Block D holds a device with state x; it lies in blocks of the list F. -/
structure DevAt (w : World) (D : Nat) (F : List Nat) (x : DevS) : Prop where
  ok : x.Ok
  half : HalfAt w
  mem : ∃ S c M cv, DevMem w D S c M cv x ∧ D ∈ F ∧ S ∈ F ∧ M ∈ F ∧ (∀ g, cv.ownBlock = some g → g ∈ F)
  lt : ∀ b ∈ F, 0 < b ∧ b < w.heap.size

/-- But for the blocks of F all is as it was; the new list F' has besides blocks that are new. -/
structure Grow (w : World) (F : List Nat) (w' : World) (F' : List Nat) : Prop where
  keep : KeepEx w.heap.size F w w'
  new : ∀ b ∈ F', b ∈ F ∨ w.heap.size ≤ b
theorem Grow.refl (w : World) (F : List Nat) : Grow w F w F := ⟨KeepEx.refl _ _ _, fun _ h => .inl h⟩
theorem Grow.trans {w w1 w2 : World} {F F1 F2 : List Nat} (h : Grow w F w1 F1) (k : Grow w1 F1 w2 F2) : Grow w F w2 F2 :=
  ⟨⟨k.keep.os.trans h.keep.os, k.keep.tape.trans h.keep.tape, k.keep.output.trans h.keep.output, Nat.le_trans h.keep.size k.keep.size,
    fun i hi hn => (k.keep.block i (Nat.lt_of_lt_of_le hi h.keep.size) (fun hm => by rcases h.new i hm with e | e; exact hn e; omega)).trans (h.keep.block i hi hn)⟩,
   fun b hb => by
    rcases k.new b hb with e | e
    · exact h.new b e
    · right; have := h.keep.size; omega⟩
theorem Grow.of_below {w w' : World} (h : Below w.heap.size w w') (F : List Nat) : Grow w F w' F := ⟨KeepEx.of_below h, fun _ h => .inl h⟩
theorem Grow.blk {w w' : World} {F F' : List Nat} {g : Nat} {t : TypeId} {cs : Array Value} (h : Grow w F w' F') (b : Blk w g t cs) (hg : g ∉ F) : Blk w' g t cs := h.keep.blk b b.lt hg
theorem Grow.notin {w w' : World} {F F' : List Nat} {g : Nat} (h : Grow w F w' F') (hg : g ∉ F) (hl : g < w.heap.size) : g ∉ F' := fun hm => by
  rcases h.new g hm with e | e
  · exact hg e
  · omega
theorem Grow.half {w w' : World} {F F' : List Nat} (h : Grow w F w' F') (hH : HalfAt w) (h0 : 0 ∉ F) : HalfAt w' :=
  ⟨Nat.lt_of_lt_of_le hH.1 h.keep.size, fun j hj => (World.cell?_of_block (w := w) (a := ⟨0, j, none⟩) (h.keep.block 0 hH.1 h0)).trans (hH.2 j hj)⟩
/-- What lies below and outside of F stays: for a caller whose own blocks are new ones. -/
theorem Grow.below {w w' : World} {F F' : List Nat} (h : Grow w F w' F') {B : Nat} (hB : B ≤ w.heap.size) (hF : ∀ b ∈ F, B ≤ b) : Below B w w' := h.keep.toBelow hB hF

theorem own_block {w w' : World} {base : Nat} {e : TypeId} {size : Nat} {v : Value} {n : Nat} {xs : List Value} (h : w.ownsRow base e size v n xs) (hb : ∀ g, v.ownBlock = some g → w'.heap[g]? = w.heap[g]?) : w'.ownsRow base e size v n xs := by
  refine ⟨h.1, ?_⟩
  rcases h.2 with h2 | ⟨g, cap, cur, hv, hg, hh, r⟩
  · exact .inl h2
  · exact .inr ⟨g, cap, cur, hv, hg, (hb g (by rw [hv]; rfl)).trans hh, r⟩
theorem map_block {w w' : World} {k : TypeId} {R : Value → Option (DataW Unit × List MemPlace)} {M n : Nat} {D : DataW Unit} (h : w.ownsMap Tryz.prog k R M n D) (hb : w'.heap[M]? = w.heap[M]?) : w'.ownsMap Tryz.prog k R M n D := by
  obtain ⟨es, clock, h1, h2⟩ := h
  exact ⟨es, clock, hb.trans h1, h2⟩

/-- The state depends on the blocks of F alone. -/
theorem DevAt.frame {w w' : World} {D : Nat} {F : List Nat} {x : DevS} (h : DevAt w D F x) (hb : ∀ b, b ∈ F ∨ b = 0 → w'.heap[b]? = w.heap[b]?) (hs : w.heap.size ≤ w'.heap.size) : DevAt w' D F x := by
  obtain ⟨ok, hH, ⟨S, c, M, cv, m, hD, hS, hM, hC⟩, lt⟩ := h
  refine ⟨ok, ⟨Nat.lt_of_lt_of_le hH.1 hs, fun j hj => (World.cell?_of_block (w := w) (a := ⟨0, j, none⟩) (hb 0 (.inr rfl))).trans (hH.2 j hj)⟩, ⟨S, c, M, cv, ⟨?_, ?_, ?_, ?_⟩, hD, hS, hM, hC⟩, fun b hbm => ⟨(lt b hbm).1, Nat.lt_of_lt_of_le (lt b hbm).2 hs⟩⟩
  · exact (hb D (.inl hD)).trans m.dev
  · exact own_block m.sta fun g e => by cases e; exact hb S (.inl hS)
  · exact own_block m.cac fun g e => hb g (.inl (hC g e))
  · exact map_block m.map (hb M (.inl hM))
theorem DevAt.below {w w' : World} {D : Nat} {F : List Nat} {x : DevS} (h : DevAt w D F x) (hb : Below w.heap.size w w') : DevAt w' D F x :=
  h.frame (fun b hm => hb.block b (by rcases hm with hm | rfl; exact (h.lt b hm).2; exact h.half.1)) hb.size
theorem DevAt.alloc {w : World} {D : Nat} {F : List Nat} {x : DevS} (h : DevAt w D F x) (o : Obj) : DevAt (w.alloc o) D F x := h.below ((Below.refl _ _).alloc (Nat.le_refl _) _)
theorem DevAt.drew {w : World} {D : Nat} {F : List Nat} {x : DevS} (h : DevAt w D F x) : DevAt w.drew D F x := h.below (Below.refl _ _).drew
theorem DevAt.drewN {w : World} {D : Nat} {F : List Nat} {x : DevS} (h : DevAt w D F x) (n : Nat) : DevAt (w.drewN n) D F x := h.below (below_drewN' (Below.refl _ _) n)
theorem DevAt.set_ {w : World} {D : Nat} {F : List Nat} {x : DevS} (h : DevAt w D F x) {p : Addr} (hp : p.block ∉ F) (h0 : p.block ≠ 0) (u : Value) : DevAt (w.setCell p u) D F x :=
  h.frame (fun b hm => Below.heap_setCell w p u b (fun e => by subst e; rcases hm with hm | hm; exact hp hm; exact h0 hm)) (by simp)
theorem DevAt.row {w : World} {D : Nat} {F : List Nat} {x : DevS} (h : DevAt w D F x) {g : Nat} (hp : g ∉ F) (h0 : g ≠ 0) (cs : Array Value) : DevAt (w.setRow g cs) D F x :=
  h.frame (fun b hm => setRow_other w g b cs (fun e => by subst e; rcases hm with hm | hm; exact hp hm; exact h0 hm)) (by simp)
theorem DevAt.zero {w : World} {D : Nat} {F : List Nat} {x : DevS} (h : DevAt w D F x) : 0 ∉ F := fun hm => by have := (h.lt 0 hm).1; omega
theorem DevAt.far {w : World} {D : Nat} {F : List Nat} {x : DevS} (h : DevAt w D F x) {g : Nat} (hg : w.heap.size ≤ g) : g ∉ F := fun hm => by have := (h.lt g hm).2; omega

/-! The rows' elements. -/
theorem flat_get {α : Type} {f : α → List Value} {m : Nat} : ∀ {l : List α}, (∀ s ∈ l, (f s).length = m) → ∀ {i j : Nat} (_ : j < m) (hi : i < l.length), (l.flatMap f)[i * m + j]? = (f l[i])[j]?
  | [], _, i, j, _, hi => by simp at hi
  | s :: r, h, i, j, hj, hi => by
    have hs := h s (by simp)
    rw [List.flatMap_cons]
    cases i with
    | zero => rw [List.getElem?_append_left (by omega)]; simp
    | succ i =>
      rw [List.getElem?_append_right (by rw [hs, Nat.add_mul]; omega), hs, Nat.add_mul, show i * m + 1 * m + j - m = i * m + j by omega]
      rw [flat_get (fun s hs => h s (by simp [hs])) hj (by simpa using hi)]
      simp
theorem secV_length (s : List Int) : (secV s).length = s.length := by unfold secV; simp
theorem dwV_length (p : Int × List Int) : (dwV p).length = p.2.length + 1 := by unfold dwV; simp [secV_length]
theorem secV_get {s : List Int} {j : Nat} (h : j < s.length) : (secV s)[j]? = some (.int .u8 (s.getD j 0)) := by unfold secV; simp [h]

/-- What a sector reads as. -/
def DevS.idx (x : DevS) (a : Int) : Option Nat := newIdx (atsOf x.cache) a x.cache.length
def DevS.reads (x : DevS) (a : Int) : List Int := match x.idx a with | some i => (x.cache.getD i (0, [])).2 | none => x.stable.getD a.toNat []
theorem atsOf_length (c : List (Int × List Int)) : (atsOf c).length = c.length := by unfold atsOf; simp
theorem DevS.Ok.reads {x : DevS} (h : x.Ok) {a : Int} (ha : 0 ≤ a ∧ a < x.stable.length) : (x.reads a).length = 128 ∧ Bytes (x.reads a) := by
  unfold DevS.reads
  cases hx : x.idx a with
  | none =>
    have hlt : a.toNat < x.stable.length := by omega
    simp only [List.getD_eq_getElem?_getD, List.getElem?_eq_getElem hlt, Option.getD_some]
    exact h.sec _ (List.getElem_mem hlt)
  | some i =>
    have hi := (newIdx_lt hx).1
    simp only [List.getD_eq_getElem?_getD, List.getElem?_eq_getElem hi, Option.getD_some]
    exact (h.cac _ (List.getElem_mem hi)).2.2
theorem own_cell {w : World} {base : Nat} {e : TypeId} {size : Nat} {g n cap : Nat} {xs : List Value} (h : w.ownsRow base e size (.slice (some ⟨g, 0, none⟩) n cap) n xs) {j : Nat} {u : Value} (hu : xs[j]? = some u) : w.cell? ⟨g, j, none⟩ = some u := by
  have hlt := (List.getElem?_eq_some_iff.1 hu).1
  rw [World.ownsRow.cellAt h j (by rw [← h.1]; exact hlt), hu]
theorem DevMem.sec {w : World} {D S c M : Nat} {cv : Value} {x : DevS} (h : DevMem w D S c M cv x) (ok : x.Ok) {a : Int} (ha : 0 ≤ a ∧ a < x.stable.length) :
    ∃ A cc g, cv = .slice A x.cache.length cc ∧ (0 < x.cache.length → A = some ⟨g, 0, none⟩) ∧ SecAt w (readsP S (atsOf x.cache) g a.toNat) (x.reads a) ∧ (readsP S (atsOf x.cache) g a.toNat).block < w.heap.size := by
  have hr := ok.reads ha
  have hSlt : S < w.heap.size := (h.sta.lt S rfl).2
  have hN : ((a.toNat : Nat) : Int) = a := by omega
  have key : ∀ g A cc, cv = .slice A x.cache.length cc → (0 < x.cache.length → A = some ⟨g, 0, none⟩) → (0 < x.cache.length → g < w.heap.size) → SecAt w (readsP S (atsOf x.cache) g a.toNat) (x.reads a) ∧ (readsP S (atsOf x.cache) g a.toNat).block < w.heap.size := by
    intro g A cc hcv hA hgl
    unfold readsP
    rw [hN, atsOf_length]
    have hrd : x.reads a = match newIdx (atsOf x.cache) a x.cache.length with | some i => (x.cache.getD i (0, [])).2 | none => x.stable.getD a.toNat [] := rfl
    cases hx : newIdx (atsOf x.cache) a x.cache.length with
    | none =>
      rw [hx] at hrd
      refine ⟨⟨hr.1, rfl, fun j hj => ?_⟩, hSlt⟩
      refine own_cell h.sta ?_
      have hlt : a.toNat < x.stable.length := by omega
      rw [flat_get (fun s hs => by rw [secV_length]; exact (ok.sec s hs).1) hj hlt]
      have e1 : x.stable[a.toNat] = x.reads a := by rw [hrd]; simp [hlt]
      rw [e1, secV_get (by rw [hr.1]; exact hj)]
    | some i =>
      rw [hx] at hrd
      have hi := (newIdx_lt hx).1
      have hA' := hA (by omega)
      subst hA'
      subst hcv
      refine ⟨⟨hr.1, rfl, fun j hj => ?_⟩, hgl (by omega)⟩
      refine own_cell h.cac ?_
      have e0 : i * 129 + 1 + j = i * 129 + (j + 1) := by omega
      simp only [e0]
      rw [flat_get (fun p hp => by rw [dwV_length, (ok.cac p hp).2.2.1]) (by omega) hi]
      have e1 : x.cache[i].2 = x.reads a := by rw [hrd]; simp [hi]
      unfold dwV
      rw [List.getElem?_cons_succ, e1, secV_get (by rw [hr.1]; exact hj)]
  rcases h.cac.2 with ⟨rfl, h0⟩ | ⟨g, cap, cur, rfl, _, hg, _⟩
  · obtain ⟨k1, k2⟩ := key 0 none 0 (by rw [h0]) (by omega) (by omega)
    exact ⟨none, 0, 0, by rw [h0], by omega, k1, k2⟩
  · obtain ⟨k1, k2⟩ := key g (some ⟨g, 0, none⟩) cap rfl (fun _ => rfl) (fun _ => (Array.getElem?_eq_some_iff.1 hg).1)
    exact ⟨_, cap, g, rfl, fun _ => rfl, k1, k2⟩

/-- The error of a sector. -/
def DevS.atE (x : DevS) (a : Int) : Int := Go.Proofs.YtloddiipepiocaaGreatDoor.atE x.off x.stable.length a
def DevS.get (x : DevS) (a : Int) : Int × Array Value := (getE x.off x.stable.length a (x.reads a), getV x.off x.stable.length a (x.reads a))

theorem atE_zero {off : Bool} {n : Nat} {a : Int} (hE : Go.Proofs.YtloddiipepiocaaGreatDoor.atE off n a = 0) : 0 ≤ a ∧ a < (n : Int) := by
  unfold Go.Proofs.YtloddiipepiocaaGreatDoor.atE at hE
  cases off
  · simp only [Bool.false_eq_true, if_false] at hE
    split at hE <;> omega
  · simp at hE

theorem cv_form {w : World} {D S c M : Nat} {cv : Value} {x : DevS} (h : DevMem w D S c M cv x) : ∃ A cc g, cv = .slice A x.cache.length cc ∧ (0 < x.cache.length → A = some ⟨g, 0, none⟩) := by
  rcases h.cac.2 with ⟨rfl, h0⟩ | ⟨g, cap, cur, rfl, _⟩
  · exact ⟨none, 0, 0, by rw [h0], by omega⟩
  · exact ⟨_, cap, g, rfl, fun _ => rfl⟩

theorem get_dev (D : Nat) (F : List Nat) (x : DevS) (a : Int) (w : World) (h : DevAt w D F x) :
    Calls Tryz.prog 43 #[.pointer (some ⟨D, 0, none⟩), .int .i64 a] w fun e w' => Below w.heap.size w w' ∧ e = .returned (.tuple #[.agg (x.get a).2, .int .i64 (x.get a).1]) := by
  obtain ⟨ok, hH, ⟨S, c, M, cv, m, -, -, -, -⟩, -⟩ := h
  by_cases hE : Go.Proofs.YtloddiipepiocaaGreatDoor.atE x.off x.stable.length a = 0
  · have ha := atE_zero hE
    obtain ⟨A, cc, g, hcv, hA, hs, hl⟩ := m.sec ok ha
    have hd := m.dev
    rw [hcv] at hd
    exact get_any D S x.stable.length c g x.cache.length cc A x.taken x.power x.off M x.cache.length (atsOf x.cache) a (x.reads a) (atsOf_length _) hA (by have := ok.hi; omega) (by have := ok.len; omega) (ok.reads ha).2 w hH hd m.map (fun _ => ⟨hs, hl⟩)
  · obtain ⟨A, cc, g, hcv, hA⟩ := cv_form m
    have hd := m.dev
    rw [hcv] at hd
    refine (get_any D S x.stable.length c g x.cache.length cc A x.taken x.power x.off M x.cache.length (atsOf x.cache) a zsec (atsOf_length _) hA (by have := ok.hi; omega) (by have := ok.len; omega) zsec_bytes w hH hd m.map (fun h0 => absurd h0 hE)).mono ?_
    rintro e w' ⟨h1, rfl⟩
    refine ⟨h1, ?_⟩
    unfold DevS.get getE getV
    rw [if_neg hE, if_neg hE, if_neg hE, if_neg hE]
theorem sectors_dev (D : Nat) (F : List Nat) (x : DevS) (w : World) (h : DevAt w D F x) :
    Calls Tryz.prog 91 #[.pointer (some ⟨D, 0, none⟩)] w fun e w' => e = .returned (.int .i64 x.stable.length) ∧ w' = w := by
  obtain ⟨ok, hH, ⟨S, c, M, cv, m, -, -, -, -⟩, -⟩ := h
  exact sectors_any D S _ c cv _ _ _ M w m.dev

end Go.Proofs.YtloddiipepiocaaGreatDoor
/- Layer 6: empty, stable, Flush. -/
namespace Go.Proofs.YtloddiipepiocaaGreatDoor
open Go.RowKit Go.Maps Go.ChangeMaps Go.MapKept

theorem run_clear {P : Program} {t k e ty : TypeId} {R : Value → Option (DataW Unit × List MemPlace)} {w : World} {M q : Nat} {D : DataW Unit} (hM : w.ownsMap P k R M q D) (hm : P.underlying t = some (.map k e)) :
    ∃ v w', (Builtin.clear_ #[t] ty #[.map (some M)]).run P w = .ok v w' ∧ w'.ownsMap P k R M 0 (.map []) ∧ w.grownBy w' (some M) := by
  obtain ⟨es, clock, hb, F, hs, hD⟩ := hM
  refine ⟨_, _, by simp [Builtin.clear_, run_underlying hm, MapKept.run_getObj_map hb, MapKept.run_setObj_map _ hb, Result.andThen]; exact ⟨rfl, rfl⟩, ⟨#[], clock, heap_setBlock_same hb _, ⟨by simp, stamped_empty clock, by simp⟩, Nat.le_refl _, rfl⟩, ⟨rfl, rfl, rfl, by simp [setBlock], fun i _ hi => heap_setBlock_other hb _ (fun e => hi (by rw [e]))⟩⟩
theorem wpList_clear_own {P : Program} (w : World) {ops : Array Oper} {rest : List Oper} {o : Oper} {a : Act} {Q : Exit → Act → World → Prop} (hg : o.guard = none) (m : Operand) (t : TypeId)
    (ho : o.op = .call { callee := .builtin .clear, args := #[m], argTypes := #[t] }) (k e : TypeId) (hm : P.underlying t = some (.map k e)) (R : Value → Option (DataW Unit × List MemPlace)) (M q : Nat) (D : DataW Unit)
    (hv : a.eval m = .map (some M)) (hM : w.ownsMap P k R M q D) (hK : ∀ v w', w'.ownsMap P k R M 0 (.map []) → w.grownBy w' (some M) → wpList P ops Q rest (a.put o.dst v) w') : wpList P ops Q (o :: rest) a w := by
  refine wpList_plain hg fun _ hK' => ?_
  obtain ⟨v, w', hrun, h1, h2⟩ := run_clear (ty := o.type) hM hm
  unfold Oper.wp execOp
  simp only [ho, resolve, invoke, builtin, Sem.run_bind, Sem.run_pure, Result.andThen_ok, List.map_toArray, List.map_cons, List.map_nil, hv, hrun]
  exact hK' _ _ (hK v w' h1 h2)

theorem DevMem.ne {w : World} {D S c M : Nat} {cv : Value} {x : DevS} (m : DevMem w D S c M cv x) : D ≠ S ∧ D ≠ M ∧ S ≠ M ∧ cv.ownBlock ≠ some D ∧ cv.ownBlock ≠ some M ∧ cv.ownBlock ≠ some S := by
  have hD : w.heap[D]? = some (.cells _ _ _) := m.dev
  obtain ⟨es, clock, hM, _⟩ := m.map
  have hS : ∃ cur, w.heap[S]? = some (.cells cur 42 (0, 0)) := by
    rcases m.sta.2 with ⟨h, _⟩ | ⟨g, cap, cur, h, _, hg, _⟩
    · simp at h
    · simp only [Value.slice.injEq, Option.some.injEq, Addr.mk.injEq, and_true, true_and] at h
      obtain ⟨rfl, rfl⟩ := h
      exact ⟨cur, hg⟩
  obtain ⟨cur, hS⟩ := hS
  refine ⟨?_, ?_, ?_, ?_, ?_, ?_⟩
  · rintro rfl; rw [hS] at hD; simp at hD
  · rintro rfl; rw [hM] at hD; simp at hD
  · rintro rfl; rw [hM] at hS; simp at hS
  all_goals
    intro hc
    rcases m.cac.2 with ⟨rfl, _⟩ | ⟨g, cap, cur', rfl, _, hg, _⟩
    · simp [Value.ownBlock] at hc
    · simp only [Value.ownBlock, Option.some.injEq] at hc
      subst hc
      first
        | (rw [hg] at hD; simp at hD; done)
        | (rw [hg] at hM; simp at hM; done)
        | (rw [hg] at hS; simp at hS; done)

set_option maxRecDepth 100000 in
set_option maxHeartbeats 1000000 in
theorem empty_any (D S c M : Nat) (cv : Value) (x : DevS) (w : World) (m : DevMem w D S c M cv x) :
    Calls Tryz.prog 83 #[.pointer (some ⟨D, 0, none⟩)] w fun e w' => (∃ v, e = .returned v) ∧ DevMem w' D S c M (.slice none 0 0) { x with cache := [] } ∧ KeepEx w.heap.size [D, M] w w' := by
  obtain ⟨n1, n2, n3, n4, n5, n6⟩ := m.ne
  have bD := m.dev
  unfold devC at bD
  have cD := bD.cells
  have fD := bD.free
  have lD := bD.lt
  have lM := m.map.lt
  have bD1 : Blk (w.setCell ⟨D, 1, none⟩ (.slice none 0 0)) D 115 (devC S x.stable.length c (.slice none 0 0) x.taken x.power x.off M) := bD.set_ 1 _
  have hM1 : (w.setCell ⟨D, 1, none⟩ (.slice none 0 0)).ownsMap Tryz.prog 3 (plainElem Tryz.prog 3) M x.cache.length (newestD (atsOf x.cache) x.cache.length) := map_block m.map (Below.heap_setCell _ _ _ _ (fun e => n2 e.symm))
  go_enter Tryz.func83, Tryz.ntmps83
  go_wp2_with (refine wpList_clear_own _ rfl _ _ rfl 3 3 Tryz.underlying113 _ M _ _ rfl hM1 ?_; intro v1 w1 hM2 hg1)
  trace_state
  go_end0
  have k1 : KeepEx w.heap.size [D, M] w (w.setCell ⟨D, 1, none⟩ (.slice none 0 0)) := KeepEx.setCell _ (.inl (by simp)) _
  refine ⟨⟨_, rfl⟩, ⟨?_, ?_, ?_, ?_⟩, k1.trans (KeepEx.grown hg1 (by simp) (by intro k e; cases e; left; simp))⟩
  · exact bD1.grown hg1 (by simp; omega)
  · refine own_block m.sta fun g e => ?_
    cases e
    rw [hg1.block S (by simpa using (m.sta.lt S rfl).2) (by simp; omega)]
    exact Below.heap_setCell _ _ _ _ (fun e => n1 e.symm)
  · exact World.ownsRow_nil _ _ _ _
  · exact hM2

end Go.Proofs.YtloddiipepiocaaGreatDoor
