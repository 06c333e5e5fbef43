/- Parts of the proof, put together by program: N9, NA, NB, NC, IS, IT, IU, IV, DC, DQ, DS, DD, DE, DK, DR. -/
import Derived.Test.YtljmdcegcckblaaGreatDoorQuart06
import Derived.Test.YtljmdcegcckblaaGreatDoorQuart44
import Derived.Test.YtljmdcegcckblaaGreatDoorQuart41
import Derived.Test.YtljmdcegcckblaaGreatDoorQuart42
import Derived.Test.YtljmdcegcckblaaGreatDoorQuart43
import Derived.Test.YtljmdcegcckblaaGreatDoorQuart19
import Derived.Test.YtljmdcegcckblaaGreatDoorQuart18
import Derived.Test.YtljmdcegcckblaaGreatDoorQuart13
import Derived.Test.YtljmdcegcckblaaGreatDoorQuart08
import Derived.BigQuiet
import Derived.Test.YtljmdcegcckblaaGreatDoorRows
import Derived.Test.YtljmdcegcckblaaGreatDoorCards
import Derived.Test.YtljmdcegcckblaaGreatDoorTie
import Derived.ProofKit
import Derived.Lib.LaidTab
import Derived.Lib.SmallJoins
import Derived.LaidMore
import Derived.OpenShut
import Derived.Stop.Joined
import Derived.SevenTiedAt
/- A region that draws its order, by a plan: reads taken first, and forks between two operations; behind a fork the condition on the world may be a stronger one. No program in sight. -/
namespace Go.Proofs.YtljmdcegcckblaaGreatDoor
open Go

section
variable {P : Program} {ops : Array Oper} {Q : Exit → Act → World → Prop} {S : World → Prop} {T : Nat}

inductive Pl where
  | mix (ms : List Ms)
  | take (k : Nat) (r : Pl)
  | fork (i j : Nat) (p q : Pl)
def plN : Pl → Nat
  | .mix ms => mixN ms
  | .take _ r => plN r + 1
  | .fork _ _ p _ => plN p + 1
def plB (ops : Array Oper) (T : Nat) : Pl → Array Bool → Bool
  | .mix ms, L => mixB ops T ms L
  | .take k r, L => decide (k < ops.size) && (Region.ready .any ops L).contains k && Region.free .any ops L k && ((List.range ops.size).all fun j => decide (j < T) || Region.waitsFor .any ops j k) && plB ops T r (L.setIfInBounds k true)
  | .fork i j p q, L => decide (i < T) && decide (j < T) && bare ops i && bare ops j && decide (Region.ready .any ops L = [i, j] ∨ Region.ready .any ops L = [j, i]) && decide (plN p = plN q) && plB ops T p (L.setIfInBounds i true) && plB ops T q (L.setIfInBounds j true)
inductive Po where
  | mix (ms : List Mi)
  | take (k : Nat) (o : Oper) (r : Po)
  | fork (i : Nat) (oi : Oper) (j : Nat) (oj : Oper) (p q : Po)
def Pl.fill (l : List Oper) (d : Oper) : Pl → Po
  | .mix ms => .mix (ms.map (Ms.fill l d))
  | .take k r => .take k (l.getD k d) (Pl.fill l d r)
  | .fork i j p q => .fork i (l.getD i d) j (l.getD j d) (Pl.fill l d p) (Pl.fill l d q)
def plT (P : Program) (ops : Array Oper) (Q : Exit → Act → World → Prop) (S : World → Prop) (T : Nat) : Po → Act → World → Prop
  | .mix ms, a, w => ∃ S' : World → Prop, (∀ w, S' w → S w) ∧ S' w ∧ mixT P ops Q S' T ms a w
  | .take _ o r, a, w => ∃ v, YieldsIf P ops S o v a ∧ plT P ops Q S T r (a.put o.dst v) w
  | .fork _ oi _ oj p q, a, w => oi.wp P a w (fun a' w' => S w' ∧ plT P ops Q S T p a' w') Q ∧ oj.wp P a w (fun a' w' => S w' ∧ plT P ops Q S T q a' w') Q

end
end Go.Proofs.YtljmdcegcckblaaGreatDoor
/- The laws of layer 12: of, for a call with raw numbers. -/
namespace Go.Proofs.YtljmdcegcckblaaGreatDoor
open Go.RowKit Go.Maps

abbrev actC (wh f kd off n size : Int) (lv : Value) (s : ByteArray) : Array Value := #[.int .u8 wh, .int .u8 f, .int .i64 kd, .int .i64 off, .int .i64 n, .int .i64 size, lv, .string s]
abbrev bookC (L0 L1 L2 : Value) (z0 z1 : Int) : Array Value := #[L0, L1, L2, .int .i64 z0, .int .i64 z1]
abbrev callC (wh kd size off n : Int) (lv : Value) (s : ByteArray) (pv : Value) : Array Value := #[.int .i64 wh, .int .i64 kd, .int .i64 size, .int .i64 off, .int .i64 n, lv, .string s, pv]
abbrev call0 : Array Value := #[.int .i64 0, .int .i64 0, .int .i64 0, .int .i64 0, .int .i64 0, .slice none 0 0, .string ⟨#[]⟩, .slice none 0 0]

def OfRaw (w : World) (kd off n size : Int) (lv : Value) (s : ByteArray) (e : Ending) (w' : World) : Prop :=
  Below w.heap.size w w' ∧ ∃ ci pv, (ci = 0 ∨ ci = 2 ∨ ci = 3 ∨ ci = 5 ∨ ci = 6) ∧ e = .returned (.agg (callC ci kd size off n lv s pv)) ∧ ∃ ps : List ByteArray, w'.ownsRow w.heap.size 9 1 pv ps.length (ps.map .string)

/-- A call with raw numbers. -/
def OfRaw7 (w : World) (kd off n size : Int) (lv : Value) (s : ByteArray) (e : Ending) (w' : World) : Prop :=
  Below w.heap.size w w' ∧ ∃ ci pv, (ci = 0 ∨ ci = 2 ∨ ci = 3 ∨ ci = 5 ∨ ci = 6) ∧ e = .returned (.agg (callC ci kd size off n lv s pv)) ∧ ∃ ps : List ByteArray, w'.ownsRow w.heap.size 9 1 pv ps.length (ps.map .string) ∧ ps.length ≤ 901 ∧ ∀ p ∈ ps, p.size ≤ 1000
end Go.Proofs.YtljmdcegcckblaaGreatDoor
/- The laws of layer 12: done, on a transaction that is none, or has ended. -/
namespace Go.Proofs.YtljmdcegcckblaaGreatDoor
open Go.RowKit Go.Maps

end Go.Proofs.YtljmdcegcckblaaGreatDoor
/- The laws of layer 12: far, of one act; done, of a raw call. -/
namespace Go.Proofs.YtljmdcegcckblaaGreatDoor
open Go.RowKit Go.Maps

end Go.Proofs.YtljmdcegcckblaaGreatDoor
/- The laws of layer 12: done, on a transaction. -/
namespace Go.Proofs.YtljmdcegcckblaaGreatDoor
open Go.RowKit Go.Maps

abbrev ansC (lv pv : Value) (t : ByteArray) (z e : Int) : Array Value := #[lv, pv, .string t, .int .i64 z, .int .i64 e]

/-- But for blocks between two marks all is as it was. -/
structure Mid (n m : Nat) (w1 W : World) : Prop where
  os : W.os = w1.os
  tape : W.tape = w1.tape
  output : W.output = w1.output
  size : W.heap.size = w1.heap.size
  block : ∀ b, b < n ∨ m ≤ b → W.heap[b]? = w1.heap[b]?
theorem Mid.refl (n m : Nat) (w : World) : Mid n m w w := ⟨rfl, rfl, rfl, rfl, fun _ _ => rfl⟩
theorem Mid.set_ {n m : Nat} {w1 W : World} (h : Mid n m w1 W) {p : Addr} (h1 : n ≤ p.block) (h2 : p.block < m) (u : Value) : Mid n m w1 (W.setCell p u) :=
  ⟨h.os, h.tape, h.output, by simpa using h.size, fun b hb => (Below.heap_setCell W p u b (fun e => by omega)).trans (h.block b hb)⟩
theorem Mid.row {n m : Nat} {w1 W : World} (h : Mid n m w1 W) {g : Nat} (h1 : n ≤ g) (h2 : g < m) (cs : Array Value) : Mid n m w1 (W.setRow g cs) :=
  ⟨h.os, h.tape, h.output, by simpa using h.size, fun b hb => (setRow_other W g b cs (fun e => by omega)).trans (h.block b hb)⟩
theorem Mid.below {w wA w1 W : World} (h : Mid w.heap.size wA.heap.size w1 W) (hA : Below w.heap.size w wA) (h1 : Below wA.heap.size wA w1) : Below w.heap.size w W :=
  have B1 := hA.trans (h1.mono hA.size)
  ⟨h.os.trans B1.os, h.tape.trans B1.tape, h.output.trans B1.output, by have := B1.size; have := h.size; omega, fun b hb => (h.block b (.inl hb)).trans (B1.block b hb)⟩
theorem Mid.own {w wA w1 W : World} (h : Mid w.heap.size wA.heap.size w1 W) (hA : Below w.heap.size w wA) {e : TypeId} {size : Nat} {v : Value} {n : Nat} {xs : List Value} (ho : w1.ownsRow wA.heap.size e size v n xs) : W.ownsRow w.heap.size e size v n xs :=
  own_base (own_block ho fun q hq => h.block q (.inr (own_lt ho q hq).1)) hA.size
theorem Mid.did {w wA w1 W : World} {T : Nat} {F : List Nat} {D : Nat} {y : TxS} {B : List Nat} {x : DevS} {z : TxS} {L : List Int} {v : Value} (h : Mid w.heap.size wA.heap.size w1 W) (hA : Below w.heap.size w wA) (h0 : TD w T F D y B x) (hd : DwDid wA T F D B x z L v w1) : DwDid w T F D B x z L v W := by
  obtain ⟨ho, F', ht, g, hq⟩ := hd
  have hF : ∀ b ∈ F, b < w.heap.size := fun b hb => (h0.tx.lt b hb).2
  have hB : ∀ b ∈ B, b < w.heap.size := fun b hb => (h0.dev.lt b hb).2
  refine ⟨h.own hA ho, F', ht.keep (fun b hb => h.block b ?_) (Nat.le_of_eq h.size.symm), ⟨?_, fun b hb => ?_⟩, hq⟩
  · rcases hb with hb | hb | rfl
    · exact (g.new b hb).imp (hF b) id
    · exact .inl (hB b hb)
    · exact .inl h0.dev.half.1
  · have k := g.keep
    exact ⟨h.os.trans (k.os.trans hA.os), h.tape.trans (k.tape.trans hA.tape), h.output.trans (k.output.trans hA.output), by have := k.size; have := hA.size; have := h.size; omega, fun b hb hn => ((h.block b (.inl hb)).trans (k.block b (by have := hA.size; omega) hn)).trans (hA.block b hb)⟩
  · exact (g.new b hb).imp id (fun h9 => by have := hA.size; omega)

end Go.Proofs.YtljmdcegcckblaaGreatDoor
/- The laws of layer 12: kept. -/
namespace Go.Proofs.YtljmdcegcckblaaGreatDoor
open Go.RowKit Go.Maps

end Go.Proofs.YtljmdcegcckblaaGreatDoor
/- The laws of layer 12: of, for acts on files and parts. -/
namespace Go.Proofs.YtljmdcegcckblaaGreatDoor
open Go.RowKit Go.Maps

end Go.Proofs.YtljmdcegcckblaaGreatDoor
/- The laws of layer 12: of, for acts on parts. -/
namespace Go.Proofs.YtljmdcegcckblaaGreatDoor
open Go.RowKit Go.Maps

/-- What of hands back for an act on parts. -/
def OfParts (w : World) (C z : Int) (lv : Value) (s : ByteArray) (q1 : Nat) (e : Ending) (w' : World) : Prop :=
  Below w.heap.size w w' ∧ ∃ kk pv, e = .returned (.agg (callC C 7 z 0 0 lv s pv)) ∧ q1 * kk ≤ s.size ∧ (restN s q1 kk).size ≤ q1 ∧ (kk = 0 ∨ 0 < (restN s q1 kk).size) ∧ w'.ownsRow w.heap.size 9 1 pv (kk + 1) ((piecesL s q1 kk ++ [restN s q1 kk]).map .string)

end Go.Proofs.YtljmdcegcckblaaGreatDoor
/- The laws of layer 12: acts that came in; what they ask, and what comes of it, in one form. -/
namespace Go.Proofs.YtljmdcegcckblaaGreatDoor
open Go.RowKit Go.Maps

/-- A value of an index turned. -/
def upd {α : Type} (g : Nat → α) (i : Nat) (v : α) (k : Nat) : α := if k = i then v else g k
theorem two (f2 : Nat) (h : f2 < 2) : f2 = 0 ∨ f2 = 1 := by omega

/-- What is asked: the lists, their slices and the sizes of the strings being given. -/
def OfSpec (w w' : World) (f2 : Nat) (sl : Nat → Value) (zs : Nat → Int) (cw ck cz co cn : Int) (cl : Value) (P : Option Addr) (pn : Nat) : Prop :=
  (cw = 0 ∧ ck = 8 ∧ cz = zs f2 ∧ 0 ≤ co ∧ co ≤ cz ∧ cn = 0 ∧ cl = sl f2) ∨
  (cw = 2 ∧ ck = 8 ∧ cz = zs f2 ∧ co = 0 ∧ 0 ≤ cn ∧ cn < 800 ∧ cl = sl f2) ∨
  (cw = 3 ∧ ck = 8 ∧ cz = zs f2 ∧ 0 ≤ co ∧ co ≤ cz ∧ 0 ≤ cn ∧ cn < 800 ∧ cl = sl f2) ∨
  ((cw = 5 ∨ cw = 6) ∧ ck = 7 ∧ cz = zs f2 ∧ co = 0 ∧ cn = 0 ∧ cl = sl 2 ∧ ∃ ps : List ByteArray, ps.length = pn ∧ pn ≤ 901 ∧ (∀ p ∈ ps, p.size ≤ 1000) ∧ Reads w' P (ps.map .string) ∧ ∀ a, P = some a → w.heap.size ≤ a.block ∧ a.block < w'.heap.size)
def OfPost (w : World) (f2 : Nat) (sl : Nat → Value) (zs : Nat → Int) (s : ByteArray) (e : Ending) (w' : World) : Prop :=
  Below w.heap.size w w' ∧ ∃ cw ck cz co cn cl P pn pc, e = .returned (.agg (callC cw ck cz co cn cl s (.slice P pn pc))) ∧ OfSpec w w' f2 sl zs cw ck cz co cn cl P pn

/-- What comes of it, where no error is returned. -/
def DoneSpec (w w' : World) (F' : List Nat) (f2 : Nat) (y' : TxS) (x : DevS) (ls : Nat → List Int) (tx : Nat → ByteArray) (s : ByteArray) (cw co cn : Int) (LA : Option Addr) (ln lk : Nat) (t : ByteArray) (z : Int) (ls' : Nat → List Int) (tx' : Nat → ByteArray) : Prop :=
  BookOk y' x (ls' 0) (ls' 1) (ls' 2) (tx' 0) (tx' 1) ∧
  ((cw = 0 ∧ ∃ L, ln = L.length ∧ Keeps w' F' LA lk L ∧ (∀ a, LA = some a → w.heap.size ≤ a.block) ∧ ls' = upd ls f2 L ∧ tx' = upd tx f2 (dwText (tx f2) s co (tx f2).size) ∧ z = (dwText (tx f2) s co (tx f2).size).size) ∨
   (cw = 2 ∧ ∃ L, ln = L.length ∧ Keeps w' F' LA lk L ∧ (∀ a, LA = some a → w.heap.size ≤ a.block) ∧ ls' = upd ls f2 L ∧ tx' = upd tx f2 (dcText (tx f2) cn (tx f2).size) ∧ cn = (dcText (tx f2) cn (tx f2).size).size) ∨
   (cw = 3 ∧ ls' = ls ∧ tx' = tx ∧ t = (tx f2).extract (min co (tx f2).size).toNat (min co (tx f2).size + min cn ((tx f2).size - min co (tx f2).size)).toNat) ∨
   (cw = 5 ∧ ∃ L, ln = L.length ∧ Keeps w' F' LA lk L ∧ (∀ a, LA = some a → w.heap.size ≤ a.block) ∧ ls' = upd ls 2 L ∧ tx' = tx) ∨
   (cw = 6 ∧ ls' = ls ∧ tx' = tx))
def DonePost (w : World) (T : Nat) (F : List Nat) (D : Nat) (B : List Nat) (f2 : Nat) (x : DevS) (ls : Nat → List Int) (tx : Nat → ByteArray) (s : ByteArray) (cw co cn : Int) (e : Ending) (w' : World) : Prop :=
  ∃ LA ln lk pv t z E y' F', e = .returned (.agg (ansC (.slice LA ln lk) pv t z E)) ∧ (∃ PA pn pk, pv = .slice PA pn pk) ∧ TD w' T F' D y' B x ∧ Grow w F w' F' ∧ (E = 0 → ∃ ls' tx', DoneSpec w w' F' f2 y' x ls tx s cw co cn LA ln lk t z ls' tx')

theorem BookOk.lst {y : TxS} {x : DevS} {ls : Nat → List Int} {tx : Nat → ByteArray} (h : BookOk y x (ls 0) (ls 1) (ls 2) (tx 0) (tx 1)) {f2 : Nat} (hf : f2 < 2) : Lst y (ls f2) ∧ Holds y x 8 (ls f2) (tx f2) := by
  rcases two f2 hf with rfl | rfl
  · exact ⟨h.a0, h.h0⟩
  · exact ⟨h.a1, h.h1⟩

end Go.Proofs.YtljmdcegcckblaaGreatDoor
/- The laws of layer 12: in (is a number in a list?). -/
namespace Go.Proofs.YtljmdcegcckblaaGreatDoor
open Go.RowKit Go.Maps

end Go.Proofs.YtljmdcegcckblaaGreatDoor
/- The laws of layer 12: at (the record of a sector). -/
namespace Go.Proofs.YtljmdcegcckblaaGreatDoor
open Go.RowKit Go.Maps

theorem recs_at {w : World} {A : Option Addr} {l : List Rec} (h : Reads w A (l.flatMap recV)) {k : Nat} (hk : k < l.length) :
    ∃ b off, A = some ⟨b, off, none⟩ ∧ b < w.heap.size ∧ w.cell? ⟨b, off + k * 3, none⟩ = some (.int .i64 l[k].at_) ∧ w.cell? ⟨b, off + k * 3 + 1, none⟩ = some (.int .i64 l[k].kind) ∧ w.cell? ⟨b, off + k * 3 + 2, none⟩ = some (.string l[k].data) := by
  have hg : ∀ j, j < 3 → (l.flatMap recV)[k * 3 + j]? = (recV l[k])[j]? := fun j hj => flat_get (f := recV) (m := 3) (fun _ _ => rfl) hj hk
  rcases h with h | ⟨b, off, hA, hlt, hc⟩
  · exfalso
    have := hg 0 (by omega)
    rw [h] at this
    simp [recV] at this
  · have g : ∀ j u, j < 3 → (recV l[k])[j]? = some u → w.cell? ⟨b, off + k * 3 + j, none⟩ = some u := fun j u hj hu => by rw [Nat.add_assoc]; exact hc _ _ ((hg j hj).trans hu)
    exact ⟨b, off, hA, hlt, g 0 _ (by omega) rfl, g 1 _ (by omega) rfl, g 2 _ (by omega) rfl⟩
set_option maxRecDepth 100000 in
theorem recAt_any (A : Option Addr) (c : Nat) (l : List Rec) (hl : l.length ≤ 100000) (n : Int) (w : World) (hA : Reads w A (l.flatMap recV)) :
    Calls Tryz.prog 18 #[.slice A l.length c, .int .i64 n] w fun e w' => e = .returned (.agg (recC ((atRec l n).getD noRec))) ∧ Below w.heap.size w w' := by
  obtain ⟨w1, hw1⟩ : ∃ w1, w1 = w.alloc (.cells #[.int .i64 0, .int .i64 0, .string ⟨#[]⟩] 65) := ⟨_, rfl⟩
  have b1 : Blk w1 w.heap.size 65 #[.int .i64 0, .int .i64 0, .string ⟨#[]⟩] := by rw [hw1]; exact Blk.new _ _ _
  have B1 : Below w.heap.size w w1 := by rw [hw1]; exact (Below.refl _ _).alloc (Nat.le_refl _) _
  have HW := Lib.hid hw1
  clear hw1
  go_enter Tryz.func18, Tryz.ntmps18
  go_wp2_with fail
  rw [← HW.out]
  go_loopw [5] (fun q wr => ∃ k : Nat, k ≤ l.length ∧ q = .int .i64 k ∧ atRec (l.take k) n = none ∧ Below w.heap.size w wr ∧ Blk wr w.heap.size 65 #[.int .i64 0, .int .i64 0, .string ⟨#[]⟩]) (fun q _ => l.length - (RowKit.intOf q).toNat)
  case atStart => exact ⟨0, Nat.zero_le _, rfl, rfl, B1, b1⟩
  case round =>
    obtain ⟨k, hk, rfl, ht, hb, bb⟩ := hrel
    by_cases hlt : k < l.length
    · obtain ⟨b, off, rfl, hbl, c0, c1, c2⟩ := recs_at (hA.below hb) hlt
      have HTA := Lib.hid (show l.take (k + 1) = l.take k ++ [l[k]] by rw [List.take_succ_eq_append_getElem hlt])
      have HAT : Hid (l[k].at_ = n → atRec l n = some l[k]) := Lib.hid fun e => by
        have hs : l.take k ++ l[k] :: l.drop (k + 1) = l := by rw [← List.drop_eq_getElem_cons hlt, List.take_append_drop]
        unfold atRec at ht ⊢
        refine (congrArg (List.find? _) hs).symm.trans ?_
        rw [List.find?_append, ht, List.find?_cons_of_pos (by simpa using e)]
        rfl
      have HT := Lib.hid ht
      have HA' := Lib.hid hA
      generalize l[k] = x at *
      clear ht hA
      have cB := bb.cells
      have lB := bb.lt
      by_cases he : x.at_ = n
      · have HD : Hid (atRec l n = some x) := Lib.hid (HAT.out he)
        obtain ⟨xa, xk, xd⟩ := x
        simp only at he c0 c1 c2
        subst he
        have hst := storeRow (ty := 65) (vs := #[.int .i64 xa, .int .i64 xk, .string xd]) bb rfl (by simp [Value.oneCell']) (by kernel_rfl)
        have HS := Lib.hid (Below.setRow (cs := #[.int .i64 xa, .int .i64 xk, .string xd]) hb (Nat.le_refl _))
        have b2 := bb.setRow (cs' := #[.int .i64 xa, .int .i64 xk, .string xd])
        clear cB lB
        go_wp2_with (refine wpList_storeBy rfl _ _ _ rfl _ _ rfl rfl hst ?_)
        have cF := b2.cells
        refine bodyPost_ret (v := .agg #[.int .i64 xa, .int .i64 xk, .string xd]) (by simp [results, Tryz.results18, go_sem, cF]) rfl ?_
        exact ⟨by rw [HD.out]; rfl, HS.out⟩
      · have hq : (x.at_ == n) = false := by simpa using he
        have HE := Lib.hid he
        clear he
        go_wp2_with fail
        go_roundw
        case rel => exact ⟨k + 1, by omega, by go_num, by
          have h1 := HT.out
          have h2 := HE.out
          rw [HTA.out]
          unfold atRec at h1 ⊢
          rw [List.find?_append, h1]
          simp [h2], hb, bb⟩
        case measure => simp [RowKit.intOf]; omega
    · obtain rfl : k = l.length := by omega
      have HD : Hid (atRec l n = none) := Lib.hid (by rw [List.take_length] at ht; exact ht)
      clear ht
      have hst := storeRow (ty := 65) (vs := #[.int .i64 0, .int .i64 0, .string ⟨#[]⟩]) bb rfl (by simp [Value.oneCell']) (by kernel_rfl)
      have HS := Lib.hid (Below.setRow (cs := #[.int .i64 0, .int .i64 0, .string ⟨#[]⟩]) hb (Nat.le_refl _))
      have b2 := bb.setRow (cs' := #[.int .i64 0, .int .i64 0, .string ⟨#[]⟩])
      go_wp2_with (refine wpList_storeBy rfl _ _ _ rfl _ _ rfl rfl hst ?_)
      have cF := b2.cells
      refine bodyPost_ret (v := .agg #[.int .i64 0, .int .i64 0, .string ⟨#[]⟩]) (by simp [results, Tryz.results18, go_sem, cF]) rfl ?_
      exact ⟨by rw [HD.out]; rfl, HS.out⟩
end Go.Proofs.YtljmdcegcckblaaGreatDoor
/- The laws of layer 12: kept and far, in one form. -/
namespace Go.Proofs.YtljmdcegcckblaaGreatDoor
open Go.RowKit Go.Maps

def bigA (a : ActV) : Bool := decide (900 < a.s.size) || decide (20 < a.m)
def farB (xs : List ActV) : Bool := decide (20 < xs.length) || xs.any bigA

end Go.Proofs.YtljmdcegcckblaaGreatDoor
/- P12.6: DataArray: between two acts. -/
namespace Go.Proofs.YtljmdcegcckblaaGreatDoor
open Go.RowKit Go.Maps

/-- A transaction on its device; the transaction is younger than the world w0. -/
structure Run (w0 w : World) (T : Nat) (F : List Nat) (D : Nat) (y : TxS) (B : List Nat) (x : DevS) : Prop where
  td : TD w T F D y B x
  bl : Below w0.heap.size w0 w
  fl : ∀ b ∈ F, w0.heap.size ≤ b
section
variable {w0 w w' : World} {T : Nat} {F F' : List Nat} {D : Nat} {y y' : TxS} {B : List Nat} {x : DevS}
theorem Run.below (h : Run w0 w T F D y B x) (hb : Below w.heap.size w w') : Run w0 w' T F D y B x := ⟨h.td.below hb, h.bl.trans (hb.mono h.bl.size), h.fl⟩
theorem Run.did (h : Run w0 w T F D y B x) (ht : TD w' T F' D y' B x) (g : Grow w F w' F') : Run w0 w' T F' D y' B x := ⟨ht, h.bl.trans (g.below h.bl.size h.fl), g.lo h.bl.size h.fl⟩
theorem Run.set_ (h : Run w0 w T F D y B x) {p : Addr} (h1 : p.block ∉ F) (h2 : p.block ∉ B) (h00 : 0 < w0.heap.size) (h0 : w0.heap.size ≤ p.block) (u : Value) : Run w0 (w.setCell p u) T F D y B x :=
  ⟨h.td.set_ h1 h2 (by omega) u, h.bl.setCell h0 u, h.fl⟩
theorem Run.row (h : Run w0 w T F D y B x) {g : Nat} (h1 : g ∉ F) (h2 : g ∉ B) (h00 : 0 < w0.heap.size) (h0 : w0.heap.size ≤ g) (cs : Array Value) : Run w0 (w.setRow g cs) T F D y B x :=
  ⟨h.td.keep (fun b hb => setRow_other w g b cs (fun e => by
    subst e
    rcases hb with hb | hb | hb
    · exact h1 hb
    · exact h2 hb
    · omega)) (by simp), Below.setRow h.bl h0 _, h.fl⟩
end
theorem Keeps.set_ {w : World} {F : List Nat} {A : Option Addr} {c : Nat} {l : List Int} (h : Keeps w F A c l) {p : Addr} (hp : ∀ a, A = some a → a.block ≠ p.block) (u : Value) : Keeps (w.setCell p u) F A c l :=
  ⟨⟨by
    rcases h.sl.reads with h0 | ⟨b, off, e, hl, hc⟩
    · exact .inl h0
    · exact .inr ⟨b, off, e, by simpa using hl, fun j v hv => (World.cell?_of_block (w := w) (a := ⟨b, off + j, none⟩) (Below.heap_setCell w p u b (show b ≠ p.block from hp _ e))).trans (hc j v hv)⟩, h.sl.nil, h.sl.cap⟩,
   fun a e => ⟨(h.out a e).1, by simpa using (h.out a e).2⟩⟩
theorem Keeps.row {w : World} {F : List Nat} {A : Option Addr} {c : Nat} {l : List Int} (h : Keeps w F A c l) {g : Nat} (hp : ∀ a, A = some a → a.block ≠ g) (cs : Array Value) : Keeps (w.setRow g cs) F A c l :=
  ⟨⟨by
    rcases h.sl.reads with h0 | ⟨b, off, e, hl, hc⟩
    · exact .inl h0
    · exact .inr ⟨b, off, e, by simpa using hl, fun j v hv => (World.cell?_of_block (w := w) (a := ⟨b, off + j, none⟩) (setRow_other _ _ _ _ (show b ≠ g from hp _ e))).trans (hc j v hv)⟩, h.sl.nil, h.sl.cap⟩,
   fun a e => ⟨(h.out a e).1, by simpa using (h.out a e).2⟩⟩

def slOf (As : Nat → Option Addr) (cs : Nat → Nat) (ls : Nat → List Int) (k : Nat) : Value := .slice (As k) (ls k).length (cs k)
def zsOf (tx : Nat → ByteArray) (k : Nat) : Int := (tx k).size
/-- The law's own boxes: the book in block N7, the texts in block N8. -/
structure BoxAt (w : World) (F B : List Nat) (N7 N8 : Nat) (ls : Nat → List Int) (zs : Nat → Int) (tx : Nat → ByteArray) (As : Nat → Option Addr) (cs : Nat → Nat) : Prop where
  b7 : Blk w N7 38 (bookC (slOf As cs ls 0) (slOf As cs ls 1) (slOf As cs ls 2) (zs 0) (zs 1))
  b8 : Blk w N8 39 #[.string (tx 0), .string (tx 1)]
  f7 : N7 ∉ F
  f8 : N8 ∉ F
  d7 : N7 ∉ B
  d8 : N8 ∉ B
  ne : N7 ≠ N8
  kp : ∀ k, k < 3 → Keeps w F (As k) (cs k) (ls k)
  k7 : ∀ k a, k < 3 → As k = some a → a.block ≠ N7
  k8 : ∀ k a, k < 3 → As k = some a → a.block ≠ N8
section
variable {w w' : World} {F F' B : List Nat} {N7 N8 : Nat} {ls : Nat → List Int} {zs : Nat → Int} {tx : Nat → ByteArray} {As : Nat → Option Addr} {cs : Nat → Nat}
theorem BoxAt.grow (h : BoxAt w F B N7 N8 ls zs tx As cs) (g : Grow w F w' F') : BoxAt w' F' B N7 N8 ls zs tx As cs :=
  ⟨g.blk h.b7 h.f7, g.blk h.b8 h.f8, g.notin h.f7 h.b7.lt, g.notin h.f8 h.b8.lt, h.d7, h.d8, h.ne, fun k hk => (h.kp k hk).grow g, h.k7, h.k8⟩
theorem BoxAt.below (h : BoxAt w F B N7 N8 ls zs tx As cs) (hb : Below w.heap.size w w') : BoxAt w' F B N7 N8 ls zs tx As cs := h.grow (Grow.of_below hb F)
/-- One of the texts is written. -/
theorem BoxAt.text (h : BoxAt w F B N7 N8 ls zs tx As cs) (f2 : Nat) (hf : f2 < 2) (t : ByteArray) : BoxAt (w.setCell ⟨N8, f2, none⟩ (.string t)) F B N7 N8 ls zs (upd tx f2 t) As cs :=
  ⟨h.b7.far (p := ⟨N8, f2, none⟩) h.ne _, by
    have := h.b8.set_ f2 (.string t)
    rcases two f2 hf with rfl | rfl <;> exact this, h.f7, h.f8, h.d7, h.d8, h.ne, fun k hk => (h.kp k hk).set_ (p := ⟨N8, f2, none⟩) (fun a e => h.k8 k a hk e) _, h.k7, h.k8⟩
/-- The book is written. -/
theorem BoxAt.book (h : BoxAt w F B N7 N8 ls zs tx As cs) {ls' : Nat → List Int} {zs' : Nat → Int} {As' : Nat → Option Addr} {cs' : Nat → Nat} (kp : ∀ k, k < 3 → Keeps w F (As' k) (cs' k) (ls' k)) (k7 : ∀ k a, k < 3 → As' k = some a → a.block ≠ N7) (k8 : ∀ k a, k < 3 → As' k = some a → a.block ≠ N8) :
    BoxAt (w.setRow N7 (bookC (slOf As' cs' ls' 0) (slOf As' cs' ls' 1) (slOf As' cs' ls' 2) (zs' 0) (zs' 1))) F B N7 N8 ls' zs' tx As' cs' :=
  ⟨h.b7.setRow, (setRow_other _ _ _ _ (Ne.symm h.ne)).trans h.b8, h.f7, h.f8, h.d7, h.d8, h.ne, fun k hk => (kp k hk).row (fun a e => k7 k a hk e) _, k7, k8⟩
end
theorem OfSpec.below {w w1 w2 : World} {f2 : Nat} {sl : Nat → Value} {zs : Nat → Int} {cw ck cz co cn : Int} {cl : Value} {P : Option Addr} {pn : Nat} (h : OfSpec w w1 f2 sl zs cw ck cz co cn cl P pn) (hb : Below w1.heap.size w1 w2) : OfSpec w w2 f2 sl zs cw ck cz co cn cl P pn := by
  rcases h with h | h | h | ⟨h1, h2, h3, h4, h5, h6, ps, p1, p2, p3, p4, p5⟩
  · exact .inl h
  · exact .inr (.inl h)
  · exact .inr (.inr (.inl h))
  · exact .inr (.inr (.inr ⟨h1, h2, h3, h4, h5, h6, ps, p1, p2, p3, p4.below hb, fun a e => ⟨(p5 a e).1, Nat.lt_of_lt_of_le (p5 a e).2 hb.size⟩⟩))
theorem OfSpec.row {w w1 : World} {f2 : Nat} {sl : Nat → Value} {zs : Nat → Int} {cw ck cz co cn : Int} {cl : Value} {P : Option Addr} {pn : Nat} (h : OfSpec w w1 f2 sl zs cw ck cz co cn cl P pn) {g : Nat} (hg : ∀ b, w.heap.size ≤ b → b < w1.heap.size → b ≠ g) (cs : Array Value) : OfSpec w (w1.setRow g cs) f2 sl zs cw ck cz co cn cl P pn := by
  rcases h with h | h | h | ⟨h1, h2, h3, h4, h5, h6, ps, p1, p2, p3, p4, p5⟩
  · exact .inl h
  · exact .inr (.inl h)
  · exact .inr (.inr (.inl h))
  · refine .inr (.inr (.inr ⟨h1, h2, h3, h4, h5, h6, ps, p1, p2, p3, ?_, fun a e => ⟨(p5 a e).1, by simpa using (p5 a e).2⟩⟩))
    rcases p4 with h0 | ⟨b, off, e, hl, hc⟩
    · exact .inl h0
    · have hb := p5 _ e
      exact .inr ⟨b, off, e, by simpa using hl, fun j v hv => (World.cell?_of_block (w := w1) (a := ⟨b, off + j, none⟩) (setRow_other _ _ _ _ (hg b hb.1 hb.2))).trans (hc j v hv)⟩
/-- The call's box is made behind the call. -/
theorem OfSpec.made {w w1 w2 : World} {f2 : Nat} {sl : Nat → Value} {zs : Nat → Int} {cw ck cz co cn : Int} {cl : Value} {P : Option Addr} {pn : Nat} (h : OfSpec w w1 f2 sl zs cw ck cz co cn cl P pn) (hb : Below w1.heap.size w1 w2) (cs : Array Value) : OfSpec w (w2.setRow w1.heap.size cs) f2 sl zs cw ck cz co cn cl P pn := by
  rcases h with h | h | h | ⟨h1, h2, h3, h4, h5, h6, ps, p1, p2, p3, p4, p5⟩
  · exact .inl h
  · exact .inr (.inl h)
  · exact .inr (.inr (.inl h))
  · have hz := hb.size
    refine .inr (.inr (.inr ⟨h1, h2, h3, h4, h5, h6, ps, p1, p2, p3, ?_, fun a e => ⟨(p5 a e).1, by have := (p5 a e).2; simp; omega⟩⟩))
    rcases p4.below hb with h0 | ⟨b, off, e, hl, hc⟩
    · exact .inl h0
    · have hb2 : b < w1.heap.size := (p5 _ e).2
      exact .inr ⟨b, off, e, by simpa using hl, fun j v hv => (World.cell?_of_block (w := w2) (a := ⟨b, off + j, none⟩) (setRow_other _ _ _ _ (show b ≠ w1.heap.size by omega))).trans (hc j v hv)⟩
theorem OfSpec.cw {w w1 : World} {f2 : Nat} {sl : Nat → Value} {zs : Nat → Int} {cw ck cz co cn : Int} {cl : Value} {P : Option Addr} {pn : Nat} (h : OfSpec w w1 f2 sl zs cw ck cz co cn cl P pn) : cw = 0 ∨ cw = 2 ∨ cw = 3 ∨ cw = 5 ∨ cw = 6 := by
  rcases h with h | h | h | ⟨h, -⟩
  · exact .inl h.1
  · exact .inr (.inl h.1)
  · exact .inr (.inr (.inl h.1))
  · rcases h with h | h
    · exact .inr (.inr (.inr (.inl h)))
    · exact .inr (.inr (.inr (.inr h)))
theorem layout_rg (j i : Int) : rgE 64 (8 + j % 21) (1 + i % 26) = 0 := by
  have h1 : 0 ≤ j % 21 ∧ j % 21 ≤ 20 := by omega
  have h2 : 0 ≤ i % 26 ∧ i % 26 ≤ 25 := by omega
  exact rgE_0 (by omega) (by omega)
end Go.Proofs.YtljmdcegcckblaaGreatDoor
/- P12.6: plain words on strings: what the law's own texts become. -/
namespace Go.Proofs.YtljmdcegcckblaaGreatDoor
open Go.RowKit Go.Maps

theorem OfSpec.rg {w w1 : World} {f2 : Nat} {sl : Nat → Value} {zs : Nat → Int} {cw ck cz co cn : Int} {cl : Value} {P : Option Addr} {pn : Nat} (h : OfSpec w w1 f2 sl zs cw ck cz co cn cl P pn) (hz : 0 ≤ zs f2) : 0 ≤ co ∧ co ≤ zs f2 ∧ 0 ≤ cn ∧ cn < 800 := by
  rcases h with h | h | h | ⟨h1, h2, h3, h4, h5, h6⟩
  · omega
  · omega
  · omega
  · omega
end Go.Proofs.YtljmdcegcckblaaGreatDoor
/- The laws of layer 12: what their rows share. -/
namespace Go.Proofs.YtljmdcegcckblaaGreatDoor
open Go.ChangeShapes Go.WideShapes Go.ChangeAt Go.RowKit Go.Joins Go.Deep

theorem Tryz.own : ownKnob Tryz.prog.godebug = none := by kernel_rfl
theorem Tryz.laidOut : laidOutB Tryz.prog = true := by kernel_rfl
theorem gHalf : Tryz.prog.globalNamed "limewash/sums.half" = some 0 := by kernel_rfl
def half1 : List (String × DataW Unit) := [("limewash/sums.half", Rows.laid_limewash_sums_half)]

/-- The heap that the program's start leaves meets the condition. -/
theorem door_met (os : Os) (args : Array Value) : laidMetH Tryz.prog half1 ((World.doorLaid Tryz.prog 400 os).forCall (fun _ _ => 0) ⟨#[], args, []⟩).memory :=
  laidMetH_of_parts3 (fuel := 8) (laidMet_of_run' 8 (by kernel_rfl) (by kernel_rfl)) (by kernel_rfl) (by kernel_rfl)

theorem gHalfType : (Tryz.prog.globals[0]?).map (·.type) = some 256 := by kernel_rfl
theorem half_of_laid {W : World} (h : laidMetH Tryz.prog half1 W) : HalfAt W := by
  rw [MakeChecks.laidMetH_plain _ _ _ (by kernel_rfl)] at h
  have hT : Lib.TabIs Tryz.prog W "limewash/sums.half" .u32 halfL := Lib.tabIs_of_head (n := 16) (e := 126) gHalf gHalfType (by kernel_rfl) (by kernel_rfl) (by kernel_rfl) (by kernel_rfl) h
  have hc : ∀ j, j < 16 → W.cell? ⟨0, j, none⟩ = some (.int .u32 (halfL.getD j 0)) := fun j hj => hT.cell gHalf j hj
  exact ⟨block_lt_of_cell (hc 0 (by omega)), hc⟩

theorem Tryz.cellsStart : Tryz.prog.cellsOf 23 = 2 := by kernel_rfl
section
variable {H : Type} {enc : TypeId × Value → H} {W : World}
set_option maxRecDepth 100000 in
theorem open_start {r : Reach} {b0 : Nat} {v : Value} {d : DataW H} {p : List MemPlace} (hv : Value.okWide Tryz.prog W r b0 23 v) (h : DataW.Trod enc Tryz.prog W 0 (fun _ => true) true 23 v d p) :
    ∃ j i : Int, v = .agg #[.int .u8 j, .int .u8 i] ∧ (0 ≤ j ∧ j ≤ 255) ∧ (0 ≤ i ∧ i ≤ 255) := by
  obtain ⟨cs, rfl, hsz⟩ := okWide_struct Tryz.underlying23 hv
  rw [Tryz.cellsStart] at hsz
  obtain ⟨l0⟩ := cs
  obtain ⟨fuel, hf⟩ := h
  have hf2 : DataW.trod enc Tryz.prog W 0 (fun _ => true) true fuel 23 l0 = some (d, p) := by simpa [Value.cells] using hf
  match l0, hsz with
  | [c0, c1], _ =>
    obtain ⟨xs, n, _, _, _, hlen, hg⟩ := DataW.trod_struct Tryz.underlying23 hf2
    have g0 : DataW.trod enc Tryz.prog W 0 (fun _ => true) true n 5 [c0] = xs[0]? := by have := hg 0 _ rfl; simpa [Tryz.cellsU8, Value.cells] using this
    have g1 : DataW.trod enc Tryz.prog W 0 (fun _ => true) true n 5 [c1] = xs[1]? := by have := hg 1 _ rfl; simpa [Tryz.cellsU8, Value.cells] using this
    clear hg
    match xs, hlen with
    | [y0, y1], _ =>
      simp only [List.getElem?_cons_zero, List.getElem?_cons_succ] at g0 g1
      obtain ⟨a0, e0, _, w0⟩ := DataW.trod_int Tryz.underlying5 g0
      obtain ⟨a1, e1, _, w1⟩ := DataW.trod_int Tryz.underlying5 g1
      simp at e0 e1
      subst e0 e1
      exact ⟨a0, a1, rfl, wf_u8_iff w0, wf_u8_iff w1⟩
end
end Go.Proofs.YtljmdcegcckblaaGreatDoor
