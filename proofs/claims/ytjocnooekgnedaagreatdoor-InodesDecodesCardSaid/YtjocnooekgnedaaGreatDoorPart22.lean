/- Layer 10: change. -/
import Derived.Test.YtjocnooekgnedaaGreatDoorPart21
set_option linter.unusedVariables false
set_option linter.unusedSimpArgs false
namespace Go.Proofs.YtjocnooekgnedaaGreatDoor
open Go.RowKit Go.Maps

def TxS.changeE (y : TxS) (n : Nat) : Int := if n = 0 then 0 else if y.changed = false ∧ y.left < 1 then 12 else 0
def TxS.change (y : TxS) (us : List Bool) (n : Nat) : TxS := if n = 0 then y else if y.changed = false ∧ y.left < 1 then y else { y with now := us, changed := true }
/-- A transaction's operation. -/
def TxDid (w : World) (T : Nat) (F : List Nat) (D : Nat) (E : Int) (y : TxS) (e : Ending) (w' : World) : Prop := e = .returned (.int .i64 E) ∧ ∃ F', TxAt w' T F' D y ∧ Grow w F w' F'

theorem storeAtRow {W : World} {g o : Nat} {t ty : TypeId} {cur : Array Value} {vs : Array Value} (b : Blk W g t cur) (hl : o + vs.size ≤ cur.size) (h1 : vs.all (·.oneCell') = true) (hsz : (sizeOf ty).run Tryz.prog W = .ok vs.size W) :
    (Instr.storeAt ty (.pointer (some ⟨g, o, none⟩)) (.agg vs)).run Tryz.prog W = .ok () (W.setRow g (cur.toList.take o ++ vs.toList ++ cur.toList.drop (o + vs.toList.length)).toArray) := by
  have h := run_storeAt_row (P := Tryz.prog) (w := W) (ty := ty) (t := t) (g := g) (o := o) (cur := cur) (vs := vs.toList) b (by simpa using hl) (fun v hv => by
    have := Array.all_eq_true'.1 h1 v (by simpa using hv)
    exact this) (by simpa using hsz)
  simpa using h


end Go.Proofs.YtjocnooekgnedaaGreatDoor
