import Derived.WalkKit
import Derived.WalkSpells
import Derived.WalkLawsBesides
import Derived.BigQuiet
import Derived.Deep.Draws
import Derived.Deep.AppendLies
import Derived.Lib.Hide
import Derived.Maps.AppendAt
import Derived.RegionTactic
import Derived.OwnWalk
set_option linter.all false
namespace Go.Proofs.YtejmknghkbobnaaGreatDoor
open Go.RowKit Go.Maps
abbrev kD:=@Lib.hid
abbrev kE:=@Nat.le_refl
abbrev kF:=@Below.refl
abbrev kG:=@Below.setCell
abbrev kH:=@List.set_cons_zero
abbrev kI:=@List.set_cons_succ
abbrev kJ:=@List.setIfInBounds_toArray
abbrev kK:=@Below.drew
abbrev kM:=@Below.alloc
abbrev kN:=@List.getD_eq_getElem?_getD
abbrev kO:=@Nat.le_trans
abbrev kP:=@Nat.zero_le
abbrev kQ:=@List.getElem?_eq_getElem
abbrev kR:=@List.map_cons
abbrev kS:=@List.map_nil
abbrev kT:=@List.getD_cons_zero
abbrev kV:=@List.getD_cons_succ
abbrev kW:=@IntKind.wrap_i64
abbrev kX:=@List.length_take
abbrev kY:=@List.length_append
abbrev kZ:=@List.take_succ_eq_append_getElem
abbrev ld:=@Nat.zero_add
abbrev lf:=@List.getElem_map
abbrev lh:=@Nat.lt_of_lt_of_le
abbrev li:=@List.getElem_mem
abbrev lj:=@List.take_length
abbrev lp:=@List.mem_cons
abbrev lq:=@Bool.and_eq_true
abbrev lr:=@List.length_cons
abbrev lu:=@Array.getElem?_eq_some_iff
abbrev lx:=@Option.some.injEq
abbrev ly:=@List.mem_cons_of_mem
abbrev lz:=@Int.eq_ofNat_of_zero_le
abbrev lE:=@List.mem_append
abbrev lH:=@List.length_nil
abbrev lI:=@Int.tmod_eq_emod_of_nonneg
abbrev lO:=@Int.toNat_natCast
abbrev lY:=@Nat.mod_eq_of_lt
abbrev lZ:=@List.length_map
abbrev m4:=@List.length_replicate
abbrev m9:=@List.flatMap_cons
abbrev ma:=@List.length_drop
abbrev mc:=@List.getElem?_append_left
abbrev md:=@List.eq_nil_of_length_eq_zero
abbrev me:=@List.mem_cons_self
abbrev mf:=@List.getElem?_eq_some_iff
abbrev mg:=@List.mem_singleton
abbrev mh:=@List.getElem?_take
abbrev mj:=@List.take_of_length_le
abbrev ml:=@List.getElem?_append_right
abbrev mm:=@List.take_zero
abbrev mo:=@List.nil_append
abbrev mp:=@List.append_nil
abbrev mq:=@List.getElem?_map
abbrev mr:=@List.getElem?_cons_succ
abbrev mt:=@List.mem_append_left
abbrev mu:=@List.mem_append_right
abbrev mv:=@List.eq_of_mem_replicate
abbrev mw:=@List.getElem?_cons_zero
abbrev Zr (w:World)(w':World):Prop:=Below w.heap.size w w'
abbrev Zq (v:Value)(w:World)(e:Ending)(w':World):Prop:=e=.returned v/\Below w.heap.size w w'
theorem zex {α:Type _}(a:α):∃x,x=a:=⟨a,rfl⟩
theorem zxe {α:Type _}(a:α):∃x,a=x:=⟨a,rfl⟩
theorem zgr {B:Nat}{a w:World}(h:Below B a w:=by (repeat' (first|with_reducible (first|exact Below.refl _ _|assumption|refine Below.alloc ?_ ?_ _|refine Below.drew ?_|refine aa ?_ _|refine Below.setCell ?_ ?_ _|exact Nat.le_refl _)|omega|(simp;done)|(simp;omega)))):Below B a w:=h
end Go.Proofs.YtejmknghkbobnaaGreatDoor
