/- Parts of the proof, put together by program: IC, IL, ID, IE, IF. -/
import Derived.Test.YtljmdcegcckblaaGreatDoorQuart34
import Derived.Test.YtljmdcegcckblaaGreatDoorQuart14
import Derived.Test.YtljmdcegcckblaaGreatDoorQuart18
import Derived.RangeFuncNested
import Derived.Shelf.SlLaysF0
import Derived.Test.YtljmdcegcckblaaGreatDoorProg
import Derived.Shelf.SlSortCmp.WholeK
import Derived.Shelf.SlSortCmp.NoneTotal
/- Layer 10: slices.Collect of a map's records. -/
namespace Go.Proofs.YtljmdcegcckblaaGreatDoor
open Go.RowKit Go.Maps Go.Shelf Go.Sort

attribute [local go_sem] Oper.semAt_some

def RecsBox (B base : Nat) (l : List Rec) (W : World) : Prop :=
  ∃ v, Boxed W B 60 v ∧ W.ownsRow base 65 3 v l.length (l.flatMap recV) ∧ (v = .slice none 0 0 ↔ l = [])
theorem recsBox_own (B base C : Nat) : OwnFrom C (fun (l : List Rec) W => RecsBox B base l W) :=
  Own.from (holdsRow_own base B 60 65 3 (fun l : List Rec => l.length) (fun l => l.flatMap recV) (fun l v => v = .slice none 0 0 ↔ l = [])) C

def CollRecs (rs : List Rec) (w : World) (e : Ending) (w' : World) : Prop :=
  ∃ v xs, e = .returned v ∧ xs.Perm rs ∧ w'.ownsRow w.heap.size 65 3 v xs.length (xs.flatMap recV) ∧ (v = .slice none 0 0 ↔ xs = []) ∧ Below w.heap.size w w'

theorem blk_ownFrom (C p : Nat) (t : TypeId) (cs : Array Value) : OwnFrom C (fun (_ : Unit) W => Blk W p t cs) := fun _ A B row hs hg hr => by
  refine hs.grown hg fun e => ?_
  obtain ⟨o, ho, hn⟩ := (hr p e.symm).2
  rw [hs] at ho
  cases ho
  cases hn

set_option maxRecDepth 100000 in
set_option maxHeartbeats 2000000 in
theorem appendSeq_recs (Bs b : Nat) (rs : List Rec) (hrs : rs.length ≤ 1000) (E : DataW Unit) (hE : RecMap E rs) (w : World) (bB : Blk w Bs 104 #[.map (some b)]) (hown : w.ownsMap Tryz.prog 3 recR b rs.length E) :
    Calls Tryz.prog 65 #[.slice none 0 0, .func (.func 66) #[] #[.pointer (some ⟨Bs, 0, none⟩)]] w (CollRecs rs w) := by
  refine calls_of_marks Tryz.func65 rfl ?_
  simp only [Tryz.ntmps65, List.size_toArray, List.length_cons, List.length_nil, Nat.reduceAdd, Nat.reduceSub, Array.replicate_succ, Array.replicate_zero, List.push_toArray, List.append_toArray, List.nil_append, List.cons_append]
  have lB := bB.lt
  obtain ⟨W1, hW1⟩ : ∃ W1, W1 = w.alloc (.cells #[.slice none 0 0] 60) := ⟨_, rfl⟩
  have b1 : Blk W1 Bs 104 #[.map (some b)] := by rw [hW1]; exact bB.alloc _
  have bL1 : Boxed W1 w.heap.size 60 (.slice none 0 0) := by rw [hW1]; exact Blk.new _ _ _
  have hz1 : W1.heap.size = w.heap.size + 1 := by rw [hW1]; simp
  have B1 : Below w.heap.size w W1 := by rw [hW1]; exact (Below.refl _ _).alloc (Nat.le_refl _) _
  have hown1 : W1.ownsMap Tryz.prog 3 recR b rs.length E := map_block hown (B1.block b hown.lt)
  obtain ⟨i0, hi, hz0, hzs, hzb⟩ := info_parts Tryz.infoRec
  have HHI := Lib.hid hi
  clear hi
  go_wp2_with fail
  rw [← hW1]
  clear hW1
  refine range_meet (n := 6) (fun D W => W.heap[D]? = some (.deferred (some [])) ∧ w.heap.size + 1 ≤ D ∧ ∃ xs, xs.Perm rs ∧ RecsBox w.heap.size (w.heap.size + 1) xs W ∧ KeepEx (w.heap.size + 1) [w.heap.size] W1 W) ?loop ?after
  case loop =>
    refine wpIn_rangeFunc_ownH rfl (by omega) (gf := 66) (lb := #[.pointer (some ⟨Bs, 0, none⟩)]) rfl trivial (enters_of Tryz.func66 (by kernel_rfl) rfl)
      (vals_stops Fence.wide (6 - 1) trivial rfl (by omega) Bs b rs E hE W1 b1.lt ((b1.cells 0).trans rfl) hown1)
      walksK_t walksK_b (Below.refl _ _) (fun _ => rfl)
      (fun pre W => RecsBox w.heap.size (w.heap.size + 1) pre W ∧ KeepEx (w.heap.size + 1) [w.heap.size] W1 W)
      (fun _ _ _ => False)
      (OwnFrom.and (recsBox_own _ _ _) (ownFrom_keepEx (by omega) (by omega)))
      (fun _ _ _ _ _ hs _ _ => hs)
      ⟨⟨_, bL1, World.ownsRow_nil _ _ _ _, by simp⟩, KeepEx.refl _ _ _⟩
      (fun x a' W => ∃ p, a' = { tmps := #[.slice none 0 0, .func (.func 66) #[] #[.pointer (some ⟨Bs, 0, none⟩)], .pointer (some ⟨w.heap.size, 0, none⟩), undef, .slice none 0 0, .pointer (some ⟨p, 0, none⟩), .func (.func 66) #[] #[.pointer (some ⟨Bs, 0, none⟩)], encR x, undef, undef, undef, undef, undef], defers := [] } ∧ Blk W p 65 (recC x))
      (fun x a' u A B row hs hg hr => by obtain ⟨p, h1, h2⟩ := hs; exact ⟨p, h1, blk_ownFrom _ _ _ _ u A B row h2 hg hr⟩) ?assign ?body ?done ?stop
    case assign =>
      intro l pre x W K hI hK
      obtain ⟨W5, hW5⟩ : ∃ W5, W5 = W.alloc (.cells #[.int .i64 0, .int .i64 0, .string ⟨#[]⟩] 65) := ⟨_, rfl⟩
      have b5 : Blk W5 W.heap.size 65 #[.int .i64 0, .int .i64 0, .string ⟨#[]⟩] := by rw [hW5]; exact Blk.new _ _ _
      have HST := storeRow (ty := 65) (vs := recC x) b5 rfl (by simp [recC, Value.oneCell']) (by kernel_rfl)
      have b6 := b5.setRow (cs' := recC x)
      have hI6 : RecsBox w.heap.size (w.heap.size + 1) pre (W5.setRow W.heap.size (recC x)) ∧ KeepEx (w.heap.size + 1) [w.heap.size] W1 (W5.setRow W.heap.size (recC x)) := by
        obtain ⟨⟨v, hv, hrow, hnil⟩, hK1⟩ := hI
        have hlt := hK1.size
        have hvl : w.heap.size < W.heap.size := by omega
        have hb5 : Below W.heap.size W (W5.setRow W.heap.size (recC x)) := by rw [hW5]; exact Below.setRow ((Below.refl _ _).alloc (Nat.le_refl _) _) (Nat.le_refl _) _
        exact ⟨⟨v, (hb5.block _ hvl).trans hv, own_below hrow hb5, hnil⟩, hK1.trans (KeepEx.of_below (hb5.mono (by omega)))⟩
      have hKF : KeepsFrom W1.heap.size W (W5.setRow W.heap.size (recC x)) ∧ KeepsWalks W (W5.setRow W.heap.size (recC x)) := by
        have hb5 : Below W.heap.size W (W5.setRow W.heap.size (recC x)) := by rw [hW5]; exact Below.setRow ((Below.refl _ _).alloc (Nat.le_refl _) _) (Nat.le_refl _) _
        exact ⟨⟨hb5.size, fun k o _ hk _ => (hb5.block k (Array.getElem?_eq_some_iff.1 hk).1).trans hk⟩, ⟨hb5.size, fun k o hk _ => (hb5.block k (Array.getElem?_eq_some_iff.1 hk).1).trans hk⟩⟩
      have HH := Lib.hid hW5
      have HI6 := Lib.hid hI6
      have HKF := Lib.hid hKF
      have HB6 := Lib.hid b6
      rw [hW5] at HST
      clear hW5 hI hI6 hKF b6 b5
      gi_wp2_with (refine wpListIn_storeBy rfl _ _ _ rfl _ _ rfl rfl HST ?_)
      rw [← HH.out]
      exact hK _ _ HKF.out.1 HKF.out.2 HI6.out ⟨_, rfl, HB6.out⟩
    case body =>
      rintro l pre x a' W hl - ⟨⟨v, hv, hrow, hnil⟩, hK⟩ ⟨p, rfl, bP⟩ hlt
      have hlt2 : pre.length ≤ 2000 := by omega
      obtain ⟨av, cv, rfl⟩ := own_slice hrow
      have hc := hv.cell
      have hf := hv.frozen
      have hsz := hK.size
      replace bP : Blk W p 65 #[.int .i64 x.at_, .int .i64 x.kind, .string x.data] := bP
      have cP := bP.cells
      have lP := bP.lt
      clear hnil hlt bP
      have hi := HHI.out
      gi_wp2_with (gi_at_builtin; refine wpListIn_append_own _ rfl _ _ 60 rfl (w.heap.size + 1) 65 i0 _ 3 32 Tryz.underlying60 hi hz0 hzs hzb rfl (by decide) _ _ _ rfl (hrow.alloc _) ⟨W.heap.size, 0, none⟩ 1 1 (recV x) rfl rfl (fun j u hu => by rw [addr_add, Nat.zero_add, (Blk.new W 65 #[.int .i64 x.at_, .int .i64 x.kind, .string x.data]).cells]; simpa [recV] using hu) (by intro u hu; simp [recV] at hu; rcases hu with rfl | rfl | rfl <;> rfl) (by simp only [maxLen]; omega) (by omega) (by simp; omega) ?_; intro v' w2 hown' hgrow _; obtain ⟨g', cap', rfl⟩ := ownsRow_succ hown'; obtain ⟨hv1, hv2, hr2, hk2, hb2⟩ := box_appended hv hrow (by omega) (by omega) hown' hgrow; have hc1 := hv1.cell; have hf1 := hv1.frozen)
      exact ⟨hk2.from _, hk2.walks, ⟨_, hv2, by simpa using hr2, by simp⟩, hK.trans hb2⟩
    case done =>
      rintro D xs W hD hp ⟨hbox, hK⟩ hKd
      exact ⟨.inl rfl, D, rfl, hKd, by omega, xs, hp, hbox, hK⟩
    case stop => exact fun _ _ _ _ _ _ hF _ => hF.elim
  case after =>
    rintro D W ⟨hKd, hD, xs, hp, ⟨v, hv, hrow, hnil⟩, hK⟩
    obtain ⟨av, cv, rfl⟩ := own_slice hrow
    have hc := hv.cell
    have hf := hv.frozen
    have HN := Lib.hid hnil
    clear hnil
    go_wp2
    refine marks_ret (.slice av xs.length cv) hKd (by simp [results, Tryz.results65, go_sem]) ?_
    refine ⟨_, xs, rfl, hp, own_base (ownsRow_putObj hrow _ hKd rfl) (by omega), HN.out, ?_⟩
    have h1 : Below w.heap.size w W := B1.trans (hK.toBelow (by omega) (by simp))
    exact below_put h1 (by omega)

theorem collect_recs (Bs b : Nat) (rs : List Rec) (hrs : rs.length ≤ 1000) (E : DataW Unit) (hE : RecMap E rs) (w : World) (bB : Blk w Bs 104 #[.map (some b)]) (hown : w.ownsMap Tryz.prog 3 recR b rs.length E) :
    Calls Tryz.prog 41 #[.func (.func 66) #[] #[.pointer (some ⟨Bs, 0, none⟩)]] w (CollRecs rs w) := by
  have h := appendSeq_recs Bs b rs hrs E hE w bB hown
  go_enter Tryz.func41, Tryz.ntmps41
  go_wp2_with fail
  refine h.mono ?_
  rintro e w1 ⟨v, xs, rfl, h1⟩
  go_wp2_with fail
  go_ret
  exact ⟨v, xs, rfl, h1⟩

end Go.Proofs.YtljmdcegcckblaaGreatDoor
/- The kit's contract of slices.SortFunc at records, laid over this program (written by the kit's lay-plain). -/
namespace Go.Proofs.YtljmdcegcckblaaGreatDoor
open Go.Shelf
def Tryz.sortRec_ren : Go.Shelf.Ren := ⟨fun | 6 => 44 | 15 => 69 | 14 => 68 | 28 => 109 | 29 => 110 | 20 => 101 | 21 => 102 | 22 => 103 | 23 => 104 | 24 => 105 | 25 => 106 | 26 => 107 | 27 => 108 | 46 => 137 | 47 => 138 | 48 => 139 | 49 => 140 | 50 => 141 | 57 => 153 | n => n, fun | 22 => 60 | 24 => 65 | 25 => 114 | 3 => 3 | 39 => 157 | 0 => 0 | 53 => 126 | 55 => 193 | 4 => 4 | 46 => 185 | 45 => 184 | 50 => 189 | 5 => 5 | 9 => 9 | 66 => 225 | 70 => 229 | 76 => 243 | 77 => 244 | n => n, fun | n => n⟩
theorem Tryz.sortRec : Go.Proofs.SlLaysF0.n6 Tryz.prog Tryz.sortRec_ren := {
  mixed := by kernel_rfl
  f6 := ⟨Tryz.f44.name, by decide, Tryz.func44.trans (congrArg some (by kernel_rfl))⟩
  f14 := ⟨Tryz.f68.name, by decide, Tryz.func68.trans (congrArg some (by kernel_rfl))⟩
  f15 := Tryz.func69.trans (congrArg some (by kernel_rfl))
  f20 := ⟨Tryz.f101.name, by decide, Tryz.func101.trans (congrArg some (by kernel_rfl))⟩
  f21 := ⟨Tryz.f102.name, by decide, Tryz.func102.trans (congrArg some (by kernel_rfl))⟩
  f22 := ⟨Tryz.f103.name, by decide, Tryz.func103.trans (congrArg some (by kernel_rfl))⟩
  f23 := ⟨Tryz.f104.name, by decide, Tryz.func104.trans (congrArg some (by kernel_rfl))⟩
  f24 := ⟨Tryz.f105.name, by decide, Tryz.func105.trans (congrArg some (by kernel_rfl))⟩
  f25 := ⟨Tryz.f106.name, by decide, Tryz.func106.trans (congrArg some (by kernel_rfl))⟩
  f26 := ⟨Tryz.f107.name, by decide, Tryz.func107.trans (congrArg some (by kernel_rfl))⟩
  f27 := ⟨Tryz.f108.name, by decide, Tryz.func108.trans (congrArg some (by kernel_rfl))⟩
  f28 := Tryz.func109.trans (congrArg some (by kernel_rfl))
  f29 := Tryz.func110.trans (congrArg some (by kernel_rfl))
  f46 := ⟨Tryz.f137.name, by decide, Tryz.func137.trans (congrArg some (by kernel_rfl))⟩
  f47 := Tryz.func138.trans (congrArg some (by kernel_rfl))
  f48 := Tryz.func139.trans (congrArg some (by kernel_rfl))
  f49 := ⟨Tryz.f140.name, by decide, Tryz.func140.trans (congrArg some (by kernel_rfl))⟩
  f50 := ⟨Tryz.f141.name, by decide, Tryz.func141.trans (congrArg some (by kernel_rfl))⟩
  f57 := ⟨Tryz.f153.name, by decide, Tryz.func153.trans (congrArg some (by kernel_rfl))⟩
  t0 := Tryz.underlying0
  a0 := Tryz.isAgg0
  z0 := Tryz.sizeOf0
  v0 := Tryz.zeroValue0
  t3 := Tryz.underlying3
  a3 := Tryz.isAgg3
  z3 := Tryz.sizeOf3
  v3 := Tryz.zeroValue3
  t4 := Tryz.underlying4
  a4 := Tryz.isAgg4
  z4 := Tryz.sizeOf4
  v4 := Tryz.zeroValue4
  t5 := Tryz.underlying5
  a5 := Tryz.isAgg5
  z5 := Tryz.sizeOf5
  v5 := Tryz.zeroValue5
  t9 := Tryz.underlying9
  a9 := Tryz.isAgg9
  z9 := Tryz.sizeOf9
  v9 := Tryz.zeroValue9
  t22 := Tryz.underlying60
  a22 := Tryz.isAgg60
  z22 := Tryz.sizeOf60
  v22 := Tryz.zeroValue60
  t25 := Tryz.underlying114
  a25 := Tryz.isAgg114
  z25 := Tryz.sizeOf114
  v25 := Tryz.zeroValue114
  t39 := Tryz.underlying157
  a39 := Tryz.isAgg157
  z39 := Tryz.sizeOf157
  v39 := Tryz.zeroValue157
  t45 := Tryz.underlying184
  a45 := Tryz.isAgg184
  z45 := Tryz.sizeOf184
  v45 := Tryz.zeroValue184
  t46 := Tryz.underlying185
  a46 := Tryz.isAgg185
  z46 := Tryz.sizeOf185
  v46 := Tryz.zeroValue185
  t50 := Tryz.underlying189
  a50 := Tryz.isAgg189
  z50 := Tryz.sizeOf189
  v50 := Tryz.zeroValue189
  t53 := Tryz.underlying126
  a53 := Tryz.isAgg126
  z53 := Tryz.sizeOf126
  v53 := Tryz.zeroValue126
  t55 := Tryz.underlying193
  a55 := Tryz.isAgg193
  z55 := Tryz.sizeOf193
  v55 := Tryz.zeroValue193
  t66 := Tryz.underlying225
  a66 := Tryz.isAgg225
  z66 := Tryz.sizeOf225
  v66 := Tryz.zeroValue225
  t70 := Tryz.underlying229
  a70 := Tryz.isAgg229
  z70 := Tryz.sizeOf229
  v70 := Tryz.zeroValue229
  t76 := Tryz.underlying243
  a76 := Tryz.isAgg243
  z76 := Tryz.sizeOf243
  v76 := Tryz.zeroValue243
  t77 := Tryz.underlying244
  a77 := Tryz.isAgg244
  z77 := Tryz.sizeOf244
  v77 := Tryz.zeroValue244 }
end Go.Proofs.YtljmdcegcckblaaGreatDoor
/- Layer 10: the records sorted by their sectors. -/
namespace Go.Proofs.YtljmdcegcckblaaGreatDoor
open Go.RowKit Go.Maps Go.Shelf Go.Sort

/-- A record on a sector of a device. -/
structure BRec where
  val : Rec
  ok : 0 ≤ val.at_ ∧ val.at_ ≤ 100000
instance : Inhabited BRec := ⟨⟨⟨0, 0, ⟨#[]⟩⟩, by decide⟩⟩
def encB (x : BRec) : List Value := [.int .i64 x.1.at_, .int .i64 x.1.kind, .string x.1.data]
def cfB (x y : BRec) : Int := x.1.at_ - y.1.at_
theorem swoB : SWO (ltOf cfB) where
  irrefl x := by unfold ltOf cfB; simp
  trans x y z h1 h2 := by unfold ltOf cfB at *; simp at *; omega
  ntrans x y z h1 h2 := by unfold ltOf cfB at *; simp at *; omega

set_option maxHeartbeats 1000000 in
theorem cmp_rec (x y : BRec) (W : World) : Calls Tryz.prog 45 #[.agg #[.int .i64 x.1.at_, .int .i64 x.1.kind, .string x.1.data], .agg #[.int .i64 y.1.at_, .int .i64 y.1.kind, .string y.1.data]] W fun e w' => e = .returned (.int .i64 (cfB x y)) ∧ ∃ q os', w' = grow (W.drewN q) os' := by
  have hx := x.2
  have hy := y.2
  have hw : IntKind.i64.wrap (x.1.at_ - y.1.at_) = x.1.at_ - y.1.at_ := by rw [IntKind.wrap_i64]; omega
  have HC : Hid (cfB x y = x.1.at_ - y.1.at_) := Lib.hid rfl
  generalize cfB x y = r at *
  go_enter Tryz.func45, Tryz.ntmps45
  go_wp2_with fail
  go_ret
  exact ⟨by rw [HC.out]; rfl, 0, _, by rw [alloc_eq_grow, alloc_eq_grow, grow_grow]; rfl⟩

theorem isAggRec : ∀ w, (isAgg 65).run Tryz.prog w = .ok true w := fun _ => by kernel_rfl
theorem sizeRec : ∀ w, (Go.sizeOf 65).run Tryz.prog w = .ok 3 w := fun _ => by kernel_rfl

/-- The list of a row, as the sort has it. -/
theorem sort_list {d d' : Array BRec} (hp : PermIn 0 d.size d d') (hs : SortedIn (ltOf cfB) 0 d.size d') : (d'.toList.map (·.1)).Perm (d.toList.map (·.1)) ∧ (d'.toList.map (·.1)).Pairwise (fun a b : Rec => a.at_ ≤ b.at_) ∧ d'.size = d.size := by
  obtain ⟨h1, -, h3⟩ := hp
  have e1 : d'.extract 0 d.size = d' := by rw [← h1, Array.extract_size]
  have e2 : d.extract 0 d.size = d := Array.extract_size
  rw [e1, e2] at h3
  refine ⟨h3.map _, ?_, h1⟩
  refine List.pairwise_map.2 (List.pairwise_iff_getElem.2 fun i j hi hj hij => ?_)
  have h := hs i j (Nat.zero_le _) hij (by simpa [h1] using hj)
  have hi' : i < d'.size := by simpa using hi
  have hj' : j < d'.size := by simpa using hj
  rw [getElem!_pos d' i hi', getElem!_pos d' j hj'] at h
  unfold ltOf cfB at h
  simp at h
  simp only [Array.getElem_toList]
  omega

end Go.Proofs.YtljmdcegcckblaaGreatDoor
/- Layer 10: slices.SortFunc of records. -/
namespace Go.Proofs.YtljmdcegcckblaaGreatDoor
open Go.RowKit Go.Maps Go.Shelf Go.Sort

/-! A row of cells written anew by the sort. -/
theorem holds_of_blockV {w : World} {g : Nat} {cur : Array Value} {e : TypeId} {F : Array Value} (hb : w.heap[g]? = some (.cells cur e (0, 0))) (ht : cur.toList.take F.size = F.toList) : Holds id w g 0 F := by
  intro j hj
  refine ⟨?_, by simp [World.frozen?, hb]⟩
  have h1 : (cur.toList.take F.size)[j]? = F.toList[j]? := by rw [ht]
  rw [List.getElem?_take_of_lt hj] at h1
  simp only [World.cell?, hb, Nat.zero_add]
  simp only [Option.isSome_none, Bool.false_eq_true, if_false]
  rw [← Array.getElem?_toList, h1]
  simp [hj]
theorem heap_sortedV {w : World} {g n : Nat} {os : Array Obj} {cur : Array Value} {e : TypeId} {fr : Nat × Nat} (F : Array Value) (hb : w.heap[g]? = some (.cells cur e fr)) :
    (grow (putRow id (Sort.ahead w n) g 0 F) os).heap[g]? = some (.cells (putCells id 0 F cur) e fr) := by
  have hg : g < w.heap.size := (Array.getElem?_eq_some_iff.1 hb).1
  rw [heap_grow_old _ _ (by simpa using hg)]
  simp [putRow, mapBlock, Sort.ahead, Array.getElem?_modify, hb, onCells]
theorem grownBy_sortedV {w : World} {g n : Nat} {os : Array Obj} (F : Array Value) : w.grownBy (grow (putRow id (Sort.ahead w n) g 0 F) os) (some g) := by
  refine ⟨rfl, rfl, rfl, by simp, fun k hk hne => ?_⟩
  rw [heap_grow_old _ _ (by simpa using hk)]
  have : g ≠ k := fun e => hne (by rw [e])
  simp [putRow, mapBlock, Sort.ahead, Array.getElem?_modify, this]
theorem take_putCellsV (cur F : Array Value) (h : F.size ≤ cur.size) : (putCells id 0 F cur).toList.take F.size = F.toList := by
  apply List.ext_getElem?
  intro j
  by_cases hj : j < F.size
  · rw [List.getElem?_take_of_lt hj, Array.getElem?_toList]
    simp [putCells, hj, show j < cur.size by omega]
  · rw [List.getElem?_take_eq_none (by omega), List.getElem?_eq_none (by simpa using hj)]
theorem flat_length {α : Type} {f : α → List Value} {m : Nat} : ∀ {l : List α}, (∀ s ∈ l, (f s).length = m) → (l.flatMap f).length = l.length * m
  | [], _ => by simp
  | x :: t, h => by
    rw [List.flatMap_cons, List.length_append, h x (by simp), flat_length (fun s hs => h s (List.mem_cons_of_mem _ hs)), List.length_cons, Nat.add_mul, Nat.one_mul, Nat.add_comm]
theorem flatB (d : Array BRec) : (flatK encB 3 d).toList = (d.toList.map (·.1)).flatMap recV := by
  apply List.ext_getElem?
  intro t
  have hl : ((d.toList.map (·.1)).flatMap recV).length = d.size * 3 := by rw [flat_length (f := recV) (m := 3) (fun _ _ => rfl)]; simp
  by_cases ht : t < d.size * 3
  · have h1 := get_flatK encB 3 d t ht
    have hq : t / 3 < d.size := by omega
    have hs : t < (flatK encB 3 d).size := by rw [size_flatK]; exact ht
    rw [getElem!_pos _ t hs, getElem!_pos d (t / 3) hq] at h1
    have h2 := flat_get (f := recV) (m := 3) (fun _ _ => rfl) (i := t / 3) (j := t % 3) (by omega) (show t / 3 < (d.toList.map (·.1)).length by simpa using hq)
    rw [show t / 3 * 3 + t % 3 = t by omega] at h2
    rw [h2, Array.getElem?_toList, Array.getElem?_eq_getElem hs, h1]
    have hq2 : t / 3 < (d.toList.map (·.1)).length := by simpa using hq
    have e : recV ((d.toList.map (·.1))[t / 3]'hq2) = encB d[t / 3] := by simp [encB, recV]
    rw [e, List.getElem?_eq_getElem (show t % 3 < (encB d[t / 3]).length by show t % 3 < 3; omega), getElem!_pos]
  · rw [List.getElem?_eq_none (by simpa using ht), List.getElem?_eq_none (by rw [hl]; omega)]

def SortRecs (base g cap : Nat) (xs : List Rec) (w : World) (e : Ending) (w' : World) : Prop :=
  e = .returned (.tuple #[]) ∧ ∃ ys : List Rec, ys.Perm xs ∧ ys.Pairwise (fun a b : Rec => a.at_ ≤ b.at_) ∧ w'.ownsRow base 65 3 (.slice (some ⟨g, 0, none⟩) ys.length cap) ys.length (ys.flatMap recV) ∧ w.grownBy w' (some g)

theorem sort_recs (base g cap : Nat) (xs : List Rec) (hl0 : xs.length ≤ 1000) (hx : ∀ r ∈ xs, 0 ≤ r.at_ ∧ r.at_ ≤ 100000) (w : World) (ho : w.ownsRow base 65 3 (.slice (some ⟨g, 0, none⟩) xs.length cap) xs.length (xs.flatMap recV)) :
    Calls Tryz.prog 44 #[.slice (some ⟨g, 0, none⟩) xs.length cap, .func (.func 45) #[] #[]] w (SortRecs base g cap xs w) := by
  obtain ⟨d, hd⟩ : ∃ d : Array BRec, d.toList.map (·.1) = xs := by
    refine ⟨(xs.attach.map fun r => (⟨r.1, hx r.1 r.2⟩ : BRec)).toArray, ?_⟩
    show List.map (fun x : BRec => x.1) (xs.attach.map fun r => (⟨r.1, hx r.1 r.2⟩ : BRec)) = xs
    rw [List.map_map]
    exact List.attach_map_subtype_val xs
  have hsz : d.size = xs.length := by rw [← hd]; simp
  rcases ho.2 with ⟨h0, _⟩ | ⟨g', cap', cur, hv, hbase, hb, hnc, hcm, hcs, ht⟩
  · simp at h0
  simp only [Value.slice.injEq, Option.some.injEq, Addr.mk.injEq, and_true, true_and] at hv
  obtain ⟨rfl, rfl⟩ := hv
  have hF : (flatK encB 3 d).toList = xs.flatMap recV := by rw [flatB, hd]
  have hFs : (flatK encB 3 d).size = xs.length * 3 := by rw [size_flatK, hsz]
  have hH : HoldsK encB 3 w g 0 d := holds_of_blockV hb (by rw [hFs, hF]; exact ht)
  have eg : ∀ args w, (callFunc 45 args).run Tryz.prog w = .ok (.enter 45 args) w := enters_of Tryz.func45 (by kernel_rfl) rfl
  have hblk : g < w.heap.size := (Array.getElem?_eq_some_iff.1 hb).1
  have hcon := AnyQ.slices_SortFunc Tryz.sortRec 3 isAggRec sizeRec encB (fun _ => rfl) (fun x v hv => by simp [encB] at hv; rcases hv with rfl | rfl | rfl <;> rfl) cfB swoB 45 #[] g 0 cap d w eg (fun _ _ _ _ x y => cmp_rec x y _) hH hblk (by omega)
  rw [hsz] at hcon
  refine Calls.mono hcon ?_
  rintro e w' ⟨rfl, d', n, os, hp, hs, rfl⟩
  rw [← hsz] at hp hs
  obtain ⟨k1, k2, k3⟩ := sort_list hp hs
  rw [hd] at k1
  have hl : (d'.toList.map (·.1)).length = xs.length := k1.length_eq
  have hFs' : (flatK encB 3 d').size = xs.length * 3 := by rw [size_flatK, k3, hsz]
  refine ⟨rfl, d'.toList.map (·.1), k1, k2, ⟨?_, .inr ⟨g, cap, _, by rw [hl], hbase, heap_sortedV _ hb, by rw [hl]; exact hnc, hcm, by simp [putCells, hcs], ?_⟩⟩, grownBy_sortedV _⟩
  · rw [flat_length (f := recV) (m := 3) (fun _ _ => rfl)]
  · rw [hl, ← hFs', take_putCellsV _ _ (by rw [hFs', hcs]; exact Nat.mul_le_mul_right _ hnc), flatB]

end Go.Proofs.YtljmdcegcckblaaGreatDoor
/- Layer 10: Records. -/
namespace Go.Proofs.YtljmdcegcckblaaGreatDoor
open Go.RowKit Go.Maps

theorem sorted_recs {y : TxS} (hc : y.Clean) {zs ys : List Rec} (hz : zs.Perm (y.writes ++ if y.changed then [y.bmap] else [])) (hp : ys.Perm zs) (hs : ys.Pairwise (fun a b : Rec => a.at_ ≤ b.at_)) : ys = y.recs :=
  asc_perm (recs_asc hc) hs ((hp.trans hz).trans (recs_perm hc).symm)
theorem wp_append_run {P : Program} {w w' : World} {o : Oper} {a : Act} {K : Act → World → Prop} {Q : Exit → Act → World → Prop} (s x : Operand) (t : TypeId)
    (ho : o.op = .call { callee := .builtin .append, args := #[s, x], argTypes := #[t, t] }) (v X v' : Value) (hs : a.eval s = v) (hx : a.eval x = X)
    (hrun : (Builtin.append_ #[t, t] o.type #[v, X]).run P w = .ok v' w') (h : K (a.put o.dst v') w') : o.wp P a w K Q := by
  unfold Oper.wp execOp
  simp only [ho, resolve, invoke, builtin, Sem.run_bind, Sem.run_pure, Result.andThen_ok, List.map_toArray, List.map_cons, List.map_nil, hs, hx, hrun]
  exact h

set_option maxRecDepth 100000 in
set_option maxHeartbeats 1000000 in
theorem txrecords_bad (tv : Value) (E : Int) (w : World) (h : StE w tv E) (hE : E ≠ 0) :
    Calls Tryz.prog 16 #[tv] w fun e w' => e = .returned (.tuple #[.slice none 0 0, .int .i64 E]) ∧ Below w.heap.size w w' := by
  have hst := state_any tv E w h
  have hE' : (E != 0) = true := by simpa using hE
  clear h hE
  go_enter Tryz.func16, Tryz.ntmps16
  go_wp2_with fail
  refine hst.mono ?_
  rintro e w1 ⟨rfl, hb1⟩
  go_wp2_with fail
  go_ret2
  exact ⟨rfl, hb1⟩

def RecsPost (y : TxS) (w : World) (e : Ending) (w' : World) : Prop :=
  ∃ v, e = .returned (.tuple #[v, .int .i64 0]) ∧ w'.ownsRow w.heap.size 65 3 v y.recs.length (y.recs.flatMap recV) ∧ Below w.heap.size w w'

/-- What the sort is called with, and what it leaves. -/
theorem sort_any (base : Nat) (v : Value) (zs : List Rec) (hl0 : zs.length ≤ 1000) (hz : ∀ r ∈ zs, 0 ≤ r.at_ ∧ r.at_ ≤ 100000) (w : World) (hbz : base ≤ w.heap.size) (ho : w.ownsRow base 65 3 v zs.length (zs.flatMap recV)) :
    Calls Tryz.prog 44 #[v, .func (.func 45) #[] #[]] w fun e w' => e = .returned (.tuple #[]) ∧ ∃ ys : List Rec, ys.Perm zs ∧ ys.Pairwise (fun a b : Rec => a.at_ ≤ b.at_) ∧ w'.ownsRow base 65 3 v ys.length (ys.flatMap recV) ∧ Below base w w' := by
  rcases Nat.eq_zero_or_pos zs.length with h0 | h0
  · obtain rfl := List.eq_nil_of_length_eq_zero h0
    obtain ⟨A, c, rfl⟩ := own_slice ho
    refine Calls.mono (AnyF.slices_SortFunc_none Tryz.sortRec A c _ w) ?_
    rintro e w' ⟨rfl, rfl⟩
    exact ⟨rfl, [], List.Perm.refl _, List.Pairwise.nil, ho, Below.refl _ _⟩
  · obtain ⟨g, cap, rfl, hg, _⟩ := own_form ho h0
    refine (sort_recs base g cap zs hl0 hz w ho).mono ?_
    rintro e w' ⟨rfl, ys, h1, h2, h3, h4⟩
    refine ⟨rfl, ys, h1, h2, by rw [h1.length_eq] at h3 ⊢; exact h3, (Below.refl base w).grown h4 hbz (fun k e => by cases e; exact hg)⟩

set_option maxRecDepth 100000 in
set_option maxHeartbeats 4000000 in
theorem records_tx (T : Nat) (F : List Nat) (D : Nat) (y : TxS) (w : World) (h : TxAt w T F D y) (hc : y.Clean) (hE : y.stateE = 0) :
    Calls Tryz.prog 16 #[.pointer (some ⟨T, 0, none⟩)] w (RecsPost y w) := by
  have hst := state_any _ _ w h.st
  rw [hE] at hst
  obtain ⟨ok, ⟨M, wv, nv, bT, hT, hM, hMT, ⟨E, hRM, hO⟩, hw, ⟨A, cn, rfl, hRd, hA⟩⟩, lt⟩ := h
  have hbd := rg_bds ok.rg
  have hlen : y.writes.length ≤ 80 := by have := ok.len; unfold TxS.left TxS.most at this; split at this <;> omega
  have hnl : y.now.length ≤ 1000 := by rw [ok.now]; have := (rg_ok ok.rg).2.2.2.2; omega
  have HCK := Lib.hid (ok_ckE ok)
  have hrec : ∀ r ∈ y.writes, 0 ≤ r.at_ ∧ r.at_ ≤ 100000 := fun r hr => by have := ok.recs r hr; omega
  have HREC := Lib.hid hrec
  have hbm : 0 ≤ y.bmap.at_ ∧ y.bmap.at_ ≤ 100000 := by show 0 ≤ 1 + y.j ∧ 1 + y.j ≤ 100000; omega
  have HBM := Lib.hid hbm
  have HNL := Lib.hid hnl
  have HC := Lib.hid hc
  have hSof : ∀ W : World, Below w.heap.size w W → W.cell? ⟨T, 13, none⟩ = some (.int .i64 y.s) ∧ W.cell? ⟨T, 14, none⟩ = some (.int .i64 y.j) ∧ W.cell? ⟨T, 15, none⟩ = some (.int .i64 y.i) ∧ W.cell? ⟨T, 16, none⟩ = some (.slice A y.now.length cn) := fun W hb => ⟨((bT.belowAll hb).cells 13).trans rfl, ((bT.belowAll hb).cells 14).trans rfl, ((bT.belowAll hb).cells 15).trans rfl, ((bT.belowAll hb).cells 16).trans rfl⟩
  have HS := Lib.hid hSof
  clear hSof
  clear hrec hbm hc hw hA lt ok hE hbd hnl
  unfold RecsPost
  go_enter Tryz.func16, Tryz.ntmps16
  go_wp2_with fail
  refine hst.mono ?_
  rintro e w1 ⟨rfl, hb1⟩
  have bT1 := bT.belowAll hb1
  have hO1 := map_block hO (hb1.block M hO.lt)
  have c17 : w1.cell? ⟨T, 17, none⟩ = some (.map (some M)) := (bT1.cells 17).trans rfl
  have lT := bT1.lt
  clear hst hO bT
  go_wp2_with fail
  refine (values_any (some M) w1).mono ?_
  rintro e w2 ⟨rfl, hw2⟩
  have bB : Blk w2 w1.heap.size 104 #[.map (some M)] := by rw [hw2]; exact Blk.new _ _ _
  have B2 : Below w1.heap.size w1 w2 := by rw [hw2]; exact (Below.refl _ _).alloc (Nat.le_refl _) _
  have hO2 := map_block hO1 (B2.block M hO1.lt)
  clear hw2 c17 lT
  go_wp2_with fail
  refine (collect_recs w1.heap.size M y.writes (by omega) E hRM w2 bB hO2).mono ?_
  rintro e w3 ⟨v, xs, rfl, hp, ho, -, hb3⟩
  have B13 : Below w1.heap.size w1 w3 := B2.trans (hb3.mono B2.size)
  have B3 : Below w.heap.size w w3 := hb1.trans (B13.mono hb1.size)
  have z3 : w.heap.size ≤ w2.heap.size := Nat.le_trans hb1.size B2.size
  have ho3 := own_base ho z3
  have bT3 := bT1.belowAll B13
  have hRd3 := hRd.below B3
  have hxl : xs.length = y.writes.length := hp.length_eq
  clear bB hO2 hO1 bT1 hRM ho hb3 B2 B13 hRd
  have c18 : w3.cell? ⟨T, 18, none⟩ = some (.bool y.changed) := (bT3.cells 18).trans rfl
  have lT := bT3.lt
  cases hch : y.changed
  · rw [hch] at c18
    have HP : Hid (xs.Perm (y.writes ++ if y.changed then [y.bmap] else [])) := Lib.hid (by rw [hch]; simpa using hp)
    have HX : Hid (∀ r ∈ xs, 0 ≤ r.at_ ∧ r.at_ ≤ 100000) := Lib.hid fun r hr => HREC.out r (hp.mem_iff.1 hr)
    have hx80 : xs.length ≤ 80 := by omega
    clear hp hxl hlen
    go_wp2_with fail
    refine (sort_any w.heap.size v xs (by omega) HX.out w3 B3.size ho3).mono ?_
    rintro e w4 ⟨rfl, ys, k1, k2, ho4, hb4⟩
    obtain rfl := sorted_recs HC.out HP.out k1 k2
    have B4 := B3.trans hb4
    clear c18 k1 k2
    go_wp2_with fail
    go_ret2
    exact ⟨v, rfl, ho4, B4⟩
  · have c18' := c18
    rw [hch] at c18'
    clear c18
    have HP : Hid ((xs ++ [y.bmap]).Perm (y.writes ++ if y.changed then [y.bmap] else [])) := Lib.hid (by rw [hch]; exact hp.append_right _)
    have HX : Hid (∀ r ∈ xs ++ [y.bmap], 0 ≤ r.at_ ∧ r.at_ ≤ 100000) := Lib.hid fun r hr => by
      rcases List.mem_append.1 hr with hr | hr
      · exact HREC.out r (hp.mem_iff.1 hr)
      · simp at hr; subst hr; exact HBM.out
    have hx80 : xs.length ≤ 80 := by omega
    clear hp hxl hlen
    go_wp2_with fail
    clear c18' lT
    refine wp_region_mix [.take 0, .take 1, .take 2, .take 3, .take 4, .take 5, .take 6, .take 7, .one 8, .one 9, .one 10, .one 11] 12 (fun w' => w'.cell? ⟨T, 13, none⟩ = some (.int .i64 y.s) ∧ w'.cell? ⟨T, 14, none⟩ = some (.int .i64 y.j) ∧ w'.cell? ⟨T, 15, none⟩ = some (.int .i64 y.i) ∧ w'.cell? ⟨T, 16, none⟩ = some (.slice A y.now.length cn)) (by kernel_rfl) (by kernel_rfl) (fun _ _ _ _ _ h => h) (HS.out _ B3.drew) ?_
    simp only [List.map_cons, List.map_nil, Ms.fill, List.getD_cons_zero, List.getD_cons_succ]
    iterate 8 (refine mixT_take (by rfl) ?_ (fun w' hw' => ?_) ?_; rotate_left; (focus (go_simp; (try with_reducible rfl))); (try simp only [Act.put, List.setIfInBounds_toArray, List.set_cons_zero, List.set_cons_succ]))
    refine mixT_step (by rfl) fun K hK => ?_
    go_simp
    refine (bitmap_any T 106 _ (1 + y.j) y.s y.j y.i A cn y.now HNL.out HCK.out w3.drew bT3.drew rfl (hRd3.below (Below.refl _ _).drew)).mono ?_
    rintro e w4 ⟨rfl, hb4⟩
    have B34 : Below w3.heap.size w3 w4 := (Below.refl _ _).drew.trans hb4
    have B4 : Below w.heap.size w w4 := B3.trans (B34.mono B3.size)
    have ho4 := own_below ho3 B34
    refine hK _ _ (fun _ => HS.out _ B4) ?_
    clear hK K hb4 ho3 bT3 hRd3 B34
    refine mixT_step (by rfl) fun K hK => ?_
    go_simp
    obtain ⟨w5, hw5⟩ : ∃ w5, w5 = w4.alloc (.cells #[.int .i64 (1 + y.j), .int .i64 5, .string (mapS y.now)] 65) := ⟨_, rfl⟩
    have b5 : Blk w5 w4.heap.size 65 #[.int .i64 (1 + y.j), .int .i64 5, .string (mapS y.now)] := by rw [hw5]; exact Blk.new _ _ _
    have B45 : Below w4.heap.size w4 w5 := by rw [hw5]; exact (Below.refl _ _).alloc (Nat.le_refl _) _
    rw [← hw5]
    clear hw5
    have B5 : Below w.heap.size w w5 := B4.trans (B45.mono B4.size)
    have ho5 := own_below ho4 B45
    refine hK _ _ (fun _ => HS.out _ B5) ?_
    clear hK K ho4
    refine mixT_step (by rfl) fun K hK => ?_
    obtain ⟨iD, hiD, hiz, his, hib8⟩ := info_parts Tryz.infoRec
    obtain ⟨v6, w6, hrun, ho6, hg6, -⟩ := run_append_own_at (P := Tryz.prog) w5 w.heap.size 60 60 65 iD _ 3 32 Tryz.underlying60 hiD hiz his hib8 rfl (by omega) _ _ _ ho5 ⟨w4.heap.size, 0, none⟩ 1 1 (recV y.bmap) rfl (fun j u hu => by rw [addr_add, Nat.zero_add, b5.cells]; simpa [recV, TxS.bmap] using hu) (by intro u hu; simp [recV] at hu; rcases hu with rfl | rfl | rfl <;> rfl) (by simp only [maxLen]; omega) (by omega) B5.size
    have B6 : Below w.heap.size w w6 := B5.grown hg6 B5.size (fun k hk => (ho5.lt k hk).1)
    refine wp_append_run _ _ 60 rfl _ _ v6 rfl rfl hrun ?_
    refine hK _ _ (fun _ => HS.out _ B6) ?_
    clear hK K hrun
    refine mixT_step (by rfl) fun K hK => ?_
    go_simp
    refine hK _ _ (fun _ => HS.out _ B6) ?_
    clear hK K
    refine mixT_nil ?_
    have ho7 : w6.ownsRow w.heap.size 65 3 v6 (xs ++ [y.bmap]).length ((xs ++ [y.bmap]).flatMap recV) := by
      rw [List.length_append, List.flatMap_append]; simpa using ho6
    clear ho6 ho5 hg6 b5 B45 B4 B5
    go_wp2_with fail
    refine (sort_any w.heap.size v6 (xs ++ [y.bmap]) (by simp; omega) HX.out w6 B6.size ho7).mono ?_
    rintro e w7 ⟨rfl, ys, k1, k2, ho8, hb8⟩
    obtain rfl := sorted_recs HC.out HP.out k1 k2
    have B8 := B6.trans hb8
    clear k1 k2 ho7
    go_wp2_with fail
    go_ret2
    exact ⟨v6, rfl, ho8, B8⟩

end Go.Proofs.YtljmdcegcckblaaGreatDoor
