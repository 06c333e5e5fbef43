/- Parts of the proof, put together by program: Y1, Y2, J0, G3. -/
import Derived.Test.YtloddiipepiocaaGreatDoorPart11
import Derived.Test.YtloddiipepiocaaGreatDoorPart08
import Derived.Test.YtloddiipepiocaaGreatDoorPart10
import Derived.Test.YtloddiipepiocaaGreatDoorPart06
import Derived.Maps.AppendAt
set_option linter.unusedVariables false
set_option linter.unusedSimpArgs false
/- Plain laws of layer 6 and 7: what a device reads as behind Write, Flush, Put. No program in sight. -/
namespace Go.Proofs.YtloddiipepiocaaGreatDoor
open Go.RowKit

theorem newIdx_app (c r : List Int) (a : Int) (k : Nat) (hk : k ≤ c.length) : newIdx (c ++ r) a k = newIdx c a k := by
  induction k with
  | zero => rfl
  | succ k ih =>
    unfold newIdx
    rw [ih (by omega), List.getD_eq_getElem?_getD, List.getElem?_append_left (by omega), List.getD_eq_getElem?_getD]
theorem newIdx_snoc (c : List Int) (a b : Int) : newIdx (c ++ [a]) b (c.length + 1) = if a = b then some c.length else newIdx c b c.length := by
  show (if (c ++ [a]).getD c.length 0 = b then some c.length else newIdx (c ++ [a]) b c.length) = _
  rw [newIdx_app c [a] b c.length (Nat.le_refl _)]
  have : (c ++ [a]).getD c.length 0 = a := by
    rw [List.getD_eq_getElem?_getD, List.getElem?_append_right (Nat.le_refl _)]; simp
  rw [this]
theorem added_reads (x : DevS) (a : Int) (s : List Int) (b : Int) : (x.added a s).reads b = if b = a then s else x.reads b := by
  have hi : (x.added a s).idx b = if a = b then some x.cache.length else x.idx b := by
    show newIdx (atsOf (x.cache ++ [(a, s)])) b (x.cache ++ [(a, s)]).length = _
    have e : atsOf (x.cache ++ [(a, s)]) = atsOf x.cache ++ [a] := by unfold atsOf; simp
    have h := newIdx_snoc (atsOf x.cache) a b
    rw [atsOf_length] at h
    rw [e, List.length_append]
    exact h
  have hu : (x.added a s).reads b = match (x.added a s).idx b with | some i => ((x.cache ++ [(a, s)]).getD i (0, [])).2 | none => x.stable.getD b.toNat [] := rfl
  have hv : x.reads b = match x.idx b with | some i => (x.cache.getD i (0, [])).2 | none => x.stable.getD b.toNat [] := rfl
  rw [hu, hi, hv]
  by_cases h : a = b
  · subst h
    simp
  · rw [if_neg h, if_neg (fun e => h e.symm)]
    cases hx : x.idx b with
    | none => rfl
    | some i =>
      have hl := (newIdx_lt hx).1
      simp [List.getD_eq_getElem?_getD, List.getElem?_append_left hl]
theorem stApply_get (st : List (List Int)) (c : List (Int × List Int)) (b : Nat) (hb : b < st.length) (hc : ∀ p ∈ c, 0 ≤ p.1) : ∀ k, k ≤ c.length → (stApply st (c.take k)).getD b [] = match newIdx (atsOf c) (b : Int) k with | some i => (c.getD i (0, [])).2 | none => st.getD b []
  | 0, _ => rfl
  | k + 1, hk => by
    have hlt : k < c.length := by omega
    have ih := stApply_get st c b hb hc k (by omega)
    rw [stApply_step hlt]
    have h0 := hc _ (List.getElem_mem hlt)
    have ha : (atsOf c).getD k 0 = c[k].1 := by unfold atsOf; simp [hlt]
    show _ = (match (if (atsOf c).getD k 0 = (b : Int) then some k else newIdx (atsOf c) (b : Int) k) with | some i => (c.getD i (0, [])).2 | none => st.getD b [])
    rw [ha]
    by_cases e : c[k].1 = (b : Int)
    · rw [if_pos e, e, Int.toNat_natCast]
      simp [List.getElem?_set, hlt, stApply_length, hb]
    · rw [if_neg e, ← ih, List.getD_eq_getElem?_getD, List.getElem?_set, if_neg (by omega), List.getD_eq_getElem?_getD]
theorem flushed_reads {x : DevS} (ok : x.Ok) {b : Int} (hb : 0 ≤ b ∧ b < x.stable.length) : x.flushed.reads b = x.reads b := by
  have h := stApply_get x.stable x.cache b.toNat (by omega) (fun p hp => (ok.cac p hp).1) x.cache.length (Nat.le_refl _)
  rw [List.take_length, show ((b.toNat : Nat) : Int) = b by omega] at h
  exact h
theorem room_reads {x : DevS} (ok : x.Ok) {b : Int} (hb : 0 ≤ b ∧ b < x.stable.length) : x.room.reads b = x.reads b := by
  unfold DevS.room
  split
  · exact flushed_reads ok hb
  · rfl

/-- A device that has power for ever, and has not taken many writes. -/
structure DevS.Runs (x : DevS) (n : Nat) : Prop where
  ok : x.Ok
  on : x.off = false
  pw : x.power = -1
  tk : x.taken + n ≤ 1000000000000
theorem DevS.Runs.mono {x : DevS} {n m : Nat} (h : x.Runs n) (hm : m ≤ n) : x.Runs m := ⟨h.ok, h.on, h.pw, by have := h.tk; omega⟩
/-- Both read alike. -/
structure DevS.Like (x y : DevS) : Prop where
  size : y.stable.length = x.stable.length
  reads : ∀ b : Int, 0 ≤ b → b < x.stable.length → y.reads b = x.reads b

theorem atE_in {x : DevS} (h : x.off = false) {a : Int} (ha : 0 ≤ a ∧ a < x.stable.length) : x.atE a = 0 := by
  show Go.Proofs.YtloddiipepiocaaGreatDoor.atE x.off x.stable.length a = 0
  unfold Go.Proofs.YtloddiipepiocaaGreatDoor.atE
  rw [h, if_neg (by simp), if_neg (by omega)]
theorem write_runs {x : DevS} {n : Nat} (h : x.Runs (n + 1)) {a : Int} (ha : 0 ≤ a ∧ a < x.stable.length) {s : List Int} (hs : s.length = 128 ∧ Bytes s) :
    (x.write a s).1 = 0 ∧ (x.write a s).2.Runs n ∧ (x.write a s).2.stable.length = x.stable.length ∧ ∀ b : Int, 0 ≤ b → b < x.stable.length → (x.write a s).2.reads b = if b = a then s else x.reads b := by
  have hok := h.ok.write a hs
  have htk := h.tk
  have h0 := h.ok.tk
  obtain ⟨h1, h2, h3, h4, h5, h6⟩ := h.ok.room
  unfold DevS.write at hok ⊢
  rw [if_neg (by rw [atE_in h.on ha]; simp), if_neg (by rw [h.pw]; omega)] at hok ⊢
  refine ⟨rfl, ⟨hok, h6.trans h.on, ?_, ?_⟩, h3, ?_⟩
  · show (if 0 < x.room.power then _ else x.room.power) = -1
    rw [h5, h.pw]; rfl
  · show x.room.taken + 1 + _ ≤ _
    rw [h4]; omega
  · intro b hb1 hb2
    show (x.room.added a s).reads b = _
    rw [added_reads, room_reads h.ok ⟨hb1, hb2⟩]
theorem flush_runs {x : DevS} {n : Nat} (h : x.Runs n) : x.flushed.Runs n ∧ x.Like x.flushed :=
  ⟨⟨h.ok.flushed, h.on, h.pw, h.tk⟩, ⟨stApply_length _ _, fun _ h1 h2 => flushed_reads h.ok ⟨h1, h2⟩⟩⟩

end Go.Proofs.YtloddiipepiocaaGreatDoor
/- Plain laws of layer 7: Put and Get on a device. No program in sight. -/
namespace Go.Proofs.YtloddiipepiocaaGreatDoor
open Go.RowKit

structure Fr where
  kind : Int
  seq : Int
  data : ByteArray
deriving DecidableEq, Inhabited
def noFr : Fr := ⟨0, 0, ⟨#[]⟩⟩
def DevS.ge (x : DevS) (a : Int) : Int := (x.get a).1
def DevS.fr (x : DevS) (a : Int) : Fr := if x.ge a = 0 then ⟨(x.reads a).getD 1 0, readN (x.reads a) 4, openStr (x.reads a)⟩ else noFr
def frV (f : Fr) : Array Value := #[.int .i64 f.kind, .int .u32 f.seq, .string f.data]
theorem get_fr (x : DevS) (a : Int) : x.get a = (x.ge a, frV (x.fr a)) := by
  unfold DevS.fr DevS.ge DevS.get getE getV openV
  by_cases h1 : Go.Proofs.YtloddiipepiocaaGreatDoor.atE x.off x.stable.length a = 0
  · rw [if_pos h1, if_pos h1]
    by_cases h2 : openE a (x.reads a) = 0
    · rw [h2, if_pos rfl]; rfl
    · rw [if_neg h2]; simp only [if_neg h2]; rfl
  · rw [if_neg h1, if_neg h1]; simp only [if_neg h1]; rfl
/-- Both have the same frames. -/
def sameFr (x y : DevS) (b : Int) : Prop := y.ge b = x.ge b ∧ y.fr b = x.fr b
theorem same_fr {x y : DevS} {b : Int} (ho : y.off = x.off) (hl : y.stable.length = x.stable.length) (hr : y.reads b = x.reads b) : sameFr x y b := by
  have h : y.get b = x.get b := by unfold DevS.get; rw [ho, hl, hr]
  have h1 : y.ge b = x.ge b := by unfold DevS.ge; rw [h]
  exact ⟨h1, by unfold DevS.fr; rw [h1, hr]⟩
def DevS.put (x : DevS) (a kind seq : Int) (s : ByteArray) : Int × DevS := if sealE a kind s.size = 0 then x.write a (sealL a kind seq s) else (sealE a kind s.size, x)

theorem get_sealed {x : DevS} {a kind seq : Int} {s : ByteArray} (ho : x.off = false) (ha : 0 ≤ a ∧ a < x.stable.length) (hE : sealE a kind s.size = 0) (hq : 0 ≤ seq ∧ seq < 4294967296) (hr : x.reads a = sealL a kind seq s) :
    x.ge a = 0 ∧ x.fr a = ⟨kind, seq, s⟩ := by
  have hat : Go.Proofs.YtloddiipepiocaaGreatDoor.atE x.off x.stable.length a = 0 := atE_in ho ha
  obtain ⟨-, -, -, -, hs⟩ := sealE_zero hE
  have h1 : x.ge a = 0 := by
    show getE x.off x.stable.length a (x.reads a) = 0
    unfold getE
    rw [if_pos hat, hr]
    exact open_seal hE hq
  refine ⟨h1, ?_⟩
  unfold DevS.fr
  rw [if_pos h1, hr, sealL_1 hs, sealL_seq hs hq, sealL_str hs]
theorem sealE_ok {a kind : Int} {n : Nat} (ha : 0 ≤ a ∧ a < 256) (hk : 1 ≤ kind ∧ kind ≤ 255) (hn : n ≤ 112) : sealE a kind n = 0 := by
  unfold sealE; rw [if_neg (by omega), if_neg (by omega)]
/-- One frame is another one, all else is as it was. -/
structure DevS.Puts (x y : DevS) (n : Nat) (a : Int) (e : Int) (f : Fr) : Prop where
  runs : y.Runs n
  size : y.stable.length = x.stable.length
  new : y.ge a = e ∧ y.fr a = f
  old : ∀ b : Int, 0 ≤ b → b < x.stable.length → b ≠ a → sameFr x y b
theorem put_runs {x : DevS} {n : Nat} (h : x.Runs (n + 1)) {a kind seq : Int} {s : ByteArray} (ha : 0 ≤ a ∧ a < x.stable.length) (hk : 1 ≤ kind ∧ kind ≤ 255) (hn : s.size ≤ 112) (hq : 0 ≤ seq ∧ seq < 4294967296) :
    (x.put a kind seq s).1 = 0 ∧ x.Puts (x.put a kind seq s).2 n a 0 ⟨kind, seq, s⟩ := by
  have hE : sealE a kind s.size = 0 := sealE_ok (by have := h.ok.hi; omega) hk hn
  unfold DevS.put
  rw [if_pos hE]
  obtain ⟨h1, h2, h3, h4⟩ := write_runs h ha ⟨sealL_length a kind seq s hn, sealL_bytes seq hE⟩
  refine ⟨h1, h2, h3, get_sealed h2.on (by rw [h3]; exact ha) hE hq (by rw [h4 a ha.1 ha.2, if_pos rfl]), fun b hb1 hb2 hne => ?_⟩
  exact same_fr (h2.on.trans h.on.symm) h3 (by rw [h4 b hb1 hb2, if_neg hne])
/-- A sector of zeros is written. -/
theorem blank_runs {x : DevS} {n : Nat} (h : x.Runs (n + 1)) {a : Int} (ha : 0 ≤ a ∧ a < x.stable.length) :
    (x.write a zsec).1 = 0 ∧ x.Puts (x.write a zsec).2 n a 70 noFr := by
  obtain ⟨h1, h2, h3, h4⟩ := write_runs h ha ⟨zsec_length, zsec_bytes⟩
  have hr := h4 a ha.1 ha.2
  rw [if_pos rfl] at hr
  have hge : (x.write a zsec).2.ge a = 70 := by
    show getE _ _ a _ = 70
    unfold getE
    have hhi := h.ok.hi
    rw [if_pos (show Go.Proofs.YtloddiipepiocaaGreatDoor.atE _ _ a = 0 from atE_in h2.on (by rw [h3]; exact ha)), hr]
    unfold openE
    rw [if_neg (by omega), if_pos rfl]
  refine ⟨h1, h2, h3, ⟨hge, by unfold DevS.fr; rw [hge, if_neg (by decide)]⟩, fun b hb1 hb2 hne => ?_⟩
  exact same_fr (h2.on.trans h.on.symm) h3 (by rw [h4 b hb1 hb2, if_neg hne])
theorem flush_same {x : DevS} {n : Nat} (h : x.Runs n) : x.flushed.Runs n ∧ x.flushed.stable.length = x.stable.length ∧ ∀ b : Int, 0 ≤ b → b < x.stable.length → sameFr x x.flushed b := by
  obtain ⟨h1, h2⟩ := flush_runs h
  exact ⟨h1, h2.size, fun b hb1 hb2 => same_fr (h1.on.trans h.on.symm) h2.size (h2.reads b hb1 hb2)⟩

end Go.Proofs.YtloddiipepiocaaGreatDoor
/- Layer 9 in plain words: what the functions of the journal return, and the device behind them. No program in sight. -/
namespace Go.Proofs.YtloddiipepiocaaGreatDoor
open Go.RowKit

/-- A record of a transaction. -/
structure Rec where
  at_ : Int
  kind : Int
  data : ByteArray
deriving DecidableEq, Inhabited
def recV (r : Rec) : List Value := [.int .i64 r.at_, .int .i64 r.kind, .string r.data]
theorem recV_length (r : Rec) : (recV r).length = 3 := rfl
def noRec : Rec := ⟨0, 0, ⟨#[]⟩⟩
def bstr (l : List Int) : ByteArray := strOfNums l

def checkE (F Z : Int) : Int := if Z < 8 ∨ 96 < Z ∨ F < 0 ∨ 256 - Z < F then 7 else 0
def insideB (F Z a : Int) : Bool := decide (F ≤ a ∧ a < F + Z)
def mostN (Z : Int) : Int := min (Z - 2) 80
def shortS (n : Int) : ByteArray := bstr [n % 256, n / 256 % 256]
def DevS.flush (x : DevS) : Int × DevS := (readyE x.off, if x.off then x else x.flushed)
def DevS.blanks (x : DevS) (a : Int) : Nat → Int × DevS
  | 0 => (0, x)
  | k + 1 => if (x.blanks a k).1 ≠ 0 then x.blanks a k else (x.blanks a k).2.write (a + k) zsec
def DevS.jfmt (x : DevS) (F Z : Int) : Int × DevS :=
  if checkE F Z ≠ 0 then (checkE F Z, x) else
  if (x.put F 1 0 ⟨#[]⟩).1 ≠ 0 then x.put F 1 0 ⟨#[]⟩ else
  if ((x.put F 1 0 ⟨#[]⟩).2.blanks (F + 1) (Z - 1).toNat).1 ≠ 0 then (x.put F 1 0 ⟨#[]⟩).2.blanks (F + 1) (Z - 1).toNat else
  ((x.put F 1 0 ⟨#[]⟩).2.blanks (F + 1) (Z - 1).toNat).2.flush
def DevS.head (x : DevS) (F Z : Int) : Int × Int :=
  if checkE F Z ≠ 0 then (checkE F Z, 0) else if x.ge F ≠ 0 then (x.ge F, 0) else if (x.fr F).kind ≠ 1 ∨ (x.fr F).data ≠ ⟨#[]⟩ then (6, 0) else (0, (x.fr F).seq)

/-- What is written for a transaction. -/
def recE (n F Z : Int) (l : List Rec) (r : Rec) : Int :=
  if F ≤ r.at_ ∧ r.at_ < F + Z then 2 else if r.at_ < 0 ∨ n ≤ r.at_ ∨ r.kind < 1 ∨ 255 < r.kind then 7 else if 96 < r.data.size then 3 else if r.at_ ∈ l.map (·.at_) then 8 else 0
def validTo (n F Z : Int) (l : List Rec) : Nat → Int
  | 0 => 0
  | k + 1 => if validTo n F Z l k ≠ 0 then validTo n F Z l k else recE n F Z (l.take k) (l.getD k default)
def validE (n F Z : Int) (l : List Rec) : Int := if mostN Z < l.length then 12 else validTo n F Z l l.length
def DevS.puts (x : DevS) (l : List (Int × Fr)) : Nat → Int × DevS
  | 0 => (0, x)
  | k + 1 => if (x.puts l k).1 ≠ 0 then x.puts l k else (x.puts l k).2.put (l.getD k default).1 (l.getD k default).2.kind (l.getD k default).2.seq (l.getD k default).2.data
def logS (r : Rec) : ByteArray := ⟨(shortS r.at_).data ++ (bstr [r.kind % 256]).data ++ r.data.data⟩
def logL (F q : Int) (l : List Rec) : List (Int × Fr) := l.zipIdx.map fun p => (F + 1 + p.2, ⟨2, q, logS p.1⟩)
def appL (q : Int) (l : List Rec) : List (Int × Fr) := l.map fun r => (r.at_, ⟨r.kind, q, r.data⟩)
def next (q : Int) : Int := (q + 1) % 4294967296
def DevS.done (p : Int × DevS) : Int × DevS := if p.1 ≠ 0 then p else p.2.flush
def DevS.log (x : DevS) (F Z : Int) (l : List Rec) : Int × DevS :=
  if (x.head F Z).1 ≠ 0 then ((x.head F Z).1, x) else
  if validE x.stable.length F Z l ≠ 0 then (validE x.stable.length F Z l, x) else
  if (x.puts (logL F (next (x.head F Z).2) l) l.length).1 ≠ 0 then x.puts (logL F (next (x.head F Z).2) l) l.length else
  DevS.done ((x.puts (logL F (next (x.head F Z).2) l) l.length).2.put (F + 1 + l.length) 3 (next (x.head F Z).2) (shortS l.length))

/-- What a frame of the journal says. -/
def recOf (f : Fr) : Rec := if f.kind ≠ 2 ∨ f.data.size < 3 ∨ 99 < f.data.size then noRec else ⟨bits .or .i64 ((strL f.data).getD 0 0) ((strL f.data).getD 1 0 * 256), (strL f.data).getD 2 0, f.data.extract 3 f.data.size⟩
def recIs (n F Z : Int) (f : Fr) : Bool := if f.kind ≠ 2 ∨ f.data.size < 3 ∨ 99 < f.data.size then false else decide ((recOf f).at_ < n) && !insideB F Z (recOf f).at_ && decide (0 < (recOf f).kind)
def brokenB (e : Int) : Bool := e == 1 || e == 13 || e == 7
structure Look where
  stop : Bool
  e : Int
  run : List Rec
  whole : Bool
deriving Inhabited
def DevS.lookTo (x : DevS) (F Z q : Int) : Nat → Look
  | 0 => ⟨false, 0, [], false⟩
  | k + 1 => if (x.lookTo F Z q k).stop then x.lookTo F Z q k else
    if brokenB (x.ge (F + 1 + k)) then ⟨true, x.ge (F + 1 + k), [], false⟩ else
    if !(x.ge (F + 1 + k) == 0 && (x.fr (F + 1 + k)).seq == next q) || !recIs x.stable.length F Z (x.fr (F + 1 + k)) || decide ((recOf (x.fr (F + 1 + k))).at_ ∈ (x.lookTo F Z q k).run.map (·.at_)) || decide (((x.lookTo F Z q k).run.length : Int) = mostN Z) then
      ⟨true, 0, (x.lookTo F Z q k).run, (x.ge (F + 1 + k) == 0 && (x.fr (F + 1 + k)).seq == next q) && (x.fr (F + 1 + k)).kind == 3 && decide ((x.fr (F + 1 + k)).data = shortS (x.lookTo F Z q k).run.length)⟩ else
    ⟨false, 0, (x.lookTo F Z q k).run ++ [recOf (x.fr (F + 1 + k))], false⟩
/-- The error, the number, the run, and whether it is whole. -/
def DevS.look (x : DevS) (F Z : Int) : Int × Int × List Rec × Bool :=
  if (x.head F Z).1 ≠ 0 then ((x.head F Z).1, 0, [], false) else
  if (x.lookTo F Z (x.head F Z).2 (Z - 1).toNat).e ≠ 0 then ((x.lookTo F Z (x.head F Z).2 (Z - 1).toNat).e, 0, [], false) else
  (0, (x.head F Z).2, (x.lookTo F Z (x.head F Z).2 (Z - 1).toNat).run, (x.lookTo F Z (x.head F Z).2 (Z - 1).toNat).whole)
def DevS.applies (x : DevS) (q : Int) (l : List Rec) : Int × DevS := DevS.done (x.puts (appL (next q) l) l.length)
def DevS.apply (x : DevS) (F Z : Int) : Int × Int × DevS :=
  if (x.look F Z).1 ≠ 0 then (0, (x.look F Z).1, x) else if (x.look F Z).2.2.2 = false then (0, 9, x) else
  if (x.applies (x.look F Z).2.1 (x.look F Z).2.2.1).1 ≠ 0 then (0, x.applies (x.look F Z).2.1 (x.look F Z).2.2.1) else ((x.look F Z).2.2.1.length, x.applies (x.look F Z).2.1 (x.look F Z).2.2.1)
def DevS.clear (x : DevS) (F Z : Int) : Int × DevS := if (x.head F Z).1 ≠ 0 then ((x.head F Z).1, x) else DevS.done (x.put F 1 (next (x.head F Z).2) ⟨#[]⟩)
def DevS.commit (x : DevS) (F Z : Int) (l : List Rec) : Int × DevS :=
  if (x.log F Z l).1 ≠ 0 then x.log F Z l else
  if ((x.log F Z l).2.apply F Z).2.1 ≠ 0 then ((x.log F Z l).2.apply F Z).2 else
  ((x.log F Z l).2.apply F Z).2.2.clear F Z

end Go.Proofs.YtloddiipepiocaaGreatDoor
/- Layer 6: Save. -/
namespace Go.Proofs.YtloddiipepiocaaGreatDoor
open Go.RowKit Go.Maps

theorem Tryz.infoSec3 : (Tryz.prog.info? 42).map (fun i => (i.zero, i.size, i.bytes)) = some (some (.agg (fill (.int .u8 0) 128)), 128, 128) := by kernel_rfl
theorem wpList_appendBy' {P : Program} {ops : Array Oper} {rest : List Oper} {o : Oper} {a : Act} {w w' : World} {Q : Exit → Act → World → Prop} (hgd : o.guard = none) (s x : Operand) (t : TypeId) (ho : o.op = .call { callee := .builtin .append, args := #[s, x], argTypes := #[t, t] }) (p q v : Value) (hs : a.eval s = p) (hx : a.eval x = q)
    (hrun : (Builtin.append_ #[t, t] o.type #[p, q]).run P w = .ok v w') (h : wpList P ops Q rest (a.put o.dst v) w') : wpList P ops Q (o :: rest) a w := by
  refine wpList_plain hgd fun _ hK => ?_
  unfold Oper.wp execOp
  simp only [ho, resolve, invoke, builtin, Sem.run_bind, Sem.run_pure, Result.andThen_ok, List.map_toArray, List.map_cons, List.map_nil, hs, hx, hrun]
  exact hK _ _ h

set_option maxRecDepth 100000 in
set_option maxHeartbeats 400000 in
theorem clone_sec (A : Option Addr) (n c : Nat) (xs : List Value) (hx : xs.length = n * 128) (hn : n ≤ 1000) (w : World) (hR : Reads w A xs) (hA : A = none → n = 0) (h1 : ∀ u ∈ xs, u.oneCell' = true) :
    Calls Tryz.prog 49 #[.slice A n c] w fun e w' => ∃ v, e = .returned v ∧ w'.ownsRow w.heap.size 42 128 v n xs ∧ Below w.heap.size w w' := by
  obtain ⟨i, z, hi, hz, hsz, hby, hzs⟩ : ∃ i z, Tryz.prog.info? 42 = some i ∧ i.zero = some z ∧ i.size = 128 ∧ i.bytes = 128 ∧ z.cells.size = 128 := by
    have h0 : ((Tryz.prog.info? 42).bind fun i => i.zero.map fun z => (i.size, i.bytes, z.cells.size)) = some (128, 128, 128) := by kernel_rfl
    cases hi : Tryz.prog.info? 42 with
    | none => rw [hi] at h0; cases h0
    | some i =>
      rw [hi] at h0
      cases hz : i.zero with
      | none => rw [Option.bind_some, hz] at h0; cases h0
      | some z =>
        rw [Option.bind_some, hz] at h0
        simp only [Option.map_some, Option.some.injEq, Prod.mk.injEq] at h0
        exact ⟨i, z, rfl, hz, h0.1, h0.2.1, h0.2.2⟩
  have hnil := fun (w : World) => Lib.run_eql_slice_nil (P := Tryz.prog) w 30 42 A n c 0 0 Tryz.underlying30
  rcases A with _ | ad
  · have hn0 := hA rfl
    subst hn0
    obtain rfl : xs = [] := List.eq_nil_of_length_eq_zero (by omega)
    go_enter Tryz.func49, Tryz.ntmps49
    go_wp2_with fail
    go_ret
    exact ⟨_, rfl, World.ownsRow_nil _ _ _ _, Below.refl _ _⟩
  · obtain ⟨w0, hw0⟩ : ∃ w0, w0 = w.alloc (.cells #[] 42) := ⟨_, rfl⟩
    have hown0 : w0.ownsRow w.heap.size 42 128 (.slice (some ⟨w.heap.size, 0, none⟩) 0 0) 0 [] := by rw [hw0]; exact World.ownsRow_made w #[] 0 (Nat.le_refl _) (by simp) rfl
    have B0 : Below w.heap.size w w0 := by rw [hw0]; exact (Below.refl _ _).alloc (Nat.le_refl _) _
    have hcells : ∀ j u, xs[j]? = some u → w0.cell? (ad.add j) = some u := fun j u hu => by
      rcases hR.below B0 with h | ⟨b, off, hb, hlt, hc⟩
      · subst h; simp at hu
      · cases hb
        rw [addr_add]
        exact hc j u hu
    obtain ⟨v1, w1, hrun, hown1, hg1, -, hat1⟩ := run_append_own_at (P := Tryz.prog) w0 w.heap.size 30 30 42 i z 128 128 Tryz.underlying30 hi hz hsz hby hzs (by omega) _ _ _ hown0 ad n c xs hx hcells h1 (by simp only [maxLen]; omega) (by omega) B0.size
    go_enter Tryz.func49, Tryz.ntmps49
    go_wp2_with (refine wpList_appendBy' rfl _ _ _ rfl (.slice (some ⟨w.heap.size, 0, none⟩) 0 0) (.slice (some ad) n c) v1 rfl rfl (by rw [← hw0]; exact hrun) ?_)
    go_ret
    exact ⟨v1, rfl, by simpa using hown1, B0.grown hg1 B0.size (fun k hk => by simp [Value.ownBlock] at hk; omega)⟩
set_option maxRecDepth 100000 in
set_option maxHeartbeats 400000 in
theorem clone_dvw (A : Option Addr) (n c : Nat) (xs : List Value) (hx : xs.length = n * 129) (hn : n ≤ 1000) (w : World) (hR : Reads w A xs) (hA : A = none → n = 0) (h1 : ∀ u ∈ xs, u.oneCell' = true) :
    Calls Tryz.prog 50 #[.slice A n c] w fun e w' => ∃ v, e = .returned v ∧ w'.ownsRow w.heap.size 111 129 v n xs ∧ Below w.heap.size w w' := by
  obtain ⟨i, z, hi, hz, hsz, hby, hzs⟩ : ∃ i z, Tryz.prog.info? 111 = some i ∧ i.zero = some z ∧ i.size = 129 ∧ i.bytes = 136 ∧ z.cells.size = 129 := by
    have h0 : ((Tryz.prog.info? 111).bind fun i => i.zero.map fun z => (i.size, i.bytes, z.cells.size)) = some (129, 136, 129) := by kernel_rfl
    cases hi : Tryz.prog.info? 111 with
    | none => rw [hi] at h0; cases h0
    | some i =>
      rw [hi] at h0
      cases hz : i.zero with
      | none => rw [Option.bind_some, hz] at h0; cases h0
      | some z =>
        rw [Option.bind_some, hz] at h0
        simp only [Option.map_some, Option.some.injEq, Prod.mk.injEq] at h0
        exact ⟨i, z, rfl, hz, h0.1, h0.2.1, h0.2.2⟩
  have hnil := fun (w : World) => Lib.run_eql_slice_nil (P := Tryz.prog) w 31 111 A n c 0 0 Tryz.underlying31
  rcases A with _ | ad
  · have hn0 := hA rfl
    subst hn0
    obtain rfl : xs = [] := List.eq_nil_of_length_eq_zero (by omega)
    go_enter Tryz.func50, Tryz.ntmps50
    go_wp2_with fail
    go_ret
    exact ⟨_, rfl, World.ownsRow_nil _ _ _ _, Below.refl _ _⟩
  · obtain ⟨w0, hw0⟩ : ∃ w0, w0 = w.alloc (.cells #[] 111) := ⟨_, rfl⟩
    have hown0 : w0.ownsRow w.heap.size 111 129 (.slice (some ⟨w.heap.size, 0, none⟩) 0 0) 0 [] := by rw [hw0]; exact World.ownsRow_made w #[] 0 (Nat.le_refl _) (by simp) rfl
    have B0 : Below w.heap.size w w0 := by rw [hw0]; exact (Below.refl _ _).alloc (Nat.le_refl _) _
    have hcells : ∀ j u, xs[j]? = some u → w0.cell? (ad.add j) = some u := fun j u hu => by
      rcases hR.below B0 with h | ⟨b, off, hb, hlt, hc⟩
      · subst h; simp at hu
      · cases hb
        rw [addr_add]
        exact hc j u hu
    obtain ⟨v1, w1, hrun, hown1, hg1, -, hat1⟩ := run_append_own_at (P := Tryz.prog) w0 w.heap.size 31 31 111 i z 129 136 Tryz.underlying31 hi hz hsz hby hzs (by omega) _ _ _ hown0 ad n c xs hx hcells h1 (by simp only [maxLen]; omega) (by omega) B0.size
    go_enter Tryz.func50, Tryz.ntmps50
    go_wp2_with (refine wpList_appendBy' rfl _ _ _ rfl (.slice (some ⟨w.heap.size, 0, none⟩) 0 0) (.slice (some ad) n c) v1 rfl rfl (by rw [← hw0]; exact hrun) ?_)
    go_ret
    exact ⟨v1, rfl, by simpa using hown1, B0.grown hg1 B0.size (fun k hk => by simp [Value.ownBlock] at hk; omega)⟩

theorem storeRow' {W : World} {g : Nat} {t ty : TypeId} {cur : Array Value} {vs : Array Value} (b : Blk W g t cur) (hl : cur.size = vs.size) (h1 : vs.all (·.oneCell') = true) (hsz : (sizeOf ty).run Tryz.prog W = .ok vs.size W) :
    (Instr.storeAt ty (.pointer (some ⟨g, 0, none⟩)) (.agg vs)).run Tryz.prog W = .ok () (W.setRow g vs) := by
  have h := run_storeAt_row (P := Tryz.prog) (w := W) (ty := ty) (t := t) (g := g) (o := 0) (cur := cur) (vs := vs.toList) b (by simp; omega) (fun v hv => by
    have := Array.all_eq_true'.1 h1 v (by simpa using hv)
    exact this) (by simpa using hsz)
  have e : (cur.toList.take 0 ++ vs.toList ++ cur.toList.drop (0 + vs.toList.length)).toArray = vs := by
    rw [List.take_zero, List.nil_append, List.drop_of_length_le (by simp; omega), List.append_nil]
  rw [e] at h
  simpa using h
/-- What Save returns. -/
def stateC (sv cv : Value) (tk pw : Int) (off : Bool) : Array Value := #[sv, cv, .int .i64 tk, .int .i64 pw, .bool off]
set_option maxRecDepth 100000 in
set_option maxHeartbeats 1000000 in
theorem save_any (D S c M : Nat) (cv : Value) (x : DevS) (ok : x.Ok) (w : World) (m : DevMem w D S c M cv x) :
    Calls Tryz.prog 13 #[.pointer (some ⟨D, 0, none⟩)] w fun e w' => ∃ sv cv', e = .returned (.agg (stateC sv cv' x.taken x.power x.off)) ∧ w'.ownsRow w.heap.size 42 128 sv x.stable.length (x.stable.flatMap secV) ∧ w'.ownsRow w.heap.size 111 129 cv' x.cache.length (x.cache.flatMap dwV) ∧ Below w.heap.size w w' := by
  obtain ⟨A, cc, g, hcv, hA⟩ := cv_form m
  subst hcv
  have hL := ok.len
  have hN := ok.hi
  have bD := m.dev
  unfold devC at bD
  have hok := fun W (b : Blk W D 115 #[.slice (some ⟨S, 0, none⟩) x.stable.length c, .slice A x.cache.length cc, .int .i64 x.taken, .int .i64 x.power, .bool x.off, .map (some M)]) => devOk_any D S x.stable.length c (.slice A x.cache.length cc) x.taken x.power x.off M W b
  obtain ⟨w0, hw0⟩ : ∃ w0, w0 = w.alloc (.cells (stateC (.slice none 0 0) (.slice none 0 0) 0 0 false) 33) := ⟨_, rfl⟩
  obtain ⟨w1, hw1⟩ : ∃ w1, w1 = w0.alloc (.cells (stateC (.slice (some ⟨S, 0, none⟩) x.stable.length c) (.slice A x.cache.length cc) x.taken x.power x.off) 33) := ⟨_, rfl⟩
  have bD0 : Blk w0 D 115 #[.slice (some ⟨S, 0, none⟩) x.stable.length c, .slice A x.cache.length cc, .int .i64 x.taken, .int .i64 x.power, .bool x.off, .map (some M)] := by rw [hw0]; exact bD.alloc _
  have bR1 : Blk w1 w.heap.size 33 (stateC (.slice none 0 0) (.slice none 0 0) 0 0 false) := by rw [hw1, hw0]; exact (Blk.new _ _ _).alloc _
  have bS1 : Blk w1 (w.heap.size + 1) 33 (stateC (.slice (some ⟨S, 0, none⟩) x.stable.length c) (.slice A x.cache.length cc) x.taken x.power x.off) := by rw [hw1, hw0]; exact Blk.new' (by simp)
  have B0 : Below w.heap.size w w0 := by rw [hw0]; (repeat' (first | (with_reducible exact Below.refl _ _) | (with_reducible assumption) | (with_reducible refine Below.alloc ?_ ?_ _) | (with_reducible refine Below.drew ?_) | (with_reducible refine below_drewN' ?_ _) | (with_reducible refine Below.setCell ?_ ?_ _) | (with_reducible exact Nat.le_refl _) | omega | (simp; done) | (simp; omega)))
  have B1 : Below w.heap.size w w1 := by rw [hw1]; exact B0.alloc B0.size _
  have Rs : Reads w (some ⟨S, 0, none⟩) (x.stable.flatMap secV) := .inr ⟨S, 0, rfl, (m.sta.lt S rfl).2, fun j u hu => by rw [Nat.zero_add]; exact own_cell m.sta hu⟩
  have Rc : Reads w A (x.cache.flatMap dwV) := by
    by_cases h0 : 0 < x.cache.length
    · have hA' := hA h0
      subst hA'
      exact .inr ⟨g, 0, rfl, (m.cac.lt g rfl).2, fun j u hu => by rw [Nat.zero_add]; exact own_cell m.cac hu⟩
    · left
      have : x.cache = [] := List.eq_nil_of_length_eq_zero (by omega)
      rw [this]; rfl
  have lenS : (x.stable.flatMap secV).length = x.stable.length * 128 := m.sta.1
  have lenC : (x.cache.flatMap dwV).length = x.cache.length * 129 := m.cac.1
  have oneS : ∀ u ∈ x.stable.flatMap secV, u.oneCell' = true := fun u hu => by
    obtain ⟨s, _, hs⟩ := List.mem_flatMap.1 hu
    exact secV_one s u hs
  have oneC : ∀ u ∈ x.cache.flatMap dwV, u.oneCell' = true := fun u hu => by
    obtain ⟨s, _, hs⟩ := List.mem_flatMap.1 hu
    exact dwV_one s u hs
  have hAn : A = none → x.cache.length = 0 := fun h => by
    by_cases h0 : 0 < x.cache.length
    · have := hA h0; rw [h] at this; cases this
    · omega
  have cl1 := clone_sec (some ⟨S, 0, none⟩) x.stable.length c (x.stable.flatMap secV) lenS (by omega) w1.drew ((Rs.below B1).below (Below.refl _ _).drew) (fun h => by cases h) oneS
  have cD0 := bD0.cells
  have lD0 := bD0.lt
  have hS0 : w1.cell? ⟨w.heap.size + 1, 0, none⟩ = some (.slice (some ⟨S, 0, none⟩) x.stable.length c) ∧ w1.cell? ⟨w.heap.size + 1, 1, none⟩ = some (.slice A x.cache.length cc) := ⟨by rw [bS1.cells]; rfl, by rw [bS1.cells]; rfl⟩
  have Rc1 := Rc.below B1
  clear Rs Rc B0 bD m
  have hok0 := hok w0 bD0
  have hz0 : w0.heap.size = w.heap.size + 1 := by rw [hw0]; simp
  have z1 := B1.size
  have HZ0 := Lib.hid hz0
  clear hz0
  have HW1 := Lib.hid hw1
  unfold stateC at hw0 hw1 bR1 bS1
  go_enter Tryz.func13, Tryz.ntmps13
  go_wp2_with fail
  rw [← hw0]
  refine hok0.mono ?_
  rintro e w' ⟨rfl, hw'⟩
  replace hw' := hw'.symm
  subst hw'
  clear hok0 hok hw0
  go_wp2_with fail
  rw [← hw1, HZ0.out]
  clear hw1 cD0 lD0
  refine wp_region_mix [.take 0, .take 1, .take 3, .take 4, .one 2, .take 6, .one 5, .one 7, .one 8, .one 9] 7 (fun w' => w'.cell? ⟨w.heap.size + 1, 0, none⟩ = some (.slice (some ⟨S, 0, none⟩) x.stable.length c) ∧ w'.cell? ⟨w.heap.size + 1, 1, none⟩ = some (.slice A x.cache.length cc)) (by kernel_rfl) (by kernel_rfl) (fun _ _ _ _ _ h => h) hS0 ?_
  simp only [List.map_cons, List.map_nil, Ms.fill, List.getD_cons_zero, List.getD_cons_succ]
  iterate 4 (refine mixT_take (by rfl) ?_ (fun w' hw' => ?_) ?_; rotate_left; (focus (go_simp; (try with_reducible rfl))); (try simp only [Act.put, List.setIfInBounds_toArray, List.set_cons_zero, List.set_cons_succ]))
  refine mixT_step (by rfl) fun K hK => ?_
  go_simp
  refine cl1.mono ?_
  rintro e w2 ⟨sv, rfl, ownS, hb2⟩
  have bS2 := bS1.drew.belowAll hb2
  have bR2 := bR1.drew.belowAll hb2
  have B2 : Below w.heap.size w w2 := B1.drew.trans (hb2.mono z1)
  have Rc2 := (Rc1.below (Below.refl _ _).drew).below hb2
  have ownS2 : w2.ownsRow w.heap.size 42 128 sv x.stable.length (x.stable.flatMap secV) := own_base ownS z1
  have hsv : ∀ g, sv.ownBlock = some g → w1.heap.size ≤ g := fun g e => (ownS.lt g e).1
  have z2 : w1.heap.size ≤ w2.heap.size := hb2.size
  refine hK _ _ (fun _ => ⟨by rw [bS2.cells]; rfl, by rw [bS2.cells]; rfl⟩) ?_
  clear hK K cl1 hb2 hS0 bS1 bR1 Rc1 ownS
  iterate 1 (refine mixT_take (by rfl) ?_ (fun w' hw' => ?_) ?_; rotate_left; (focus (go_simp; (try with_reducible rfl))); (try simp only [Act.put, List.setIfInBounds_toArray, List.set_cons_zero, List.set_cons_succ]))
  refine mixT_step (by rfl) fun K hK => ?_
  go_simp
  refine (clone_dvw A x.cache.length cc (x.cache.flatMap dwV) lenC (by omega) w2 Rc2 hAn oneC).mono ?_
  rintro e w3 ⟨cv', rfl, ownC, hb3⟩
  have bS3 := bS2.belowAll hb3
  have bR3 := bR2.belowAll hb3
  have B3 : Below w.heap.size w w3 := B2.trans (hb3.mono B2.size)
  have ownS3 := own_below ownS2 hb3
  have ownC3 : w3.ownsRow w.heap.size 111 129 cv' x.cache.length (x.cache.flatMap dwV) := own_base ownC B2.size
  have hcv' : ∀ g, cv'.ownBlock = some g → w1.heap.size ≤ g := fun g e => Nat.le_trans z2 (ownC.lt g e).1
  refine hK _ _ (fun _ => ⟨by rw [bS3.cells]; rfl, by rw [bS3.cells]; rfl⟩) ?_
  clear hK K hb3 bS2 bR2 B2 Rc2 ownS2 ownC z2
  obtain ⟨S', c', rfl, -, -⟩ := own_form ownS3 (by have := ok.lo; omega)
  obtain ⟨A', cc', g', hcv2, -⟩ : ∃ A' cc' g', cv' = .slice A' x.cache.length cc' ∧ (0 < x.cache.length → A' = some ⟨g', 0, none⟩) := by
    rcases ownC3.2 with ⟨rfl, h0⟩ | ⟨g, cap, cur, rfl, -⟩
    · exact ⟨none, 0, 0, by rw [h0], by omega⟩
    · exact ⟨_, cap, g, rfl, fun _ => rfl⟩
  subst hcv2
  have cS3 := bS3.cells
  have fS3 := bS3.free
  have lS3 := bS3.lt
  refine mixT_step (by rfl) fun K hK => ?_
  go_simp
  refine hK _ _ (fun h => absurd h (by decide)) ?_
  clear hK K
  refine mixT_step (by rfl) fun K hK => ?_
  go_simp
  refine hK _ _ (fun h => absurd h (by decide)) ?_
  clear hK K
  refine mixT_step (by rfl) fun K hK => ?_
  go_simp
  refine hK _ _ (fun h => absurd h (by decide)) ?_
  clear hK K
  refine mixT_nil ?_
  obtain ⟨w4, hw4⟩ : ∃ w4, w4 = (w3.setCell ⟨w.heap.size + 1, 0, none⟩ (.slice (some ⟨S', 0, none⟩) x.stable.length c')).setCell ⟨w.heap.size + 1, 1, none⟩ (.slice A' x.cache.length cc') := ⟨_, rfl⟩
  have zz : w.heap.size + 1 < w1.heap.size := by have := HZ0.out; rw [HW1.out]; simp; omega
  have bS4 : Blk w4 (w.heap.size + 1) 33 #[.slice (some ⟨S', 0, none⟩) x.stable.length c', .slice A' x.cache.length cc', .int .i64 x.taken, .int .i64 x.power, .bool x.off] := by rw [hw4]; exact (bS3.set_ 0 _).set_ 1 _
  have bR4 : Blk w4 w.heap.size 33 #[.slice none 0 0, .slice none 0 0, .int .i64 0, .int .i64 0, .bool false] := by rw [hw4]; exact (bR3.far (by simp) _).far (by simp) _
  have B4 : Below w.heap.size w w4 := by rw [hw4]; exact (B3.setCell (by simp) _).setCell (by simp) _
  have k4 : KeepEx w3.heap.size [w.heap.size + 1] w3 w4 := by rw [hw4]; exact (KeepEx.setCell _ (.inl (by simp)) _).trans (KeepEx.setCell _ (.inl (by simp)) _)
  rw [← hw4]
  clear hw4 cS3 fS3 lS3 bS3 bR3 B3
  have ownS4 := own_block ownS3 (fun g e => k4.block g (ownS3.lt g e).2 (by have := hsv g e; simp; omega))
  have ownC4 := own_block ownC3 (fun g e => k4.block g (ownC3.lt g e).2 (by have := hcv' g e; simp; omega))
  have cS4 := bS4.cells
  have lS4 := bS4.lt
  have cR4 := bR4.cells
  have fR4 := bR4.free
  have lR4 := bR4.lt
  have hst := storeRow' (ty := 33) (vs := stateC (.slice (some ⟨S', 0, none⟩) x.stable.length c') (.slice A' x.cache.length cc') x.taken x.power x.off) bR4 rfl (by simp [stateC, Value.oneCell']) (by kernel_rfl)
  unfold stateC at hst
  clear fR4 cR4 lR4
  go_wp2_with (refine wpList_storeBy rfl _ _ _ rfl _ _ rfl rfl hst ?_)
  have bR5 := bR4.setRow (cs' := #[.slice (some ⟨S', 0, none⟩) x.stable.length c', .slice A' x.cache.length cc', .int .i64 x.taken, .int .i64 x.power, .bool x.off])
  have cR5 := bR5.cells
  have k5 : KeepEx w4.heap.size [w.heap.size] w4 (w4.setRow w.heap.size #[.slice (some ⟨S', 0, none⟩) x.stable.length c', .slice A' x.cache.length cc', .int .i64 x.taken, .int .i64 x.power, .bool x.off]) := KeepEx.setRow _ (.inl (by simp)) _
  refine bodyPost_ret (v := .agg #[.slice (some ⟨S', 0, none⟩) x.stable.length c', .slice A' x.cache.length cc', .int .i64 x.taken, .int .i64 x.power, .bool x.off]) (by simp [results, Tryz.results13, go_sem, cR5]) rfl ?_
  exact ⟨_, _, rfl, own_block ownS4 (fun g e => k5.block g (ownS4.lt g e).2 (by have := hsv g e; simp; omega)), own_block ownC4 (fun g e => k5.block g (ownC4.lt g e).2 (by have := hcv' g e; simp; omega)), Below.setRow B4 (Nat.le_refl _) _⟩

end Go.Proofs.YtloddiipepiocaaGreatDoor
