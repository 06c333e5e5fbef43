/- Parts of the proof, put together by program: J0, X2, J1, J2. -/
import Derived.Test.YtfgfdjaiamaelaaGreatDoorPart12
import Derived.Test.YtfgfdjaiamaelaaGreatDoorPart11
/- Layer 9 in plain words: what the functions of the journal return, and the device behind them. No program in sight. -/
namespace Go.Proofs.YtfgfdjaiamaelaaGreatDoor
open Go.RowKit

/-- A record of a transaction. -/
structure Rec where
  at_ : Int
  kind : Int
  data : ByteArray
deriving DecidableEq, Inhabited
def recV (r : Rec) : List Value := [.int .i64 r.at_, .int .i64 r.kind, .string r.data]
theorem recV_length (r : Rec) : (recV r).length = 3 := rfl
def noRec : Rec := ⟨0, 0, ⟨#[]⟩⟩
def bstr (l : List Int) : ByteArray := strOfNums l

def checkE (F Z : Int) : Int := if Z < 8 ∨ 96 < Z ∨ F < 0 ∨ 256 - Z < F then 7 else 0
def insideB (F Z a : Int) : Bool := decide (F ≤ a ∧ a < F + Z)
def mostN (Z : Int) : Int := min (Z - 2) 80
def shortS (n : Int) : ByteArray := bstr [n % 256, n / 256 % 256]
def DevS.flush (x : DevS) : Int × DevS := (readyE x.off, if x.off then x else x.flushed)
def DevS.blanks (x : DevS) (a : Int) : Nat → Int × DevS
  | 0 => (0, x)
  | k + 1 => if (x.blanks a k).1 ≠ 0 then x.blanks a k else (x.blanks a k).2.write (a + k) zsec
def DevS.jfmt (x : DevS) (F Z : Int) : Int × DevS :=
  if checkE F Z ≠ 0 then (checkE F Z, x) else
  if (x.put F 1 0 ⟨#[]⟩).1 ≠ 0 then x.put F 1 0 ⟨#[]⟩ else
  if ((x.put F 1 0 ⟨#[]⟩).2.blanks (F + 1) (Z - 1).toNat).1 ≠ 0 then (x.put F 1 0 ⟨#[]⟩).2.blanks (F + 1) (Z - 1).toNat else
  ((x.put F 1 0 ⟨#[]⟩).2.blanks (F + 1) (Z - 1).toNat).2.flush
def DevS.head (x : DevS) (F Z : Int) : Int × Int :=
  if checkE F Z ≠ 0 then (checkE F Z, 0) else if x.ge F ≠ 0 then (x.ge F, 0) else if (x.fr F).kind ≠ 1 ∨ (x.fr F).data ≠ ⟨#[]⟩ then (6, 0) else (0, (x.fr F).seq)

/-- What is written for a transaction. -/
def recE (n F Z : Int) (l : List Rec) (r : Rec) : Int :=
  if F ≤ r.at_ ∧ r.at_ < F + Z then 2 else if r.at_ < 0 ∨ n ≤ r.at_ ∨ r.kind < 1 ∨ 255 < r.kind then 7 else if 96 < r.data.size then 3 else if r.at_ ∈ l.map (·.at_) then 8 else 0
def validTo (n F Z : Int) (l : List Rec) : Nat → Int
  | 0 => 0
  | k + 1 => if validTo n F Z l k ≠ 0 then validTo n F Z l k else recE n F Z (l.take k) (l.getD k default)
def validE (n F Z : Int) (l : List Rec) : Int := if mostN Z < l.length then 12 else validTo n F Z l l.length
def DevS.puts (x : DevS) (l : List (Int × Fr)) : Nat → Int × DevS
  | 0 => (0, x)
  | k + 1 => if (x.puts l k).1 ≠ 0 then x.puts l k else (x.puts l k).2.put (l.getD k default).1 (l.getD k default).2.kind (l.getD k default).2.seq (l.getD k default).2.data
def logS (r : Rec) : ByteArray := ⟨(shortS r.at_).data ++ (bstr [r.kind % 256]).data ++ r.data.data⟩
def logL (F q : Int) (l : List Rec) : List (Int × Fr) := l.zipIdx.map fun p => (F + 1 + p.2, ⟨2, q, logS p.1⟩)
def appL (q : Int) (l : List Rec) : List (Int × Fr) := l.map fun r => (r.at_, ⟨r.kind, q, r.data⟩)
def next (q : Int) : Int := (q + 1) % 4294967296
def DevS.done (p : Int × DevS) : Int × DevS := if p.1 ≠ 0 then p else p.2.flush
def DevS.log (x : DevS) (F Z : Int) (l : List Rec) : Int × DevS :=
  if (x.head F Z).1 ≠ 0 then ((x.head F Z).1, x) else
  if validE x.stable.length F Z l ≠ 0 then (validE x.stable.length F Z l, x) else
  if (x.puts (logL F (next (x.head F Z).2) l) l.length).1 ≠ 0 then x.puts (logL F (next (x.head F Z).2) l) l.length else
  DevS.done ((x.puts (logL F (next (x.head F Z).2) l) l.length).2.put (F + 1 + l.length) 3 (next (x.head F Z).2) (shortS l.length))

/-- What a frame of the journal says. -/
def recOf (f : Fr) : Rec := if f.kind ≠ 2 ∨ f.data.size < 3 ∨ 99 < f.data.size then noRec else ⟨bits .or .i64 ((strL f.data).getD 0 0) ((strL f.data).getD 1 0 * 256), (strL f.data).getD 2 0, f.data.extract 3 f.data.size⟩
def recIs (n F Z : Int) (f : Fr) : Bool := if f.kind ≠ 2 ∨ f.data.size < 3 ∨ 99 < f.data.size then false else decide ((recOf f).at_ < n) && !insideB F Z (recOf f).at_ && decide (0 < (recOf f).kind)
def brokenB (e : Int) : Bool := e == 1 || e == 13 || e == 7
structure Look where
  stop : Bool
  e : Int
  run : List Rec
  whole : Bool
deriving Inhabited
def DevS.lookTo (x : DevS) (F Z q : Int) : Nat → Look
  | 0 => ⟨false, 0, [], false⟩
  | k + 1 => if (x.lookTo F Z q k).stop then x.lookTo F Z q k else
    if brokenB (x.ge (F + 1 + k)) then ⟨true, x.ge (F + 1 + k), [], false⟩ else
    if !(x.ge (F + 1 + k) == 0 && (x.fr (F + 1 + k)).seq == next q) || !recIs x.stable.length F Z (x.fr (F + 1 + k)) || decide ((recOf (x.fr (F + 1 + k))).at_ ∈ (x.lookTo F Z q k).run.map (·.at_)) || decide (((x.lookTo F Z q k).run.length : Int) = mostN Z) then
      ⟨true, 0, (x.lookTo F Z q k).run, (x.ge (F + 1 + k) == 0 && (x.fr (F + 1 + k)).seq == next q) && (x.fr (F + 1 + k)).kind == 3 && decide ((x.fr (F + 1 + k)).data = shortS (x.lookTo F Z q k).run.length)⟩ else
    ⟨false, 0, (x.lookTo F Z q k).run ++ [recOf (x.fr (F + 1 + k))], false⟩
/-- The error, the number, the run, and whether it is whole. -/
def DevS.look (x : DevS) (F Z : Int) : Int × Int × List Rec × Bool :=
  if (x.head F Z).1 ≠ 0 then ((x.head F Z).1, 0, [], false) else
  if (x.lookTo F Z (x.head F Z).2 (Z - 1).toNat).e ≠ 0 then ((x.lookTo F Z (x.head F Z).2 (Z - 1).toNat).e, 0, [], false) else
  (0, (x.head F Z).2, (x.lookTo F Z (x.head F Z).2 (Z - 1).toNat).run, (x.lookTo F Z (x.head F Z).2 (Z - 1).toNat).whole)
def DevS.applies (x : DevS) (q : Int) (l : List Rec) : Int × DevS := DevS.done (x.puts (appL (next q) l) l.length)
def DevS.apply (x : DevS) (F Z : Int) : Int × Int × DevS :=
  if (x.look F Z).1 ≠ 0 then (0, (x.look F Z).1, x) else if (x.look F Z).2.2.2 = false then (0, 9, x) else
  if (x.applies (x.look F Z).2.1 (x.look F Z).2.2.1).1 ≠ 0 then (0, x.applies (x.look F Z).2.1 (x.look F Z).2.2.1) else ((x.look F Z).2.2.1.length, x.applies (x.look F Z).2.1 (x.look F Z).2.2.1)
def DevS.clear (x : DevS) (F Z : Int) : Int × DevS := if (x.head F Z).1 ≠ 0 then ((x.head F Z).1, x) else DevS.done (x.put F 1 (next (x.head F Z).2) ⟨#[]⟩)
def DevS.commit (x : DevS) (F Z : Int) (l : List Rec) : Int × DevS :=
  if (x.log F Z l).1 ≠ 0 then x.log F Z l else
  if ((x.log F Z l).2.apply F Z).2.1 ≠ 0 then ((x.log F Z l).2.apply F Z).2 else
  ((x.log F Z l).2.apply F Z).2.2.clear F Z

end Go.Proofs.YtfgfdjaiamaelaaGreatDoor
/- Layer 7: Put. -/
namespace Go.Proofs.YtfgfdjaiamaelaaGreatDoor
open Go.RowKit Go.Maps

set_option maxRecDepth 100000 in
set_option maxHeartbeats 1000000 in
theorem put_dev (D : Nat) (F : List Nat) (x : DevS) (a kind seq : Int) (s : ByteArray) (hs : s.size ≤ maxLen) (hq : 0 ≤ seq ∧ seq < 4294967296) (w : World) (h : DevAt w D F x) :
    Calls Tryz.prog 99 #[.pointer (some ⟨D, 0, none⟩), .int .i64 a, .int .i64 kind, .int .u32 seq, .string s] w fun e w' => e = .returned (.int .i64 (x.put a kind seq s).1) ∧ ∃ F', DevAt w' D F' (x.put a kind seq s).2 ∧ Grow w F w' F' := by
  have hz := zeroSector
  have hse := seal_any a kind seq s hs hq w h.half
  unfold SealPost at hse
  unfold DevS.put
  by_cases hE : sealE a kind s.size = 0
  · have hl := sealL_length a kind seq s (sealE_zero hE).2.2.2.2
    have hbx := sealL_bytes seq hE
    rw [if_pos hE]
    rw [if_pos hE, hE] at hse
    generalize sealL a kind seq s = xs at *
    clear hE
    go_enter Tryz.func99, Tryz.ntmps99
    go_wp2_with fail
    refine hse.mono ?_
    rintro e w1 ⟨hb1, rfl⟩
    have h1 := h.below hb1
    have z1 := hb1.size
    have bZ : Blk (w1.alloc (.cells (bytesV zsec) 137)) w1.heap.size 137 (bytesV zsec) := Blk.new _ _ _
    have bX : Blk ((w1.alloc (.cells (bytesV zsec) 137)).setRow w1.heap.size (bytesV xs)) w1.heap.size 137 (bytesV xs) := bZ.setRow
    have h2 : DevAt ((w1.alloc (.cells (bytesV zsec) 137)).setRow w1.heap.size (bytesV xs)) D F x := (h1.alloc _).row (h1.far (Nat.le_refl _)) (by have := h1.half.1; omega) _
    have B2 : Below w.heap.size w ((w1.alloc (.cells (bytesV zsec) 137)).setRow w1.heap.size (bytesV xs)) := Below.setRow (hb1.alloc z1 _) z1 _
    have hwr := write_dev D F x a xs ⟨hl, hbx⟩ _ h2
    clear hse hb1 h1
    go_wp2_with (first
      | (refine wpList_storeSec rfl _ _ rfl w1.heap.size xs rfl rfl bZ zsec_length hl ?_)
      | (refine wpList_loadSec rfl _ rfl w1.heap.size rfl bX hl ?_))
    refine hwr.mono ?_
    rintro e w3 ⟨rfl, F', h3, g3⟩
    go_wp2_with fail
    go_ret
    exact ⟨rfl, F', h3, (Grow.of_below B2 F).trans g3⟩
  · rw [if_neg hE]
    rw [if_neg hE] at hse
    obtain ⟨E, hEq⟩ : ∃ E, sealE a kind s.size = E := ⟨_, rfl⟩
    rw [hEq] at hse hE ⊢
    have hE' : (E != 0) = true := by simpa using hE
    clear hEq
    go_enter Tryz.func99, Tryz.ntmps99
    go_wp2_with fail
    refine hse.mono ?_
    rintro e w1 ⟨hb1, rfl⟩
    have h1 := h.below hb1
    have z1 := hb1.size
    have bZ : Blk (w1.alloc (.cells (bytesV zsec) 137)) w1.heap.size 137 (bytesV zsec) := Blk.new _ _ _
    have h2 : DevAt ((w1.alloc (.cells (bytesV zsec) 137)).setRow w1.heap.size (bytesV zsec)) D F x := (h1.alloc _).row (h1.far (Nat.le_refl _)) (by have := h1.half.1; omega) _
    have B2 : Below w.heap.size w ((w1.alloc (.cells (bytesV zsec) 137)).setRow w1.heap.size (bytesV zsec)) := Below.setRow (hb1.alloc z1 _) z1 _
    clear hse hb1 h1 hE
    go_wp2_with (refine wpList_storeSec rfl _ _ rfl w1.heap.size zsec rfl rfl bZ zsec_length zsec_length ?_)
    go_ret
    exact ⟨rfl, F, h2, Grow.of_below B2 F⟩

end Go.Proofs.YtfgfdjaiamaelaaGreatDoor
/- Layer 9: then. -/
namespace Go.Proofs.YtfgfdjaiamaelaaGreatDoor
open Go.RowKit Go.Maps

set_option maxRecDepth 100000 in
set_option maxHeartbeats 1000000 in
/-- then over n steps: I k holds ahead of step k, Z of what is returned. -/
theorem then_any (n : Nat) (hn : n ≤ 10) (fs : Nat → FuncId) (first cap : Nat → Array Value) (B : Nat) (cs : Array Value) (I : Nat → World → Prop) (Z : Int → World → Prop)
    (hen : ∀ k, k < n → ∀ args W, (callFunc (fs k) args).run Tryz.prog W = .ok (.enter (fs k) args) W)
    (hcs : ∀ k, k < n → cs[k]? = some (.func (.func (fs k)) (first k) (cap k)))
    (hB : ∀ k W, k < n → I k W → Blk W B 41 cs)
    (hstep : ∀ k, k < n → ∀ W, I k W → Calls Tryz.prog (fs k) (first k ++ cap k) W fun e W' => ∃ E, e = .returned (.int .i64 E) ∧ (E = 0 → I (k + 1) W') ∧ (E ≠ 0 → Z E W'))
    (hend : ∀ W, I n W → Z 0 W) (w : World) (h0 : I 0 w) :
    Calls Tryz.prog 86 #[.slice (some ⟨B, 0, none⟩) n n] w fun e w' => ∃ E, e = .returned (.int .i64 E) ∧ Z E w' := by
  go_enter Tryz.func86, Tryz.ntmps86
  go_wp2_with fail
  go_loopw [2, 4, 5, 8] (fun _ _ _ q wr => ∃ k : Nat, k ≤ n ∧ q = .int .i64 k ∧ I k wr) (fun _ _ _ q _ => n - (intOf q).toNat)
  case atStart => exact ⟨0, Nat.zero_le _, rfl, h0⟩
  case round =>
    obtain ⟨k, hk, rfl, hI⟩ := hrel
    by_cases hlt : k < n
    · have bB := hB k wr hlt hI
      have cB := bB.cells k
      rw [hcs k hlt] at cB
      have lB := bB.lt
      have hs := hstep k hlt wr hI
      have he := hen k hlt
      generalize fs k = f at *
      clear hB hen hcs hstep
      go_wp2_with fail
      refine hs.mono ?_
      rintro e W' ⟨E, rfl, h1, h2⟩
      by_cases hE : E = 0
      · subst hE
        replace h1 := h1 rfl
        clear h2 hs hI
        go_wp2_with fail
        go_roundw
        case rel => exact ⟨k + 1, by omega, by go_num, h1⟩
        case measure => simp [intOf]; omega
      · have hE' : (E != 0) = true := by simpa using hE
        replace h2 := h2 hE
        clear h1 hs hI
        go_wp2_with fail
        go_ret
        exact ⟨E, rfl, h2⟩
    · obtain rfl : k = n := by omega
      have hz := hend wr hI
      go_wp2_with fail
      go_ret
      exact ⟨0, rfl, hz⟩

theorem then2 (f1 f2 : FuncId) (a1 c1 a2 c2 : Array Value) (B : Nat) (w : World) (J : World → Prop) (Z : Int → World → Prop)
    (e1 : ∀ args W, (callFunc f1 args).run Tryz.prog W = .ok (.enter f1 args) W) (e2 : ∀ args W, (callFunc f2 args).run Tryz.prog W = .ok (.enter f2 args) W)
    (b0 : Blk w B 41 #[.func (.func f1) a1 c1, .func (.func f2) a2 c2]) (b1 : ∀ W, J W → Blk W B 41 #[.func (.func f1) a1 c1, .func (.func f2) a2 c2])
    (s1 : Calls Tryz.prog f1 (a1 ++ c1) w fun e W' => ∃ E, e = .returned (.int .i64 E) ∧ (E = 0 → J W') ∧ (E ≠ 0 → Z E W'))
    (s2 : ∀ W, J W → Calls Tryz.prog f2 (a2 ++ c2) W fun e W' => ∃ E, e = .returned (.int .i64 E) ∧ Z E W') :
    Calls Tryz.prog 86 #[.slice (some ⟨B, 0, none⟩) 2 2] w fun e w' => ∃ E, e = .returned (.int .i64 E) ∧ Z E w' := by
  refine then_any 2 (by omega) (fun k => if k = 0 then f1 else f2) (fun k => if k = 0 then a1 else a2) (fun k => if k = 0 then c1 else c2) B #[.func (.func f1) a1 c1, .func (.func f2) a2 c2] (fun k W => if k = 0 then W = w else if k = 1 then J W else Z 0 W) Z ?_ ?_ ?_ ?_ ?_ w rfl
  · intro k hk
    rcases (by omega : k = 0 ∨ k = 1) with rfl | rfl
    · exact e1
    · exact e2
  · intro k hk
    rcases (by omega : k = 0 ∨ k = 1) with rfl | rfl <;> rfl
  · intro k W hk hI
    rcases (by omega : k = 0 ∨ k = 1) with rfl | rfl
    · have hI : W = w := hI
      subst hI; exact b0
    · exact b1 W hI
  · intro k hk W hI
    rcases (by omega : k = 0 ∨ k = 1) with rfl | rfl
    · have hI : W = w := hI
      subst hI
      exact s1
    · refine (s2 W hI).mono ?_
      rintro e W' ⟨E, rfl, hz⟩
      exact ⟨E, rfl, fun h => by subst h; exact hz, fun _ => hz⟩
  · exact fun W h => h
theorem then3 (f1 f2 f3 : FuncId) (a1 c1 a2 c2 a3 c3 : Array Value) (B : Nat) (w : World) (J K : World → Prop) (Z : Int → World → Prop)
    (e1 : ∀ args W, (callFunc f1 args).run Tryz.prog W = .ok (.enter f1 args) W) (e2 : ∀ args W, (callFunc f2 args).run Tryz.prog W = .ok (.enter f2 args) W) (e3 : ∀ args W, (callFunc f3 args).run Tryz.prog W = .ok (.enter f3 args) W)
    (b0 : Blk w B 41 #[.func (.func f1) a1 c1, .func (.func f2) a2 c2, .func (.func f3) a3 c3]) (b1 : ∀ W, J W ∨ K W → Blk W B 41 #[.func (.func f1) a1 c1, .func (.func f2) a2 c2, .func (.func f3) a3 c3])
    (s1 : Calls Tryz.prog f1 (a1 ++ c1) w fun e W' => ∃ E, e = .returned (.int .i64 E) ∧ (E = 0 → J W') ∧ (E ≠ 0 → Z E W'))
    (s2 : ∀ W, J W → Calls Tryz.prog f2 (a2 ++ c2) W fun e W' => ∃ E, e = .returned (.int .i64 E) ∧ (E = 0 → K W') ∧ (E ≠ 0 → Z E W'))
    (s3 : ∀ W, K W → Calls Tryz.prog f3 (a3 ++ c3) W fun e W' => ∃ E, e = .returned (.int .i64 E) ∧ Z E W') :
    Calls Tryz.prog 86 #[.slice (some ⟨B, 0, none⟩) 3 3] w fun e w' => ∃ E, e = .returned (.int .i64 E) ∧ Z E w' := by
  refine then_any 3 (by omega) (fun k => if k = 0 then f1 else if k = 1 then f2 else f3) (fun k => if k = 0 then a1 else if k = 1 then a2 else a3) (fun k => if k = 0 then c1 else if k = 1 then c2 else c3) B #[.func (.func f1) a1 c1, .func (.func f2) a2 c2, .func (.func f3) a3 c3] (fun k W => if k = 0 then W = w else if k = 1 then J W else if k = 2 then K W else Z 0 W) Z ?_ ?_ ?_ ?_ ?_ w rfl
  · intro k hk
    rcases (by omega : k = 0 ∨ k = 1 ∨ k = 2) with rfl | rfl | rfl
    · exact e1
    · exact e2
    · exact e3
  · intro k hk
    rcases (by omega : k = 0 ∨ k = 1 ∨ k = 2) with rfl | rfl | rfl <;> rfl
  · intro k W hk hI
    rcases (by omega : k = 0 ∨ k = 1 ∨ k = 2) with rfl | rfl | rfl
    · have hI : W = w := hI
      subst hI; exact b0
    · exact b1 W (.inl hI)
    · exact b1 W (.inr hI)
  · intro k hk W hI
    rcases (by omega : k = 0 ∨ k = 1 ∨ k = 2) with rfl | rfl | rfl
    · have hI : W = w := hI
      subst hI
      exact s1
    · exact s2 W hI
    · refine (s3 W hI).mono ?_
      rintro e W' ⟨E, rfl, hz⟩
      exact ⟨E, rfl, fun h => by subst h; exact hz, fun _ => hz⟩
  · exact fun W h => h

end Go.Proofs.YtfgfdjaiamaelaaGreatDoor
/- Layer 9: Check, Format. -/
namespace Go.Proofs.YtfgfdjaiamaelaaGreatDoor
open Go.RowKit Go.Maps

theorem builtSec0 : Tryz.prog.built 137 [] = some (bytesV zsec) := by kernel_rfl
theorem blanks_stop {x : DevS} {a : Int} {k m : Nat} (h : (x.blanks a k).1 ≠ 0) (hm : k ≤ m) : x.blanks a m = x.blanks a k := by
  induction m with
  | zero => have e : k = 0 := by omega
            rw [e]
  | succ m ih =>
    by_cases e : k = m + 1
    · rw [e]
    · have ih := ih (by omega)
      show (if (x.blanks a m).1 ≠ 0 then x.blanks a m else _) = _
      rw [ih, if_pos h]

set_option maxRecDepth 100000 in
set_option maxHeartbeats 400000 in
theorem jcheck_any (F Z : Int) (w : World) :
    Calls Tryz.prog 97 #[.agg #[.int .i64 F, .int .i64 Z]] w fun e w' => e = .returned (.int .i64 (checkE F Z)) ∧ Below w.heap.size w w' := by
  by_cases a1 : Z < 8
  rotate_left
  by_cases a2 : 96 < Z
  rotate_left
  by_cases a3 : F < 0
  rotate_left
  by_cases a4 : 256 - Z < F
  rotate_left
  all_goals
    first
      | (have HE : Hid (checkE F Z = 0) := Lib.hid (by unfold checkE; rw [if_neg (by omega)]))
      | (have HE : Hid (checkE F Z = 7) := Lib.hid (by unfold checkE; rw [if_pos (by omega)]))
    go_enter Tryz.func97, Tryz.ntmps97
    (try (have hw : IntKind.i64.wrap (256 - Z) = 256 - Z := by rw [IntKind.wrap_i64]; omega))
    go_wp2_with fail
    go_ret
    exact ⟨by rw [HE.out]; rfl, by (repeat' (first | (with_reducible exact Below.refl _ _) | (with_reducible assumption) | (with_reducible refine Below.alloc ?_ ?_ _) | (with_reducible refine Below.drew ?_) | (with_reducible refine below_drewN' ?_ _) | (with_reducible refine Below.setCell ?_ ?_ _) | (with_reducible exact Nat.le_refl _) | omega | (simp; done) | (simp; omega)))⟩

/-- A step that leaves a device: what it returns, and the device behind it. -/
def DevDid (w : World) (D : Nat) (F : List Nat) (p : Int × DevS) (e : Ending) (w' : World) : Prop := e = .returned (.int .i64 p.1) ∧ ∃ F', DevAt w' D F' p.2 ∧ Grow w F w' F'

set_option maxRecDepth 100000 in
set_option maxHeartbeats 400000 in
theorem jfmt1 (J : Nat) (F Z : Int) (w : World) (bJ : Blk w J 93 #[.int .i64 F, .int .i64 Z]) :
    Calls Tryz.prog 96 #[.pointer (some ⟨J, 0, none⟩)] w fun e w' => e = .returned (.int .i64 (checkE F Z)) ∧ Below w.heap.size w w' := by
  have cJ := bJ.cells
  have lJ := bJ.lt
  go_enter Tryz.func96, Tryz.ntmps96
  go_wp2_with fail
  refine (jcheck_any F Z w).mono ?_
  rintro e w1 ⟨rfl, hb⟩
  go_wp2_with fail
  go_ret
  exact ⟨rfl, hb⟩

set_option maxRecDepth 100000 in
set_option maxHeartbeats 400000 in
theorem jfmt2 (D PD J : Nat) (F Z : Int) (B : List Nat) (x : DevS) (w : World) (h : DevAt w D B x) (bP : Blk w PD 22 #[.pointer (some ⟨D, 0, none⟩)]) (bJ : Blk w J 93 #[.int .i64 F, .int .i64 Z]) :
    Calls Tryz.prog 98 #[.pointer (some ⟨PD, 0, none⟩), .pointer (some ⟨J, 0, none⟩)] w (DevDid w D B (x.put F 1 0 ⟨#[]⟩)) := by
  have cJ := bJ.cells
  have lJ := bJ.lt
  have cP := bP.cells
  have lP := bP.lt
  have hp := put_dev D B x F 1 0 ⟨#[]⟩ (by decide) (by omega) w h
  unfold DevDid
  go_enter Tryz.func98, Tryz.ntmps98
  go_wp2_with fail
  refine hp.mono ?_
  rintro e w1 ⟨rfl, hd⟩
  go_wp2_with fail
  go_ret
  exact ⟨rfl, hd⟩

set_option maxRecDepth 100000 in
set_option maxHeartbeats 1000000 in
theorem jfmt3 (D PD J : Nat) (F Z : Int) (hc : checkE F Z = 0) (B : List Nat) (x : DevS) (w : World) (h : DevAt w D B x) (bP : Blk w PD 22 #[.pointer (some ⟨D, 0, none⟩)]) (nP : PD ∉ B) (bJ : Blk w J 93 #[.int .i64 F, .int .i64 Z]) (nJ : J ∉ B) :
    Calls Tryz.prog 100 #[.pointer (some ⟨J, 0, none⟩), .pointer (some ⟨PD, 0, none⟩)] w (DevDid w D B (x.blanks (F + 1) (Z - 1).toNat)) := by
  have hFZ : 8 ≤ Z ∧ Z ≤ 96 ∧ 0 ≤ F ∧ F ≤ 256 - Z := by unfold checkE at hc; split at hc <;> omega
  clear hc
  obtain ⟨z, rfl⟩ := Int.eq_ofNat_of_zero_le (show 0 ≤ Z by omega)
  unfold DevDid
  have hbz : ∀ w : World, (Instr.build 137 #[]).run Tryz.prog w = .ok (.agg (bytesV zsec)) w := fun w => run_build w _ _ _ builtSec0
  rw [show (((z : Int) - 1).toNat) = z - 1 by omega]
  have lP := bP.lt
  have lJ := bJ.lt
  go_enter Tryz.func100, Tryz.ntmps100
  go_wp2_with fail
  go_loopw [3, 4] (fun q _ wr => ∃ k : Nat, k + 1 ≤ z ∧ q = .int .i64 ((k : Int) + 1) ∧ (x.blanks (F + 1) k).1 = 0 ∧ ∃ B', DevAt wr D B' (x.blanks (F + 1) k).2 ∧ Grow w B wr B') (fun q _ _ => z - (intOf q).toNat)
  case atStart => exact ⟨0, by omega, rfl, rfl, B, h, Grow.refl _ _⟩
  case round =>
    obtain ⟨k, hk, rfl, h0, B', hd, hg⟩ := hrel
    have bP' := hg.blk bP nP
    have bJ' := hg.blk bJ nJ
    have cP := bP'.cells
    have lP' := bP'.lt
    have cJ := bJ'.cells
    have lJ' := bJ'.lt
    by_cases hlt : k + 1 < z
    · have hst : x.blanks (F + 1) (k + 1) = (x.blanks (F + 1) k).2.write (F + ((k : Int) + 1)) zsec := by
        show (if (x.blanks (F + 1) k).1 ≠ 0 then _ else _) = _
        rw [if_neg (by rw [h0]; simp), show F + 1 + (k : Int) = F + ((k : Int) + 1) by omega]
      have hwr := write_dev D B' (x.blanks (F + 1) k).2 (F + ((k : Int) + 1)) zsec ⟨zsec_length, zsec_bytes⟩ wr hd
      rw [← hst] at hwr
      have hfin : (x.blanks (F + 1) (k + 1)).1 ≠ 0 → x.blanks (F + 1) (z - 1) = x.blanks (F + 1) (k + 1) := fun hne => blanks_stop hne (by omega)
      generalize hp : x.blanks (F + 1) (k + 1) = p at *
      have HP := Lib.hid hp
      clear hp
      clear hst h0 hd
      have hlt' : (k : Int) + 1 < z := by omega
      have HF := Lib.hid hfin
      clear hfin
      go_wp2_with fail
      refine hwr.mono ?_
      rintro e w1 ⟨rfl, B1, hd1, hg1⟩
      by_cases hE : p.1 = 0
      · have hE' : (p.1 != 0) = false := by simpa using hE
        have HE := Lib.hid hE
        clear hE
        go_wp2_with fail
        go_roundw
        case rel => exact ⟨k + 1, by omega, by go_num, by rw [HP.out]; exact HE.out, B1, by rw [HP.out]; exact hd1, hg.trans hg1⟩
        case measure => simp [intOf]; omega
      · have hE' : (p.1 != 0) = true := by simpa using hE
        go_wp2_with fail
        go_ret
        rw [HF.out hE]
        exact ⟨rfl, B1, hd1, hg.trans hg1⟩
    · obtain rfl : z = k + 1 := by omega
      go_wp2_with fail
      go_ret
      exact ⟨by rw [Nat.add_sub_cancel, h0]; rfl, B', hd, hg⟩

end Go.Proofs.YtfgfdjaiamaelaaGreatDoor
