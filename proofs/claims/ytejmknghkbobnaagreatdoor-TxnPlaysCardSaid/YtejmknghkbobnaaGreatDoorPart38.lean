import Derived.Test.YtejmknghkbobnaaGreatDoorPart00
import Derived.Test.YtejmknghkbobnaaGreatDoorPart30
import Derived.Test.YtejmknghkbobnaaGreatDoorPart37
import Derived.Test.YtejmknghkbobnaaGreatDoorPart23
set_option linter.unusedVariables false
set_option linter.unusedSimpArgs false
set_option maxRecDepth 100000
set_option maxHeartbeats 8000000
namespace Go.Proofs.YtejmknghkbobnaaGreatDoor
open Go.Proofs.Tryz
open Go.RowKit Go.Maps
structure TxP where
 A:Option Addr
 c:Nat
 C:Option Addr
 d:Nat
 W:Option Addr
 wc:Nat
 N:Option Addr
 nc:Nat
 L:Option Addr
 lc:Nat
def rtC (p:TxP)(x:DevS)(y:TxS):Array Value:=
 txR p.A x.stable.length p.c p.C x.cache.length p.d x.taken x.power x.off y.s y.j y.i 1 (1+y.j) (2+y.j) (2+y.j+y.i) (y.s - (2+y.j+y.i)) p.W y.was.length p.wc p.N y.now.length p.nc p.L y.writes.length p.lc y.changed y.broken y.ended
structure RTp (w:World)(P:Nat→Prop)(x:DevS)(y:TxS)(p:TxP):Prop where
 dev:RSt w P p.A p.C x
 was:Reads w p.W (y.was.map .bool)
 now:Reads w p.N (y.now.map .bool)
 run:RunAt w p.L y.writes
 lw:y.was=[]∨Lies P p.W
 ln:y.now=[]∨Lies P p.N
 ll:y.writes=[]∨Lies P p.L
 nc:y.now.length≤p.nc
 lc:y.writes.length≤p.lc
def RTx (w:World)(P:Nat→Prop)(x:DevS)(y:TxS)(tv:Array Value):Prop:=∃p,tv=rtC p x y∧RTp w P x y p
theorem z5Y {w:World}{P Q:Nat→Prop}{A:Option Addr}{α:Type}{l:List α}{xs:List Value}(h:l=[]∨Lies P A)(hR:Reads w A xs)(hx:l≠[]→xs≠[])(k:∀b,P b→b<w.heap.size→Q b):l=[]∨Lies Q A:=by
 rcases h with h|h
 ·exact .inl h
 ·by_cases hl:l=[]
  ·exact .inl hl
  ·exact .inr fun a e=>⟨k _ (h a e).1 (hR.block_lt (hx hl) a e),(h a e).2⟩
theorem z4L {w w':World}{P:Nat→Prop}{A:Option Addr}{α:Type}{l:List α}{xs:List Value}(h:l=[]∨Lies P A)(hR:Reads w A xs)(hx:l=[]→xs=[])(hb:∀b,P b→b<w.heap.size→w'.heap[b]?=w.heap[b]?)(hs:w.heap.size≤w'.heap.size):Reads w' A xs:=by
 rcases h with h|h
 ·exact .inl (hx h)
 ·exact hR.frame (fun a e hl=>hb _ (h a e).1 hl) hs
theorem zfz {l:List Bool}(h:l≠[]):l.map Value.bool≠[]:=fun e=>h (List.map_eq_nil_iff.1 e)
theorem zfC {l:List Rec}(h:l≠[]):l.flatMap recV≠[]:=fun e=>by
 have:=z2F l
 rw[e]at this;simp only[zhP]at this;exact h (List.eq_nil_of_length_eq_zero (by omega))
section
variable {w w':World}{P Q:Nat→Prop}{x:DevS}{y:TxS}{p:TxP}{tv:Array Value}
theorem RTp.below (h:RTp w P x y p)(hb:Below w.heap.size w w'):RTp w' P x y p:=⟨h.dev.below hb,h.was.below hb,h.now.below hb,Reads.below h.run hb,h.lw,h.ln,h.ll,h.nc,h.lc⟩
theorem RTp.mono (h:RTp w P x y p)(k:∀b,P b→b<w.heap.size→Q b):RTp w Q x y p:=
 ⟨h.dev.mono k,h.was,h.now,h.run,z5Y h.lw h.was zfz k,z5Y h.ln h.now zfz k,z5Y h.ll h.run zfC k,h.nc,h.lc⟩
theorem RTp.frame (h:RTp w P x y p)(hb:∀b,P b→b<w.heap.size→w'.heap[b]?=w.heap[b]?)(hs:w.heap.size≤w'.heap.size):RTp w' P x y p:=
 ⟨h.dev.frame hb hs,z4L h.lw h.was (fun e=>by rw[e];rfl) hb hs,z4L h.ln h.now (fun e=>by rw[e];rfl) hb hs,z4L h.ll h.run (fun e=>by rw[e];rfl) hb hs,h.lw,h.ln,h.ll,h.nc,h.lc⟩
theorem RTx.size (h:RTx w P x y tv):tv.size=25:=by obtain⟨p,rfl,h⟩:=h;rfl
theorem RTx.one (h:RTx w P x y tv):tv.all (·.oneCell')=true:=by obtain⟨p,rfl,h⟩:=h;simp[rtC,txR,Value.oneCell']
theorem RTx.below (h:RTx w P x y tv)(hb:Below w.heap.size w w'):RTx w' P x y tv:=by obtain⟨p,e,h⟩:=h;exact⟨p,e,h.below hb⟩
theorem RTx.mono (h:RTx w P x y tv)(k:∀b,P b→b<w.heap.size→Q b):RTx w Q x y tv:=by obtain⟨p,e,h⟩:=h;exact⟨p,e,h.mono k⟩
theorem RTx.frame (h:RTx w P x y tv)(hb:∀b,P b→b<w.heap.size→w'.heap[b]?=w.heap[b]?)(hs:w.heap.size≤w'.heap.size):RTx w' P x y tv:=by obtain⟨p,e,h⟩:=h;exact⟨p,e,h.frame hb hs⟩
theorem RTx.row (h:RTx w P x y tv){g:Nat}(hg:∀b,P b→b≠g)(cs:Array Value):RTx (w.setRow g cs) P x y tv:=h.frame (fun b hb _=>z0b w g b cs (hg b hb)) (by simp)
theorem RTx.cell (h:RTx w P x y tv){q:Addr}(hg:∀b,P b→b≠q.block)(u:Value):RTx (w.setCell q u) P x y tv:=h.frame (fun b hb _=>Below.heap_setCell w q u b (hg b hb)) (by simp)
theorem RTx.apt {w0:World}(h:RTx w P x y tv)(hb:Below w.heap.size w w0)(E:Nat):RTx w0 (Apt_ P w.heap.size E) x y tv:=(h.mono fun _ h1 h2=>⟨h1,.inl h2⟩).below hb
theorem RTx.unapt {B E:Nat}(h:RTx w (Apt_ P B E) x y tv):RTx w P x y tv:=h.mono fun _ h1 _=>h1.1
theorem RTx.brk (h:RTx w P x y tv):RTx w P x y.brk (tv.setIfInBounds 23 (.bool true)):=by obtain⟨p,rfl,h⟩:=h;exact⟨p,rfl,h.dev,h.was,h.now,h.run,h.lw,h.ln,h.ll,h.nc,h.lc⟩
theorem RTx.end_ (h:RTx w P x y tv):RTx w P x y.end_ (tv.setIfInBounds 24 (.bool true)):=by obtain⟨p,rfl,h⟩:=h;exact⟨p,rfl,h.dev,h.was,h.now,h.run,h.lw,h.ln,h.ll,h.nc,h.lc⟩
theorem RTx.flags (h:RTx w P x y tv):tv[22]?=some (.bool y.changed)∧tv[23]?=some (.bool y.broken)∧tv[24]?=some (.bool y.ended):=by obtain⟨p,rfl,h⟩:=h;exact⟨rfl,rfl,rfl⟩
theorem RTx.nums (h:RTx w P x y tv):tv[5]?=some (.int .i64 y.s)∧tv[6]?=some (.int .i64 y.j)∧tv[7]?=some (.int .i64 y.i)∧tv[8]?=some (.int .i64 1)∧tv[9]?=some (.int .i64 (1+y.j)):=by obtain⟨p,rfl,h⟩:=h;exact⟨rfl,rfl,rfl,rfl,rfl⟩
end
theorem z0n {W:World}{D:Nat}{t:TypeId}{tv:Array Value}(b:Blk W D t tv)(h:tv.size=25):(Instr.loadAt 50 (.pointer (some ⟨D,0,none⟩))).run prog W=.ok (.agg tv) W:=by
 simp only[Instr.loadAt,Instr.sureAddr,Sem.run_bind,Sem.run_pure,Result.andThen];exact run_loadVar_row W D t 50 tv (0,0) _ b underlying50 rfl (by rw[h];kernel_rfl)
theorem z0v {W:World}{R:Nat}{t:TypeId}{cs tv:Array Value}(b:Blk W R t cs)(h0:cs.size=25)(h:tv.size=25)(h1:tv.all (·.oneCell')=true):(Instr.storeAt 50 (.pointer (some ⟨R,0,none⟩)) (.agg tv)).run prog W=.ok () (W.setRow R tv):=
 z0q (ty:=50) (vs:=tv) b (by rw[h0,h]) h1 (by rw[h];kernel_rfl)
def RTgot (w:World)(P:Nat→Prop)(x:DevS)(r:Int × TxS)(e:Ending)(w':World):Prop:=
 ∃tv,e=.returned (.tuple #[.agg tv,.int .i64 r.1])∧RTx w' P x r.2 tv∧Below w.heap.size w w'
theorem RTgot.mk {w W:World}{P:Nat→Prop}{x:DevS}{E0 R:Nat}{z:TxS}{tv:Array Value}(e:Int)(hq:RTx W (Apt_ P w.heap.size E0) x z tv)(hB:Below w.heap.size w W)(h1:w.heap.size≤R)(h2:R<E0):RTgot w P x (e,z) (.returned (.tuple #[.agg tv,.int .i64 e])) (W.setRow R tv):=
 ⟨tv,rfl,(hq.row (Apt_.ne h1 h2) tv).unapt,Below.setRow hB h1 tv⟩
theorem z2R {w:World}{P:Nat→Prop}{x:DevS}{y:TxS}{tv:Array Value}(hq:RTx w P x y tv):
  Calls prog 62 #[.agg tv] w fun e w'=>e=.returned (.int .i64 y.stateE)∧Below w.heap.size w w':=by
 obtain⟨-,h1,h2⟩:=hq.flags;have bT:Blk (w.alloc (.cells tv 50)) w.heap.size 50 tv:=Blk.new _ _ _;have c1:=(bT.cells 23).trans h1;have c2:=(bT.cells 24).trans h2;have lT:=bT.lt;have HE:Hid (y.stateE=if y.broken||y.ended then 9 else 0):=zhs rfl
 clear hq h1 h2 bT;generalize y.broken=b at *;generalize y.ended=e at *;cases b<;>cases e
 all_goals
  go_enter func62,ntmps62
  go_wp2_with fail
  go_ret
  exact⟨by rw[HE.out];rfl,by (repeat' (first|with_reducible (first|exact zho _ _|assumption|refine zhp ?_ ?_ _|refine zhq ?_|refine z00 ?_ _|refine zhr ?_ ?_ _|exact zhT _)|omega|(simp;done)|(simp;omega)))⟩
theorem z2y {w:World}{P:Nat→Prop}{x:DevS}{y:TxS}{tv:Array Value}(hq:RTx w P x y tv)(E:Int):
  Calls prog 145 #[.agg tv,.int .i64 E] w (RTgot w P x (E,y.brk)):=by
 obtain⟨w0,hw0⟩:∃w0,w0=(w.alloc (.cells tv 50)).alloc (.cells txZ 50):=⟨_,rfl⟩;have bT:Blk w0 w.heap.size 50 tv:=by rw[hw0];exact(Blk.new _ _ _).alloc _
 have bR:Blk w0 (w.heap.size+1) 50 txZ:=by rw[hw0];exact Blk.new' (by simp)
 have B0:Below w.heap.size w w0:=by rw[hw0];(repeat' (first|with_reducible (first|exact zho _ _|assumption|refine zhp ?_ ?_ _|refine zhq ?_|refine z00 ?_ _|refine zhr ?_ ?_ _|exact zhT _)|omega|(simp;done)|(simp;omega)))
 have hQ0:=hq.apt B0 w0.heap.size;have hsz:=hq.size;have zR:=zhs bR.lt;have hb:=(bT.cells 23).trans hq.flags.2.1;have lT:=bT.lt;have fT:=bT.free;have bT1:=bT.set_ 23 (.bool true);have bR1:Blk (w0.setCell ⟨w.heap.size,23,none⟩ (.bool true)) (w.heap.size+1) 50 txZ:=(Below.heap_setCell w0 _ _ _ (by show w.heap.size+1≠w.heap.size;omega)).trans bR
 have B1:Below w.heap.size w (w0.setCell ⟨w.heap.size,23,none⟩ (.bool true)):=zhr B0 (zhT _) _;have hQ1:=(hQ0.cell (q:=⟨w.heap.size,23,none⟩) (Apt_.ne (zhT _) (by have:=zR.out;omega)) (.bool true)).brk
 have hsz1:=hQ1.size;have hone1:=hQ1.one;clear hq hQ0;unfold txZ txR at hw0;go_enter func145,ntmps145
 go_upto_region 1 with fail
 rw[←hw0];clear hw0;go_upto_region 2 with fail
 generalize w0.setCell ⟨w.heap.size,23,none⟩ (.bool true)=W1 at *;generalize tv.setIfInBounds 23 (.bool true)=tv1 at *;have l1:=z0n bT1 hsz1;have hst:=z0v bR1 rfl hsz1 hone1;have bR2:=bR1.setRow (cs':=tv1);have hfin:=RTgot.mk (R:=w.heap.size+1) E hQ1 B1 (by omega) zR.out
 clear hb lT fT bT bR bR1 B0 B1;go_wp2_with (first|(refine z02 (by rfl) _ _ rfl (.agg tv1) (.pointer (some ⟨w.heap.size,0,none⟩)) rfl l1 ?_)|(refine z01 rfl _ _ _ rfl _ _ rfl rfl hst ?_))
 exact bodyPost_ret (z08 (cs:=tv1) rfl rfl rfl bR2 underlying50 (by rw[hsz1];kernel_rfl)) rfl hfin
theorem zeA {w:World}{P:Nat→Prop}{x:DevS}{y:TxS}{tv:Array Value}(hq:RTx w P x y tv):
  Calls prog 14 #[.agg tv] w (RTgot w P x (if y.ended then (9,y)else (0,y.end_))):=by
 obtain⟨w0,hw0⟩:∃w0,w0=(w.alloc (.cells tv 50)).alloc (.cells txZ 50):=⟨_,rfl⟩;have bT:Blk w0 w.heap.size 50 tv:=by rw[hw0];exact(Blk.new _ _ _).alloc _
 have bR:Blk w0 (w.heap.size+1) 50 txZ:=by rw[hw0];exact Blk.new' (by simp)
 have B0:Below w.heap.size w w0:=by rw[hw0];(repeat' (first|with_reducible (first|exact zho _ _|assumption|refine zhp ?_ ?_ _|refine zhq ?_|refine z00 ?_ _|refine zhr ?_ ?_ _|exact zhT _)|omega|(simp;done)|(simp;omega)))
 have hQ0:=hq.apt B0 w0.heap.size;have hsz:=hq.size;have hone:=hq.one;have zR:=zhs bR.lt;have hb:=(bT.cells 24).trans hq.flags.2.2;have lT:=bT.lt;have fT:=bT.free;unfold txZ txR at hw0;obtain⟨b,hen⟩:∃b,y.ended=b:=⟨_,rfl⟩;rw[hen]at hb ⊢;clear hq hen;cases b
 ·rw[if_neg (by simp)]
  have bT1:=bT.set_ 24 (.bool true);have bR1:Blk (w0.setCell ⟨w.heap.size,24,none⟩ (.bool true)) (w.heap.size+1) 50 txZ:=(Below.heap_setCell w0 _ _ _ (by show w.heap.size+1≠w.heap.size;omega)).trans bR
  have B1:Below w.heap.size w (w0.setCell ⟨w.heap.size,24,none⟩ (.bool true)):=zhr B0 (zhT _) _;have hQ1:=(hQ0.cell (q:=⟨w.heap.size,24,none⟩) (Apt_.ne (zhT _) (by have:=zR.out;omega)) (.bool true)).end_
  have hsz1:=hQ1.size;have hone1:=hQ1.one;clear hQ0;go_enter func14,ntmps14
  go_upto_region 1 with fail
  rw[←hw0];clear hw0;go_upto_region 4 with fail
  generalize w0.setCell ⟨w.heap.size,24,none⟩ (.bool true)=W1 at *;generalize tv.setIfInBounds 24 (.bool true)=tv1 at *;have l1:=z0n bT1 hsz1;have hst:=z0v bR1 rfl hsz1 hone1;have bR2:=bR1.setRow (cs':=tv1);have hfin:=RTgot.mk (R:=w.heap.size+1) 0 hQ1 B1 (by omega) zR.out
  clear hb lT fT bT bR bR1 B0 B1;go_wp2_with (first|(refine z02 (by rfl) _ _ rfl (.agg tv1) (.pointer (some ⟨w.heap.size,0,none⟩)) rfl l1 ?_)|(refine z01 rfl _ _ _ rfl _ _ rfl rfl hst ?_))
  exact bodyPost_ret (z08 (cs:=tv1) rfl rfl rfl bR2 underlying50 (by rw[hsz1];kernel_rfl)) rfl hfin
 ·rw[if_pos rfl];have l1:=z0n bT hsz;have hst:=z0v bR rfl hsz hone;have bR2:=bR.setRow (cs':=tv);have hfin:=RTgot.mk (R:=w.heap.size+1) 9 hQ0 B0 (by omega) zR.out
  go_enter func14,ntmps14
  go_upto_region 1 with fail
  rw[←hw0];clear hw0;go_wp2_with (first|(refine z02 (by rfl) _ _ rfl (.agg tv) (.pointer (some ⟨w.heap.size,0,none⟩)) rfl l1 ?_)|(refine z01 rfl _ _ _ rfl _ _ rfl rfl hst ?_))
  exact bodyPost_ret (z08 (cs:=tv) rfl rfl rfl bR2 underlying50 (by rw[hsz];kernel_rfl)) rfl hfin
theorem z6W {l:List Rec}{b:Rec}(h:∀r∈l,r.at_<b.at_):z0s l b=l++[b]:=by
 induction l with
 | nil=>rfl
 | cons x t ih=>
  have hx:=h x (zhK ..);unfold z0s;rw[if_neg (by omega),if_neg (by omega),ih fun r hr=>h r (zhJ _ hr)]
  rfl
theorem z7p {l:List Rec}{b r:Rec}(h:∀r∈l,r.at_<b.at_)(hr:b.at_<r.at_):z0s (l++[r]) b=l++[b]++[r]:=by
 induction l with
 | nil=>
  show z0s [r] b=_
  unfold z0s;rw[if_pos hr];rfl
 | cons x t ih=>
  have hx:=h x (zhK ..);show z0s (x::(t++[r])) b=_
  unfold z0s;rw[if_neg (by omega),if_neg (by omega),ih fun r hr=>h r (zhJ _ hr)]
  rfl
theorem z6n {l:List Rec}{b r:Rec}(h:∃x∈l,b.at_≤x.at_):z0s (l++[r]) b=z0s l b++[r]:=by
 induction l with
 | nil=>obtain⟨x,hx,-⟩:=h;cases hx
 | cons x t ih=>
  show z0s (x::(t++[r])) b=_
  unfold z0s;by_cases h1:b.at_<x.at_
  ·rw[if_pos h1,if_pos h1];rfl
  ·rw[if_neg h1,if_neg h1];by_cases h2:b.at_=x.at_
   ·rw[if_pos h2,if_pos h2];rfl
   ·rw[if_neg h2,if_neg h2,ih (by
     obtain⟨z,hz,hz2⟩:=h;rcases List.mem_cons.1 hz with rfl|hz
     ·omega
     ·exact⟨z,hz,hz2⟩)]
    rfl
def RcS (y:TxS)(i:Nat)(d:Bool)(out:List Rec):Prop:=
 (i=y.writes.length+1∧out=y.recs)∨(i≤y.writes.length∧((y.changed=false∧d=true∧out=y.writes.take i)∨(y.changed=true∧d=false∧out=y.writes.take i∧∀r∈y.writes.take i,r.at_<1+y.j)∨(y.changed=true∧d=true∧out=z0s (y.writes.take i) y.bmap∧∃r∈y.writes.take i,1+y.j<r.at_)))
def RcM (y:TxS)(i:Nat)(d:Bool)(out:List Rec):Prop:=(i=y.writes.length→out=y.recs)∧(∀hi:i<y.writes.length,RcS y (i+1) d (out++[y.writes[i]]))
section
variable {y:TxS}{i:Nat}{d:Bool}{out:List Rec}
theorem zf6 (y:TxS):RcS y 0 (!y.changed) []:=by
 refine .inr ⟨zi9 _,?_⟩;cases h:y.changed
 ·exact .inl ⟨rfl,rfl,rfl⟩
 ·exact .inr (.inl ⟨rfl,rfl,rfl,fun r hr=>by simp at hr⟩)
theorem zfP (hc:y.Clean)(h:RcS y i false out)(hi:i≤y.writes.length)(hcd:∀hlt:i<y.writes.length,1+y.j<y.writes[i].at_):RcM y i true (out++[y.bmap]):=by
 rcases h with ⟨h,-⟩|⟨-,⟨-,h,-⟩|⟨h1,-,h3,h4⟩|⟨-,h,-⟩⟩
 ·omega
 ·cases h
 ·subst h3;refine⟨fun he=>?_,fun hlt=>?_⟩
  ·rw[he,zia]at h4 ⊢;unfold TxS.recs;rw[if_pos h1,z6W h4]
  ·refine .inr ⟨hlt,.inr (.inr ⟨h1,rfl,?_,y.writes[i],?_,hcd hlt⟩)⟩
   ·rw[zhE hlt,z7p h4 (hcd hlt)]
   ·rw[zhE hlt];exact zhI _ (zi4.2 rfl)
 ·cases h
theorem zfv (hc:y.Clean)(h:RcS y i d out)(hi:i≤y.writes.length)(hcd:d=true∨∃hlt:i<y.writes.length,¬1+y.j<y.writes[i].at_):RcM y i d out:=by
 rcases h with ⟨h,-⟩|⟨-,⟨h1,h2,h3⟩|⟨h1,h2,h3,h4⟩|⟨h1,h2,h3,r,hr,h4⟩⟩
 ·omega
 ·subst h3;refine⟨fun he=>?_,fun hlt=>.inr ⟨hlt,.inl ⟨h1,h2,?_⟩⟩⟩
  ·unfold TxS.recs;rw[he,zia,h1];rfl
  ·rw[zhE hlt]
 ·subst h3;rcases hcd with hcd|⟨hlt,hcd⟩
  ·rw[h2]at hcd;cases hcd
  ·refine⟨fun he=>by omega,fun _=>.inr ⟨hlt,.inr (.inl ⟨h1,h2,?_,?_⟩)⟩⟩
   ·rw[zhE hlt]
   ·intro r hr;rw[zhE hlt]at hr;rcases zi0.1 hr with hr|hr
    ·exact h4 r hr
    ·have e:r=y.writes[i]:=by simpa using hr
     rw[e];rcases hc.out _ (zhQ hlt)with h|h
     ·have:=hc.j0;omega
     ·exact absurd h hcd
 ·subst h3;refine⟨fun he=>?_,fun hlt=>.inr ⟨hlt,.inr (.inr ⟨h1,h2,?_,r,?_,h4⟩)⟩⟩
  ·unfold TxS.recs;rw[if_pos h1,he,zia]
  ·rw[zhE hlt,z6n ⟨r,hr,by show 1+y.j≤r.at_;omega⟩]
  ·rw[zhE hlt];exact zhH _ hr
theorem zg4 (h:RcS y (y.writes.length+1) d out):out=y.recs:=by
 rcases h with ⟨-,h⟩|⟨h,-⟩
 ·exact h
 ·omega
theorem z5G (hc:y.Clean)(h:RcS y i d out):out.length≤y.writes.length+1:=by
 rcases h with ⟨-,rfl⟩|⟨-,⟨-,-,rfl⟩|⟨-,-,rfl,-⟩|⟨-,-,rfl,-⟩⟩
 ·rw[z28 hc];split<;>omega
 ·rw[zi6];omega
 ·rw[zi6];omega
 ·have:Asc (y.writes.take i):=List.Pairwise.sublist (List.take_sublist _ _) hc.asc
  rw[z2r this];split<;>(rw[zi6];omega)
end
theorem z4f (w:World)(r:Rec):Reads (w.alloc (.cells #[.int .i64 r.at_,.int .i64 r.kind,.string r.data] 118)) (some ⟨w.heap.size,0,none⟩) (recV r):=by
 have b:=Blk.new w 118 #[.int .i64 r.at_,.int .i64 r.kind,.string r.data];exact .inr ⟨_,0,rfl,b.lt,fun j u hu=>by rw[zi8];exact(b.cells j).trans (by simpa[recV]using hu)⟩
theorem z3a {w:World}{base:Nat}{l:List Rec}{A:Option Addr}{c:Nat}(h:w.ownsRow base 118 3 (.slice A l.length c) l.length (l.flatMap recV))(hb:base≤w.heap.size)(hl:l.length≤900)(r:Rec):
  ∃A' c' w',(Builtin.append_ #[48,48] 48 #[.slice A l.length c,.slice (some ⟨w.heap.size,0,none⟩) 1 1]).run prog (w.alloc (.cells #[.int .i64 r.at_,.int .i64 r.kind,.string r.data] 118))=.ok (.slice A' (l.length+1) c') w' ∧
   w'.ownsRow base 118 3 (.slice A' (l++[r]).length c') (l++[r]).length ((l++[r]).flatMap recV)∧Below base w w':=by
 have b1:Below w.heap.size w (w.alloc (.cells #[.int .i64 r.at_,.int .i64 r.kind,.string r.data] 118)):=(zho _ _).alloc (zhT _) _;obtain⟨v,w',h1,h2,h3,-⟩:=zdY (z0a h b1) (zhS hb b1.size) (some ⟨w.heap.size,0,none⟩) 1 1 (recV r) rfl (by omega) (z4f w r) (zaL r)
 obtain⟨A',c',rfl⟩:=z0G h2;have e1:(l++[r]).length=l.length+1:=by rw[zhF];rfl
 have e2:(l++[r]).flatMap recV=l.flatMap recV++recV r:=by rw[List.flatMap_append];simp
 exact⟨A',c',w',h1,by rw[e1,e2];exact h2,(b1.mono hb).trans h3⟩
def rcB (y:TxS)(k:Nat)(d:Bool):Bool:=!d&&(decide (k=y.writes.length)||decide (1+y.j<(y.writes.getD k default).at_))
theorem zf7 {y:TxS}{k:Nat}{d:Bool}(hk:k≤y.writes.length):(rcB y k d=true→d=false∧∀h:k<y.writes.length,1+y.j<y.writes[k].at_)∧(rcB y k d=false→d=true∨∃h:k<y.writes.length,¬1+y.j<y.writes[k].at_):=by
 unfold rcB;cases d
 ·by_cases h:k<y.writes.length
  ·rw[zhw,zhx h,decide_eq_false (by omega:¬k=y.writes.length)]
   refine⟨fun e=>⟨rfl,fun _=>by simpa using e⟩,fun e=>.inr ⟨h,by simpa using e⟩⟩
  ·rw[decide_eq_true (by omega:k=y.writes.length)]
   exact⟨fun _=>⟨rfl,fun h2=>absurd h2 h⟩,fun e=>by simp at e⟩
 ·exact⟨fun e=>by simp at e,fun _=>.inl rfl⟩
theorem Tryz.builtRec5 (a:Int)(s:ByteArray):prog.built 118 [(0,.int .i64 a),(1,.int .i64 5),(2,.string s)]=some #[.int .i64 a,.int .i64 5,.string s]:=by kernel_rfl
theorem z3M {w:World}{P:Nat→Prop}{x:DevS}{y:TxS}{tv:Array Value}(hq:RTx w P x y tv)(ok:y.Ok)(hc:y.Clean):
  Calls prog 63 #[.agg tv] w fun e w'=>∃A c,e=.returned (.slice A y.recs.length c)∧w'.ownsRow w.heap.size 118 3 (.slice A y.recs.length c) y.recs.length (y.recs.flatMap recV)∧Below w.heap.size w w':=by
 obtain⟨w0,hw0⟩:∃w0,w0=w.alloc (.cells tv 50):=⟨_,rfl⟩;have bT:Blk w0 w.heap.size 50 tv:=by rw[hw0];exact Blk.new _ _ _
 have B0:Below w.heap.size w w0:=by rw[hw0];(repeat' (first|with_reducible (first|exact zho _ _|assumption|refine zhp ?_ ?_ _|refine zhq ?_|refine z00 ?_ _|refine zhr ?_ ?_ _|exact zhT _)|omega|(simp;done)|(simp;omega)))
 have hB0z:w.heap.size<w0.heap.size:=bT.lt;obtain⟨hch,-,-⟩:=hq.flags;have hbm:=hq.nums.2.2.2.2;have hlen:y.writes.length≤80:=by have:=ok.len;unfold TxS.left TxS.most at this;split at this<;>omega
 have hnl:y.now.length≤1000:=by rw[ok.now];have:=(z3R ok.rg).2.2.2.2;have:=z10 ok.rg;omega
 have hbd:=z10 ok.rg;obtain⟨p,htv,hp⟩:=hq;have hck:=z7t ok;have hRL:∀W,Below w.heap.size w W→RunAt W p.L y.writes:=fun W hW=>Reads.below hp.run hW
 have hRN:∀W,Below w.heap.size w W→Reads W p.N (y.now.map .bool):=fun W hW=>hp.now.below hW
 have HRL:=zhs hRL;have HEN:=zhs (fun (W:World) (hW:Below w.heap.size w W)=>z6a y.s y.j y.i p.N p.nc y.now hnl W (hRN W hW))
 have HCK:=zhs hck;have hc21:tv[21]?=some (.slice p.L y.writes.length p.lc):=by rw[htv];rfl
 have hc17:tv[17]?=some (.int .i64 y.s)∧tv[18]?=some (.int .i64 y.j)∧tv[19]?=some (.int .i64 y.i)∧tv[20]?=some (.slice p.N y.now.length p.nc):=by rw[htv];exact⟨rfl,rfl,rfl,rfl⟩
 have hcell:∀W,Below w0.heap.size w0 W→W.cell? ⟨w.heap.size,9,none⟩=some (.int .i64 (1+y.j))∧W.cell? ⟨w.heap.size,21,none⟩=some (.slice p.L y.writes.length p.lc)∧W.cell? ⟨w.heap.size,22,none⟩=some (.bool y.changed)∧W.cell? ⟨w.heap.size,17,none⟩=some (.int .i64 y.s)∧W.cell? ⟨w.heap.size,18,none⟩=some (.int .i64 y.j)∧W.cell? ⟨w.heap.size,19,none⟩=some (.int .i64 y.i)∧W.cell? ⟨w.heap.size,20,none⟩=some (.slice p.N y.now.length p.nc)∧w.heap.size<W.heap.size:=fun W hW=>by
  have b:=bT.belowAll hW;exact⟨(b.cells 9).trans hbm,(b.cells 21).trans hc21,(b.cells 22).trans hch,(b.cells 17).trans hc17.1,(b.cells 18).trans hc17.2.1,(b.cells 19).trans hc17.2.2.1,(b.cells 20).trans hc17.2.2.2,b.lt⟩
 have HCL:=zhs hcell;clear hch hbm hp hck hRL hRN hc21 hc17 htv hcell;go_enter func63,ntmps63
 go_upto_region 2 with fail
 rw[←hw0];obtain⟨c9,c21,c22,c17,c18,c19,c20,lT⟩:=HCL.out w0 (zho _ _);clear hw0;go_wp2_with fail
 clear c9 c21 c22 c17 c18 c19 c20 lT;go_loopw [3,4,5] (fun v3 v4 v5 wr=>∃(k:Nat) (d:Bool) (A:Option Addr) (c:Nat) (out:List Rec),k≤y.writes.length+1∧v5=.int .i64 k∧v4=.bool d∧v3=.slice A out.length c∧RcS y k d out∧wr.ownsRow w0.heap.size 118 3 (.slice A out.length c) out.length (out.flatMap recV)∧Below w0.heap.size w0 wr) (fun _ _ v5 _=>y.writes.length+1 - (RowKit.intOf v5).toNat)
 case atStart=>exact⟨0,!y.changed,none,0,[],zi9 _,rfl,rfl,rfl,zf6 y,World.ownsRow_nil _ _ _ _,zho _ _⟩
 case round=>
  obtain⟨k,d,A,c,out,hk,rfl,rfl,rfl,hrc,hown,hB⟩:=hrel;obtain⟨c9,c21,c22,c17,c18,c19,c20,lT⟩:=HCL.out wr hB;have HO:=zhs hown;have HRC:=zhs hrc;have hos:=z5G hc hrc;clear hown hrc;by_cases hlt:k≤y.writes.length
  rotate_left
  ·obtain rfl:k=y.writes.length+1:=by omega
   have hend:=zg4 HRC.out;have HE:=zhs hend;have hd1:¬((y.writes.length:Int)+1≤y.writes.length):=by omega
   have hd2:¬(((y.writes.length+1:Nat):Int)≤y.writes.length):=by omega
   clear hend;go_wp2_with fail
   go_ret
   refine⟨A,c,by rw[HE.out];rfl,?_,B0.trans (hB.mono B0.size)⟩
   have:=z0y HO.out (Nat.le_of_lt hB0z)
   rw[HE.out]at this;exact this
  have hlt':(k:Int)≤y.writes.length:=by omega
  have HCB:Hid ((rcB y k d=true→d=false∧∀h:k<y.writes.length,1+y.j<y.writes[k].at_)∧(rcB y k d=false→d=true∨∃h:k<y.writes.length,¬1+y.j<y.writes[k].at_)):=zhs (zf7 hlt);go_upto_region 6 with fail
  go_cut [38]from 18 to 37 (fun s38 wx=>s38=.bool (rcB y k d)∧wx=wr.drew)
  case first=>
   as_aux_lemma=>
    have HB9:Hid (∀d,rcB y k d=(!d&&(decide (k=y.writes.length)||decide (1+y.j<(y.writes.getD k default).at_)))):=zhs fun _=>rfl
    have hS0:(wr.drew).cell? ⟨w.heap.size,9,none⟩=some (.int .i64 (1+y.j))∧(wr.drew).cell? ⟨w.heap.size,21,none⟩=some (.slice p.L y.writes.length p.lc):=⟨c9,c21⟩;clear HCB HO HRC c22 c17 c18 c19 c20;cases d;rotate_left
    ·have HV:Hid (rcB y k true=false):=zhs (by rw[HB9.out];rfl)
     clear c9 c21;refine z06 [.take 0,.take 1,.take 2,.take 3,.take 4,.take 5,.take 6,.take 7,.take 8,.take 9,.take 10,.take 11,.take 12,.take 13,.take 14,.take 15,.take 16,.take 17,.take 18,.take 19,.take 20] 21 (fun W=>W.cell? ⟨w.heap.size,9,none⟩=some (.int .i64 (1+y.j))∧W.cell? ⟨w.heap.size,21,none⟩=some (.slice p.L y.writes.length p.lc)) (by kernel_rfl) (by kernel_rfl) (fun _ _ _ _ _ h=>h) hS0 ?_
     simp only[zhY,zhZ,Ms.fill,zhy,zhz];iterate 3 (refine z04 (by rfl) ?_ (fun w' hw'=>?_) ?_;rotate_left;(focus (go_simp;(try with_reducible rfl)));(try simp only[Act.put,zht,zhu,zhv]))
     iterate 17 ((first|(refine z0E (by rfl) ?_)|(refine z0F (by rfl) ?_));(try simp only[Act.put,zht,zhu,zhv]))
     iterate 1 (refine z04 (by rfl) ?_ (fun w' hw'=>?_) ?_;rotate_left;(focus (go_simp;(try with_reducible rfl)));(try simp only[Act.put,zht,zhu,zhv]))
     refine z0f ?_;go_wp2_with fail
     go_meet
     case rel=>exact⟨by rw[HV.out],rfl⟩
    by_cases hkl:k=y.writes.length
    ·have HV:Hid (rcB y k false=true):=zhs (by rw[HB9.out,decide_eq_true hkl];rfl)
     have hkd:((k:Int)==(y.writes.length:Int))=true:=by rw[beq_iff_eq];omega
     clear c9 c21 hkl;refine z06 [.take 0,.take 1,.take 2,.take 3,.take 4,.take 5,.take 6,.take 7,.take 8,.take 9,.take 10,.take 11,.take 12,.take 13,.take 14,.take 15,.take 16,.take 17,.take 18,.take 19,.take 20] 21 (fun W=>W.cell? ⟨w.heap.size,9,none⟩=some (.int .i64 (1+y.j))∧W.cell? ⟨w.heap.size,21,none⟩=some (.slice p.L y.writes.length p.lc)) (by kernel_rfl) (by kernel_rfl) (fun _ _ _ _ _ h=>h) hS0 ?_
     simp only[zhY,zhZ,Ms.fill,zhy,zhz];iterate 9 (refine z04 (by rfl) ?_ (fun w' hw'=>?_) ?_;rotate_left;(focus (go_simp;(try with_reducible rfl)));(try simp only[Act.put,zht,zhu,zhv]))
     iterate 10 ((first|(refine z0E (by rfl) ?_)|(refine z0F (by rfl) ?_));(try simp only[Act.put,zht,zhu,zhv]))
     iterate 2 (refine z04 (by rfl) ?_ (fun w' hw'=>?_) ?_;rotate_left;(focus (go_simp;(try with_reducible rfl)));(try simp only[Act.put,zht,zhu,zhv]))
     refine z0f ?_;go_wp2_with fail
     go_meet
     case rel=>exact⟨by rw[HV.out],rfl⟩
    ·have hk2:k<y.writes.length:=by omega
     obtain⟨b,off,hpL,hbl,e0,-,-⟩:=RunAt.at_ (HRL.out wr (B0.trans (hB.mono B0.size))) hk2;have HV:Hid (rcB y k false=decide (1+y.j<y.writes[k].at_)):=zhs (by rw[HB9.out,decide_eq_false hkl,zhw,zhx hk2];rfl)
     have hkd:((k:Int)==(y.writes.length:Int))=false:=by rw[beq_eq_false_iff_ne];omega
     have hk3:(k:Int)<y.writes.length:=by omega
     rw[hpL]at hS0 c21;generalize y.writes[k].at_=av at *;have hS1:=And.intro hS0.1 (And.intro hS0.2 (show (wr.drew).cell? ⟨b,off+k*3,none⟩=some (.int .i64 av)from e0))
     clear c9 c21 hkl hS0 e0 hpL;refine z06 [.take 0,.take 1,.take 2,.take 3,.take 4,.take 5,.take 6,.take 7,.take 8,.take 9,.take 10,.take 11,.take 12,.take 13,.take 14,.take 15,.take 16,.take 17,.take 18,.take 19,.take 20] 21 (fun W=>W.cell? ⟨w.heap.size,9,none⟩=some (.int .i64 (1+y.j))∧W.cell? ⟨w.heap.size,21,none⟩=some (.slice (some ⟨b,off,none⟩) y.writes.length p.lc)∧W.cell? ⟨b,off+k*3,none⟩=some (.int .i64 av)) (by kernel_rfl) (by kernel_rfl) (fun _ _ _ _ _ h=>h) hS1 ?_
     simp only[zhY,zhZ,Ms.fill,zhy,zhz];iterate 21 (refine z04 (by rfl) ?_ (fun w' hw'=>?_) ?_;rotate_left;(focus (go_simp;(try with_reducible rfl)));(try simp only[Act.put,zht,zhu,zhv]))
     refine z0f ?_;go_wp2_with fail
     go_meet
     case rel=>exact⟨by rw[HV.out],rfl⟩
  case rest=>
   obtain⟨rfl,hwc⟩:=hcut;have hBc:Below w0.heap.size w0 wc:=by rw[hwc];exact hB.drew
   have HOc:=zhs (show wc.ownsRow w0.heap.size 118 3 (.slice A out.length c) out.length (out.flatMap recV) by rw[hwc];exact z0c HO.out fun _ _=>rfl)
   clear hwc c9 c21 c22 c17 c18 c19 c20 lT HO hB;go_upto_if 38 with fail
   go_cut [3,4]from 38 to 53 (fun s3 s4 wx=>∃(d2:Bool) (A2:Option Addr) (c2:Nat) (out2:List Rec),s4=.bool d2∧s3=.slice A2 out2.length c2∧RcM y k d2 out2∧out2.length≤y.writes.length+2∧wx.ownsRow w0.heap.size 118 3 (.slice A2 out2.length c2) out2.length (out2.flatMap recV)∧Below w0.heap.size w0 wx)
   case first=>
    as_aux_lemma=>
     obtain⟨cb,hcb⟩:∃cb,rcB y k d=cb:=⟨_,rfl⟩;rw[hcb]at HCB ⊢;clear hcb;cases cb
     ·have HM:=zhs (zfv hc HRC.out hlt (HCB.out.2 rfl));go_wp2_with fail
      go_meet
      case rel=>exact⟨d,A,c,out,rfl,rfl,HM.out,by omega,HOc.out,hBc⟩
     ·obtain⟨rfl,hins⟩:=HCB.out.1 rfl;have HM:=zhs (zfP hc HRC.out hlt hins);clear HCB hins HRC;obtain⟨c9,c21,c22,c17,c18,c19,c20,lT⟩:=HCL.out wc hBc;have hen:=HEN.out wc (B0.trans (hBc.mono B0.size));go_wp2_with fail
      refine hen.mono ?_;rintro e w2 ⟨hb2,he⟩;obtain⟨-,g,rfl,hg,hRg⟩:=he.resolve_left (fun h=>h.1 HCK.out)
      have hB2:=hBc.trans (hb2.mono hBc.size);have HO2:=zhs (z0a HOc.out hb2);have hcv:=z1T (some ⟨g,0,none⟩) 96 96 (encL y.now y.now.length) (z1p _ _) w2 hRg;have HMS:Hid (y.bmap=⟨1+y.j,5,strOfNums (encL y.now y.now.length)⟩):=zhs rfl;generalize strOfNums (encL y.now y.now.length)=ms at *;clear c9 c21 c22 c17 c18 c19 c20 lT hen hb2 hRg he;obtain⟨c9,c21,c22,c17,c18,c19,c20,lT⟩:=HCL.out w2 hB2;obtain⟨A3,c3,w3,hrun,ho3,hb3⟩:=z3a HO2.out hB2.size (by omega) ⟨1+y.j,5,ms⟩
      have hB3:=hB2.trans hb3;have HF:=zhs (And.intro ho3 hB3);clear ho3 hB3 hb3;simp only at hrun
      go_wp2_with (first|(refine z0A rfl 118 _ rfl #[.int .i64 (1+y.j),.int .i64 5,.string ms] (Tryz.builtRec5 _ _) ?_)|(refine z0m rfl _ _ _ rfl (.slice A out.length c) (.slice (some ⟨w2.heap.size,0,none⟩) 1 1) (.slice A3 (out.length+1) c3) rfl rfl hrun ?_))
      go_meet
      case rel=>exact⟨true,A3,c3,out++[y.bmap],rfl,by rw[zhF];rfl,HM.out,by rw[zhF];show out.length+1≤_;omega,by rw[HMS.out];exact HF.out.1,HF.out.2⟩
   case rest=>
    as_aux_lemma=>
     obtain⟨d2,A2,c2,out2,rfl,rfl,hm,hos2,hown2,hB2⟩:=hcut;have HM:=zhs hm;have HO2:=zhs hown2;obtain⟨c9,c21,c22,c17,c18,c19,c20,lT⟩:=HCL.out wc hB2;clear hm hown2 HOc HRC HCB hBc;by_cases hk2:k<y.writes.length
     ·obtain⟨b,off,hpL,hbl,e0,e1,e2⟩:=RunAt.at_ (HRL.out wc (B0.trans (hB2.mono B0.size))) hk2;have hk3:(k:Int)<y.writes.length:=by omega
      have HS:=zhs (HM.out.2 hk2);rw[hpL]at c21;generalize y.writes[k]=r at *;obtain⟨ra,rk,rd⟩:=r;simp only at e0 e1 e2
      obtain⟨A3,c3,w3,hrun,ho3,hb3⟩:=z3a HO2.out hB2.size (by omega) ⟨ra,rk,rd⟩
      have hB3:=hB2.trans hb3;have HF:=zhs (And.intro ho3 hB3);clear ho3 hB3 hb3 hpL c9 c22 c17 c18 c19 c20;simp only at hrun
      go_wp2_with (refine z0m rfl _ _ _ rfl (.slice A2 out2.length c2) (.slice (some ⟨wc.heap.size,0,none⟩) 1 1) (.slice A3 (out2.length+1) c3) rfl rfl hrun ?_)
      go_roundw
      case rel=>exact⟨k+1,d2,A3,c3,out2++[⟨ra,rk,rd⟩],by omega,by go_num,rfl,by rw[zhF];rfl,HS.out,HF.out.1,HF.out.2⟩
      case measure=>simp[RowKit.intOf]<;>omega
     ·obtain rfl:k=y.writes.length:=by omega
      have hd2:¬((y.writes.length:Int)<y.writes.length):=by omega
      have HE:=zhs (HM.out.1 rfl);clear c9 c22 c17 c18 c19 c20;go_wp2_with fail
      go_roundw
      case rel=>exact⟨y.writes.length+1,d2,A2,c2,out2,by omega,by go_num,rfl,rfl,.inl ⟨rfl,HE.out⟩,HO2.out,hB2⟩
      case measure=>simp[RowKit.intOf]<;>omega
end Go.Proofs.YtejmknghkbobnaaGreatDoor
