import Derived.Test.YtejmknghkbobnaaGreatDoorPart00
import Derived.WalkKit
import Derived.WalkSpells
import Derived.WalkLawsBesides
import Derived.BigQuiet
import Derived.Deep.Draws
import Derived.Deep.AppendLies
import Derived.Lib.Hide
import Derived.Maps.AppendAt
import Derived.RegionTactic
import Derived.OwnWalk
import Derived.Test.YtejmknghkbobnaaGreatDoorProg
import Derived.Deep.RegionWith
import Derived.Deep.RegionHeld3
import Derived.Deep.QuietTactic
set_option linter.unusedVariables false
set_option linter.unusedSimpArgs false
set_option maxRecDepth 100000
set_option maxHeartbeats 8000000
namespace Go.Proofs.YtejmknghkbobnaaGreatDoor
open Go.Proofs.Tryz
def rgE (s j i:Int):Int:=if s<64∨256<s∨j<8∨96<j∨i<1∨60<i then 7 else if s - (2+j+i)<8 then 5 else 0
def rgJ (s j i:Int):Int:=if rgE s j i=0 then 1 else 0
def rgM (s j i:Int):Int:=if rgE s j i=0 then 1+j else 0
def rgT (s j i:Int):Int:=if rgE s j i=0 then 2+j else 0
def rgD (s j i:Int):Int:=if rgE s j i=0 then 2+j+i else 0
def rgB (s j i:Int):Int:=if rgE s j i=0 then s - (2+j+i)else 0
theorem zct {s j i:Int}(h:s<64∨256<s∨j<8∨96<j∨i<1∨60<i):rgE s j i=7:=by simp[rgE,h]
theorem zgE {s j i:Int}(h:¬(s<64∨256<s∨j<8∨96<j∨i<1∨60<i))(h':s - (2+j+i)<8):rgE s j i=5:=by simp[rgE,h,h']
theorem zgP {s j i:Int}(h:¬(s<64∨256<s∨j<8∨96<j∨i<1∨60<i))(h':¬s - (2+j+i)<8):rgE s j i=0:=by simp only[rgE,if_neg h,if_neg h']
theorem z3w {s j i:Int}(h:rgE s j i≠0):rgJ s j i=0∧rgM s j i=0∧rgT s j i=0∧rgD s j i=0∧rgB s j i=0:=by simp[rgJ,rgM,rgT,rgD,rgB,h]
theorem z3R {s j i:Int}(h:rgE s j i=0):rgJ s j i=1∧rgM s j i=1+j∧rgT s j i=2+j∧rgD s j i=2+j+i∧rgB s j i=s - (2+j+i):=by simp[rgJ,rgM,rgT,rgD,rgB,h]
theorem z10 {s j i:Int}(h:rgE s j i=0):64≤s∧s≤256∧8≤j∧j≤96∧1≤i∧i≤60∧8≤s - (2+j+i):=by
 unfold rgE at h;repeat' split at h
 all_goals omega
theorem zah (s j i:Int):0≤rgB s j i∧rgB s j i≤256:=by
 unfold rgB;split
 ·rename_i h;have:=z10 h;omega
 ·omega
def outB (n lo hi:Int):Bool:=decide (n<lo)||decide (hi<n)
theorem z2g {n lo hi:Int}(h:n<lo∨hi<n):outB n lo hi=true:=by simp[outB];omega
theorem z2e {n lo hi:Int}(h:¬(n<lo∨hi<n)):outB n lo hi=false:=by simp[outB];omega
open Go.RowKit
theorem z6P {k:IntKind}{a b:Int}(h:a=b):Ending.returned (.int k a)=.returned (.int k b):=by rw[h]
def Reads (w:World)(A:Option Addr)(xs:List Value):Prop:=
 xs=[]∨∃b off,A=some ⟨b,off,none⟩∧b<w.heap.size∧∀j u,xs[j]?=some u→w.cell? ⟨b,off+j,none⟩=some u
theorem Reads.nil {w:World}{A:Option Addr}:Reads w A []:=.inl rfl
theorem Reads.below {w w':World}{A:Option Addr}{xs:List Value}(h:Reads w A xs)(hb:Below w.heap.size w w'):Reads w' A xs:=by
 rcases h with h|⟨b,off,hA,hlt,hc⟩
 ·exact .inl h
 ·exact .inr ⟨b,off,hA,zhR hlt hb.size,fun j u hu=>(hb.cell (p:=⟨b,off+j,none⟩) hlt).trans (hc j u hu)⟩
theorem Reads.at_ {w:World}{A:Option Addr}{xs:List Value}(h:Reads w A xs){k:Nat}(hk:k<xs.length):
  ∃b off,A=some ⟨b,off,none⟩∧b<w.heap.size∧w.cell? ⟨b,off+k,none⟩=some xs[k]:=by
 rcases h with h|⟨b,off,hA,hlt,hc⟩
 ·subst h;simp at hk
 ·exact⟨b,off,hA,hlt,hc k _ (zhx hk)⟩
theorem Reads.alloc {w:World}{A:Option Addr}{xs:List Value}(h:Reads w A xs)(o:Obj):Reads (w.alloc o) A xs:=
 h.below ((zho _ _).alloc (zhT _) _)
theorem Reads.of_own {w:World}{base:Nat}{e:TypeId}{A:Option Addr}{n c:Nat}{xs:List Value}(h:w.ownsRow base e 1 (.slice A n c) n xs):Reads w A xs:=by
 obtain⟨h1,h2⟩:=h;rcases h2 with ⟨_,h2⟩|⟨g,cap,cur,hv,hg,hh,h3,h4,h5,h6⟩
 ·left;subst h2;simpa using h1
 ·right
  simp only[Value.slice.injEq]at hv;refine⟨g,0,hv.1,?_,fun j u hu=>?_⟩
  ·exact(zhW.1 hh).1
  ·rw[cell_of_row w g (0+j) cur e (0,0) hh];rw[←h6,List.getElem?_take]at hu;split at hu
   ·simpa using hu
   ·simp at hu
theorem z1M {W w1:World}{k:Nat}{cs:Array Value}{t:TypeId}{m:Nat × Nat}(hb:Below W.heap.size W w1)(hk:W.heap[k]?=some (.cells cs t m)):∀j,w1.cell? ⟨k,j,none⟩=cs[j]?:=fun j=>by
 have hlt:k<W.heap.size:=(zhW.1 hk).1;rw[hb.cell (p:=⟨k,j,none⟩) hlt];exact cell_of_row W k j cs t m hk
theorem z1N {W w1:World}{k:Nat}{cs:Array Value}{t:TypeId}(hb:Below W.heap.size W w1)(hk:W.heap[k]?=some (.cells cs t (0,0))):∀j,w1.frozen? ⟨k,j,none⟩=false:=fun j=>by
 have hlt:k<W.heap.size:=(zhW.1 hk).1;rw[hb.frozen (p:=⟨k,j,none⟩) hlt];simp[World.frozen?,hk]
theorem hp1 (w:World)(o:Obj):(w.alloc o).heap[w.heap.size]?=some o:=heap_alloc_new w o
theorem zcS {w:World}{k:Nat}{o:Obj}(h:w.heap[k]?=some o)(p:Obj):(w.alloc p).heap[k]?=some o:=
 (Below.heap_alloc w p k (zhW.1 h).1).trans h
theorem hp20 (w:World)(o p:Obj):((w.alloc o).alloc p).heap[w.heap.size]?=some o:=zcS (hp1 w o) p
theorem hp21 (w:World)(o p:Obj):((w.alloc o).alloc p).heap[w.heap.size+1]?=some p:=by have:=hp1 (w.alloc o) p;rwa [World.size_alloc]at this
theorem hpL {w:World}{o:Obj}{k:Nat}(h:k=w.heap.size):(w.alloc o).heap[k]?=some o:=by subst h;exact hp1 w o
theorem hpLd {w:World}{o:Obj}{k:Nat}(h:k=w.heap.size):(w.alloc o).drew.heap[k]?=some o:=hpL h
theorem z1E {w w1:World}{o:Obj}(hb:Below (w.alloc o).heap.size (w.alloc o) w1):Below w.heap.size w w1:=
 ((zho _ _).alloc (zhT _) _).trans (hb.mono (by simp))
theorem z1W {w w1:World}{o p:Obj}(hb:Below ((w.alloc o).alloc p).heap.size ((w.alloc o).alloc p) w1):Below w.heap.size w w1:=
 z1E (z1E hb)
theorem z9q {w w1:World}{o p q:Obj}(hb:Below (((w.alloc o).alloc p).alloc q).heap.size (((w.alloc o).alloc p).alloc q) w1):Below w.heap.size w w1:=
 z1W (z1E hb)
theorem sz1 {w w1:World}{o:Obj}(hb:Below (w.alloc o).heap.size (w.alloc o) w1):w.heap.size<w1.heap.size:=by have:=hb.size;simp at this;omega
theorem sz2 {w w1:World}{o p:Obj}(hb:Below ((w.alloc o).alloc p).heap.size ((w.alloc o).alloc p) w1):w.heap.size<w1.heap.size∧w.heap.size+1<w1.heap.size:=by have:=hb.size;simp at this;omega
section
variable {P:Program}(w:World)
theorem z16 (base:Nat)(t ty e:TypeId)(i:TypeInfo)(size:Nat)(ht:P.underlying t=some (.slice e))(hi:P.info? e=some i)
  (v:Value) (n:Nat) (xs:List Value) (hown:w.ownsRow base e size v n xs) (c:Nat):(Builtin.append_ #[t,t] ty #[v,.slice none 0 c]).run P w=.ok v w:=by
 rcases hown.2 with ⟨rfl,rfl⟩|⟨g,cap,cur,rfl,_,_,hnc,_⟩
 ·simp[Builtin.append_,run_underlying ht,sizeOf,typeInfo,hi,Builtin.lenOf,Builtin.firstCells]
 ·simp[Builtin.append_,run_underlying ht,sizeOf,typeInfo,hi,Builtin.lenOf,Builtin.firstCells,hnc,storeCells]
theorem z74 (base:Nat)(t ty e:TypeId)(i:TypeInfo)(z:Value)(bytes:Nat)(ht:P.underlying t=some (.slice e))(hi:P.info? e=some i)(hz:i.zero=some z)
  (hsize:i.size=1) (hby:i.bytes=bytes) (hzs:z.cells.size=1)
  (v:Value) (n:Nat) (xs:List Value) (hown:w.ownsRow base e 1 v n xs)
  (A:Option Addr) (m c:Nat) (news:List Value) (hm:news.length=m) (hA:A=none→m=0) (hr:Reads w A news) (h1:∀u∈news,u.oneCell'=true)
  (h63:n+m≤maxLen) (hbytes:(n+m)*bytes≤140737488355328) (hbase:base≤w.heap.size):
  ∃v' w',(Builtin.append_ #[t,t] ty #[v,.slice A m c]).run P w=.ok v' w'∧w'.ownsRow base e 1 v' (n+m) (xs++news)∧w.grownBy w' v.ownBlock ∧
   (v'.ownBlock=v.ownBlock∨v'.ownBlock=some w.heap.size):=by
 rcases A with _|ad
 ·have hm0:=hA rfl;subst hm0;have hn:news=[]:=List.eq_nil_of_length_eq_zero hm;subst hn;exact⟨v,w,z16 w base t ty e i 1 ht hi v n xs hown c,by simpa using hown,World.grownBy.refl w _,.inl rfl⟩
 ·have hcells:∀j u,news[j]?=some u→w.cell? (ad.add j)=some u:=by
   intro j u hu;rcases hr with h0|⟨b,off,hA',_,hc⟩
   ·subst h0;simp at hu
   ·injection hA' with hA'
    subst hA';have:=hc j u hu
    unfold Addr.add;split
    ·rename_i h0;subst h0;simpa using this
    ·exact this
  obtain⟨v',w',hrun,h2,h3,_,h5⟩:=run_append_own_at (P:=P) w base t ty e i z 1 bytes ht hi hz hsize hby hzs (by omega) v n xs hown ad m c news (by omega) hcells h1 h63 hbytes hbase
  exact⟨v',w',hrun,h2,h3,h5⟩
theorem z7Z {o:Oper}{a:Act}{K:Act→World→Prop}{Q:Exit→Act→World→Prop}(s x:Operand)(t:TypeId)
  (ho:o.op=.call { callee:=.builtin .append,args:=#[s,x],argTypes:=#[t,t] })
  (base:Nat) (e:TypeId) (i:TypeInfo) (z:Value) (bytes:Nat) (ht:P.underlying t=some (.slice e)) (hi:P.info? e=some i) (hz:i.zero=some z)
  (hsize:i.size=1) (hby:i.bytes=bytes) (hzs:z.cells.size=1)
  (v:Value) (n:Nat) (xs:List Value) (hs:a.eval s=v) (hown:w.ownsRow base e 1 v n xs)
  (A:Option Addr) (m c:Nat) (news:List Value) (hx:a.eval x=.slice A m c) (hm:news.length=m) (hA:A=none→m=0) (hr:Reads w A news) (h1:∀u∈news,u.oneCell'=true)
  (h63:n+m≤maxLen) (hbytes:(n+m)*bytes≤140737488355328) (hbase:base≤w.heap.size)
  (h:∀v' w',w'.ownsRow base e 1 v' (n+m) (xs++news)→w.grownBy w' v.ownBlock→(v'.ownBlock=v.ownBlock∨v'.ownBlock=some w.heap.size)→K (a.put o.dst v') w'):o.wp P a w K Q:=by
 obtain⟨v',w',hrun,h2,h3,h4⟩:=z74 (P:=P) w base t o.type e i z bytes ht hi hz hsize hby hzs v n xs hown A m c news hm hA hr h1 h63 hbytes hbase;unfold Oper.wp execOp;simp only[ho,resolve,invoke,builtin,Sem.run_bind,Sem.run_pure,Result.andThen_ok,List.map_toArray,zhY,zhZ,hs,hx,hrun];exact h v' w' h2 h3 h4
theorem z34 {ops:Array Oper}{rest:List Oper}{o:Oper}{a:Act}{Q:Exit→Act→World→Prop}(hgd:o.guard=none)(s x:Operand)(t:TypeId)
  (ho:o.op=.call { callee:=.builtin .append,args:=#[s,x],argTypes:=#[t,t] })
  (base:Nat) (e:TypeId) (i:TypeInfo) (z:Value) (bytes:Nat) (ht:P.underlying t=some (.slice e)) (hi:P.info? e=some i) (hz:i.zero=some z)
  (hsize:i.size=1) (hby:i.bytes=bytes) (hzs:z.cells.size=1)
  (v:Value) (n:Nat) (xs:List Value) (hs:a.eval s=v) (hown:w.ownsRow base e 1 v n xs)
  (A:Option Addr) (m c:Nat) (news:List Value) (hx:a.eval x=.slice A m c) (hm:news.length=m) (hA:A=none→m=0) (hr:Reads w A news) (h1:∀u∈news,u.oneCell'=true)
  (h63:n+m≤maxLen) (hbytes:(n+m)*bytes≤140737488355328) (hbase:base≤w.heap.size)
  (h:∀v' w',w'.ownsRow base e 1 v' (n+m) (xs++news)→w.grownBy w' v.ownBlock→(v'.ownBlock=v.ownBlock∨v'.ownBlock=some w.heap.size)→wpList P ops Q rest (a.put o.dst v') w'):wpList P ops Q (o::rest) a w:=
 wpList_plain hgd fun _ hK=>z7Z w s x t ho base e i z bytes ht hi hz hsize hby hzs v n xs hs hown A m c news hx hm hA hr h1 h63 hbytes hbase fun v' w' h2 h3 h4=>hK _ _ (h v' w' h2 h3 h4)
end
theorem z2f {W:World}{base:Nat}{e:TypeId}{size:Nat}{v:Value}{k:Nat}{xs:List Value}(h:W.ownsRow base e size v k xs)(hk:0<k):∃g cap,v=.slice (some ⟨g,0,none⟩) k cap∧base≤g∧g<W.heap.size:=by
 rcases h.2 with ⟨_,h0⟩|⟨g,cap,_,rfl,hb,hh,_⟩
 ·omega
 ·exact⟨g,cap,rfl,hb,(zhW.1 hh).1⟩
theorem z0a {W W':World}{base:Nat}{e:TypeId}{size:Nat}{v:Value}{k:Nat}{xs:List Value}(h:W.ownsRow base e size v k xs)(hb:Below W.heap.size W W'):W'.ownsRow base e size v k xs:=by
 rcases h with ⟨h1,h2⟩
 refine⟨h1,?_⟩
 rcases h2 with h2|⟨g,cap,cur,hv,hg,hh,r⟩
 ·exact .inl h2
 ·exact .inr ⟨g,cap,cur,hv,hg,(hb.block g (zhW.1 hh).1).trans hh,r⟩
theorem z0D {W:World}{base base':Nat}{e:TypeId}{size:Nat}{v:Value}{k:Nat}{xs:List Value}(h:W.ownsRow base e size v k xs)(hb:base'≤base):W.ownsRow base' e size v k xs:=by
 rcases h with ⟨h1,h2⟩
 refine⟨h1,?_⟩
 rcases h2 with h2|⟨g,cap,cur,hv,hg,r⟩
 ·exact .inl h2
 ·exact .inr ⟨g,cap,cur,hv,by omega,r⟩
def fill (v:Value)(n:Nat):Array Value:=madeCells #[v] n
theorem z8e (v:Value)(n:Nat):fill v n=Array.replicate n v:=by
 unfold fill madeCells;apply Array.ext
 ·simp
 ·intro i h1 h2;simp[Nat.mod_one]
theorem z6H (v:Value)(n:Nat):(fill v n).size=n:=by rw[z8e];simp
theorem z9C (n lo hi:Int)(w:World):
  Calls prog 172 #[.int .i64 n,.int .i64 lo,.int .i64 hi] w fun e w'=>e=.returned (.bool (decide (n<lo)||decide (hi<n)))∧w=w':=by
 by_cases h1:n<lo
 ·go_enter func172,ntmps172
  go_wp2
  go_ret
  exact⟨by simp[h1],rfl⟩
 ·have hd:decide (n<lo)=false:=by simpa using h1
  by_cases h2:hi<n
  all_goals
   go_enter func172,ntmps172
   go_wp2
   go_ret
   exact⟨by simp[h2]<;>omega,rfl⟩
theorem zbt (n lo hi:Int)(w:World):
  Calls prog 178 #[.int .i64 n,.int .i64 lo,.int .i64 hi] w fun e w'=>e=.returned (.bool (decide (lo≤n)&&decide (n≤hi)))∧w=w':=by
 by_cases h1:lo≤n
 ·by_cases h2:n≤hi
  all_goals
   go_enter func178,ntmps178
   go_wp2
   go_ret
   exact⟨by simp[h1,h2],rfl⟩
 ·have hd:decide (lo≤n)=false:=by simpa using h1
  go_enter func178,ntmps178
  go_wp2
  go_ret
  exact⟨by simp<;>omega,rfl⟩
theorem z1f (n lo hi:Int)(w:World):
  Calls prog 172 #[.int .i64 n,.int .i64 lo,.int .i64 hi] w fun e w'=>e=.returned (.bool (outB n lo hi))∧w=w':=
 (z9C n lo hi w).mono fun e w' ⟨he,hw⟩=>⟨by rw[he,outB],hw⟩
theorem z1D (n lo hi:Int)(w:World):
  Calls prog 178 #[.int .i64 n,.int .i64 lo,.int .i64 hi] w fun e w'=>e=.returned (.bool (!outB n lo hi))∧w=w':=
 (zbt n lo hi w).mono fun e w' ⟨he,hw⟩=>⟨by rw[he,outB];simp only[Ending.returned.injEq,Value.bool.injEq];by_cases h1:n<lo<;>by_cases h2:hi<n<;>simp[h1,h2]<;>omega,hw⟩
def rgV (s j i:Int):Value:=.agg #[.int .i64 (rgJ s j i),.int .i64 (rgM s j i),.int .i64 (rgT s j i),.int .i64 (rgD s j i),.int .i64 (rgB s j i)]
def ze5 (s j i:Int)(w:World)(e:Ending)(w':World):Prop:=
 e=.returned (.tuple #[rgV s j i,.int .i64 (rgE s j i)])∧Below w.heap.size w w'
theorem z2E (s j i:Int)(w:World):
  Calls prog 112 #[.agg #[.int .i64 s,.int .i64 j,.int .i64 i]] w (ze5 s j i w):=by
 by_cases h1:s<64∨256<s
 ·have d1:=z2g h1;go_enter func112,ntmps112
  go_wp2_with (go_at_call 172;refine(z1f _ _ _ _).mono ?_;rintro e w' ⟨rfl,rfl⟩)
  refine bodyPost_ret (v:=.tuple #[.agg #[.int .i64 0,.int .i64 0,.int .i64 0,.int .i64 0,.int .i64 0],.int .i64 7]) (by simp[results,results112,go_sem]) rfl ?_
  have e7:=zct (s:=s) (j:=j) (i:=i) (by omega)
  obtain⟨a1,a2,a3,a4,a5⟩:=z3w (s:=s) (j:=j) (i:=i) (by omega)
  exact⟨by simp only[rgV,e7,a1,a2,a3,a4,a5],by (repeat' (first|with_reducible (first|exact zho _ _|assumption|refine zhp ?_ ?_ _|refine zhq ?_|refine zhr ?_ ?_ _|exact zhT _)|omega|(simp;done)|(simp;omega)))⟩
 have d1:=z2e h1;by_cases h2:j<8∨96<j
 ·have d2:=z2g h2;go_enter func112,ntmps112
  go_wp2_with (go_at_call 172;refine(z1f _ _ _ _).mono ?_;rintro e w' ⟨rfl,rfl⟩)
  refine bodyPost_ret (v:=.tuple #[.agg #[.int .i64 0,.int .i64 0,.int .i64 0,.int .i64 0,.int .i64 0],.int .i64 7]) (by simp[results,results112,go_sem]) rfl ?_
  have e7:=zct (s:=s) (j:=j) (i:=i) (by omega)
  obtain⟨a1,a2,a3,a4,a5⟩:=z3w (s:=s) (j:=j) (i:=i) (by omega)
  exact⟨by simp only[rgV,e7,a1,a2,a3,a4,a5],by (repeat' (first|with_reducible (first|exact zho _ _|assumption|refine zhp ?_ ?_ _|refine zhq ?_|refine zhr ?_ ?_ _|exact zhT _)|omega|(simp;done)|(simp;omega)))⟩
 have d2:=z2e h2;by_cases h3:i<1∨60<i
 ·have d3:=z2g h3;go_enter func112,ntmps112
  go_wp2_with (go_at_call 172;refine(z1f _ _ _ _).mono ?_;rintro e w' ⟨rfl,rfl⟩)
  refine bodyPost_ret (v:=.tuple #[.agg #[.int .i64 0,.int .i64 0,.int .i64 0,.int .i64 0,.int .i64 0],.int .i64 7]) (by simp[results,results112,go_sem]) rfl ?_
  have e7:=zct (s:=s) (j:=j) (i:=i) (by omega)
  obtain⟨a1,a2,a3,a4,a5⟩:=z3w (s:=s) (j:=j) (i:=i) (by omega)
  exact⟨by simp only[rgV,e7,a1,a2,a3,a4,a5],by (repeat' (first|with_reducible (first|exact zho _ _|assumption|refine zhp ?_ ?_ _|refine zhq ?_|refine zhr ?_ ?_ _|exact zhT _)|omega|(simp;done)|(simp;omega)))⟩
 have d3:=z2e h3;by_cases h4:s - (2+j+i)<8
 ·skip
  go_enter func112,ntmps112
  go_wp2_with (go_at_call 172;refine(z1f _ _ _ _).mono ?_;rintro e w' ⟨rfl,rfl⟩)
  refine bodyPost_ret (v:=.tuple #[.agg #[.int .i64 0,.int .i64 0,.int .i64 0,.int .i64 0,.int .i64 0],.int .i64 5]) (by simp[results,results112,go_sem]) rfl ?_
  have e7:=zgE (s:=s) (j:=j) (i:=i) (by omega) (by omega)
  obtain⟨a1,a2,a3,a4,a5⟩:=z3w (s:=s) (j:=j) (i:=i) (by omega)
  exact⟨by simp only[rgV,e7,a1,a2,a3,a4,a5],by (repeat' (first|with_reducible (first|exact zho _ _|assumption|refine zhp ?_ ?_ _|refine zhq ?_|refine zhr ?_ ?_ _|exact zhT _)|omega|(simp;done)|(simp;omega)))⟩
 ·skip
  go_enter func112,ntmps112
  go_wp2_with (go_at_call 172;refine(z1f _ _ _ _).mono ?_;rintro e w' ⟨rfl,rfl⟩)
  refine bodyPost_ret (v:=.tuple #[.agg #[.int .i64 1,.int .i64 (1+j),.int .i64 (1+j+1),.int .i64 (1+j+1+i),.int .i64 (s - (1+j+1+i))],.int .i64 0]) (by simp[results,results112,go_sem]) rfl ?_
  have e7:=zgP (s:=s) (j:=j) (i:=i) (by omega) (by omega)
  obtain⟨a1,a2,a3,a4,a5⟩:=z3R (s:=s) (j:=j) (i:=i) e7;refine⟨?_,by (repeat' (first|with_reducible (first|exact zho _ _|assumption|refine zhp ?_ ?_ _|refine zhq ?_|refine zhr ?_ ?_ _|exact zhT _)|omega|(simp;done)|(simp;omega)))⟩
  simp only[rgV,e7,a1,a2,a3,a4,a5];simp;omega
theorem z1S (s j i:Int)(w:World):
  Calls prog 103 #[.agg #[.int .i64 s,.int .i64 j,.int .i64 i]] w (ze5 s j i w):=by
 by_cases h1:s<64∨256<s
 ·have d1:=z2g h1;go_enter func103,ntmps103
  go_wp2_with (go_at_call 178;refine(z1D _ _ _ _).mono ?_;rintro e w' ⟨rfl,rfl⟩)
  refine bodyPost_ret (v:=.tuple #[.agg #[.int .i64 0,.int .i64 0,.int .i64 0,.int .i64 0,.int .i64 0],.int .i64 7]) (by simp[results,results103,go_sem]) rfl ?_
  have e7:=zct (s:=s) (j:=j) (i:=i) (by omega)
  obtain⟨a1,a2,a3,a4,a5⟩:=z3w (s:=s) (j:=j) (i:=i) (by omega)
  exact⟨by simp only[rgV,e7,a1,a2,a3,a4,a5],by (repeat' (first|with_reducible (first|exact zho _ _|assumption|refine zhp ?_ ?_ _|refine zhq ?_|refine zhr ?_ ?_ _|exact zhT _)|omega|(simp;done)|(simp;omega)))⟩
 have d1:=z2e h1;by_cases h2:j<8∨96<j
 ·have d2:=z2g h2;go_enter func103,ntmps103
  go_wp2_with (go_at_call 178;refine(z1D _ _ _ _).mono ?_;rintro e w' ⟨rfl,rfl⟩)
  refine bodyPost_ret (v:=.tuple #[.agg #[.int .i64 0,.int .i64 0,.int .i64 0,.int .i64 0,.int .i64 0],.int .i64 7]) (by simp[results,results103,go_sem]) rfl ?_
  have e7:=zct (s:=s) (j:=j) (i:=i) (by omega)
  obtain⟨a1,a2,a3,a4,a5⟩:=z3w (s:=s) (j:=j) (i:=i) (by omega)
  exact⟨by simp only[rgV,e7,a1,a2,a3,a4,a5],by (repeat' (first|with_reducible (first|exact zho _ _|assumption|refine zhp ?_ ?_ _|refine zhq ?_|refine zhr ?_ ?_ _|exact zhT _)|omega|(simp;done)|(simp;omega)))⟩
 have d2:=z2e h2;by_cases h3:i<1∨60<i
 ·have d3:=z2g h3;go_enter func103,ntmps103
  go_wp2_with (go_at_call 178;refine(z1D _ _ _ _).mono ?_;rintro e w' ⟨rfl,rfl⟩)
  refine bodyPost_ret (v:=.tuple #[.agg #[.int .i64 0,.int .i64 0,.int .i64 0,.int .i64 0,.int .i64 0],.int .i64 7]) (by simp[results,results103,go_sem]) rfl ?_
  have e7:=zct (s:=s) (j:=j) (i:=i) (by omega)
  obtain⟨a1,a2,a3,a4,a5⟩:=z3w (s:=s) (j:=j) (i:=i) (by omega)
  exact⟨by simp only[rgV,e7,a1,a2,a3,a4,a5],by (repeat' (first|with_reducible (first|exact zho _ _|assumption|refine zhp ?_ ?_ _|refine zhq ?_|refine zhr ?_ ?_ _|exact zhT _)|omega|(simp;done)|(simp;omega)))⟩
 have d3:=z2e h3;by_cases h4:s - (2+j+i)<8
 ·skip
  go_enter func103,ntmps103
  go_wp2_with (go_at_call 178;refine(z1D _ _ _ _).mono ?_;rintro e w' ⟨rfl,rfl⟩)
  refine bodyPost_ret (v:=.tuple #[.agg #[.int .i64 0,.int .i64 0,.int .i64 0,.int .i64 0,.int .i64 0],.int .i64 5]) (by simp[results,results103,go_sem]) rfl ?_
  have e7:=zgE (s:=s) (j:=j) (i:=i) (by omega) h4
  obtain⟨a1,a2,a3,a4,a5⟩:=z3w (s:=s) (j:=j) (i:=i) (by omega)
  exact⟨by simp only[rgV,e7,a1,a2,a3,a4,a5],by (repeat' (first|with_reducible (first|exact zho _ _|assumption|refine zhp ?_ ?_ _|refine zhq ?_|refine zhr ?_ ?_ _|exact zhT _)|omega|(simp;done)|(simp;omega)))⟩
 ·skip
  go_enter func103,ntmps103
  go_wp2_with (go_at_call 178;refine(z1D _ _ _ _).mono ?_;rintro e w' ⟨rfl,rfl⟩)
  refine bodyPost_ret (v:=.tuple #[.agg #[.int .i64 1,.int .i64 (1+j),.int .i64 (1+j+1),.int .i64 (1+j+1+i),.int .i64 (s - (1+j+1+i))],.int .i64 0]) (by simp[results,results103,go_sem]) rfl ?_
  have e7:=zgP (s:=s) (j:=j) (i:=i) (by omega) (by omega)
  obtain⟨a1,a2,a3,a4,a5⟩:=z3R (s:=s) (j:=j) (i:=i) e7;refine⟨?_,by (repeat' (first|with_reducible (first|exact zho _ _|assumption|refine zhp ?_ ?_ _|refine zhq ?_|refine zhr ?_ ?_ _|exact zhT _)|omega|(simp;done)|(simp;omega)))⟩
  simp only[rgV,e7,a1,a2,a3,a4,a5];simp;omega
theorem Tryz.info4:(prog.info? 4).map (fun i=>(i.zero,i.size,i.bytes))=some (some (.bool false),1,1):=by kernel_rfl
def zdK (s j i:Int)(w:World)(e:Ending)(w':World):Prop:=
 Below w.heap.size w w'∧((rgE s j i≠0∧e=.returned (.tuple #[.agg #[.int .i64 0,.int .i64 0,.int .i64 0,.slice none 0 0],.int .i64 (rgE s j i)])) ∨
 (rgE s j i=0∧∃b,e=.returned (.tuple #[.agg #[.int .i64 s,.int .i64 j,.int .i64 i,.slice (some ⟨b,0,none⟩) (rgB s j i).toNat (rgB s j i).toNat],.int .i64 0])∧w.heap.size≤b ∧
  w'.heap[b]?=some (.cells (fill (.bool false) (rgB s j i).toNat) 4 (0,0))))
theorem ze7 (s j i:Int)(w:World):
  Calls prog 51 #[.agg #[.int .i64 s,.int .i64 j,.int .i64 i]] w (zdK s j i w):=by
 obtain⟨i0,hi,hz0,hz1,hz2⟩:=info_parts Tryz.info4;have hB:=zah s j i;have hmk:∀w:World,(Instr.makeSlice 45 (.int .i64 (rgB s j i)) (.int .i64 (rgB s j i))).run prog w=.ok (.slice (some ⟨w.heap.size,0,none⟩) (rgB s j i).toNat (rgB s j i).toNat) (w.alloc (.cells (fill (.bool false) (rgB s j i).toNat) 4)):=by
  intro w;have:=run_make (P:=prog) w 45 4 i0 (.bool false) underlying45 hi hz0 .i64 .i64 (rgB s j i) (rgB s j i) hB.1 (Int.le_refl _) (by rw[hz2];omega) (by omega)
  rw[this,hz1];simp[fill,Value.cells]
 by_cases hE:rgE s j i=0
 ·have hE':(rgE s j i==0)=true:=by simpa using hE
  have hE'':(rgE s j i != 0)=false:=by simpa using hE
  have HE:=zhs hE;clear hE hi hz0 hz1 hz2;go_enter func51,ntmps51
  go_wp2_with (
   go_at_call 112;refine(z2E _ _ _ _).mono ?_;rintro e w1 ⟨rfl,hb1⟩;have c0:=z1M hb1 (hp20 _ _ _);have c1:=z1M hb1 (hp21 _ _ _);have f0:=z1N hb1 (hp20 _ _ _);have f1:=z1N hb1 (hp21 _ _ _);obtain⟨hz,hz'⟩:=sz2 hb1;replace hb1:=z1W hb1;unfold rgV)
  go_region
  all_goals
   go_wp2
   refine bodyPost_ret (v:=.tuple #[.agg #[.int .i64 s,.int .i64 j,.int .i64 i,.slice (some ⟨w1.heap.size+1,0,none⟩) (rgB s j i).toNat (rgB s j i).toNat],.int .i64 0]) (by simp[results,results51,go_sem,c1,hz,hz']) rfl ?_
   refine⟨by (repeat' (first|with_reducible (first|exact zho _ _|assumption|refine zhp ?_ ?_ _|refine zhq ?_|refine zhr ?_ ?_ _|exact zhT _)|omega|(simp;done)|(simp;omega))),.inr ⟨HE.out,w1.heap.size+1,rfl,by omega,?_⟩⟩
   exact hpLd (by simp)
 ·have hE':(rgE s j i==0)=false:=by simpa using hE
  have hE'':(rgE s j i != 0)=true:=by simpa using hE
  have HE:=zhs hE;clear hE hi hz0 hz1 hz2 hmk;go_enter func51,ntmps51
  go_wp2_with (
   go_at_call 112;refine(z2E _ _ _ _).mono ?_;rintro e w1 ⟨rfl,hb1⟩;have c0:=z1M hb1 (hp20 _ _ _);have c1:=z1M hb1 (hp21 _ _ _);have f0:=z1N hb1 (hp20 _ _ _);have f1:=z1N hb1 (hp21 _ _ _);obtain⟨hz,hz'⟩:=sz2 hb1;replace hb1:=z1W hb1;unfold rgV)
  refine bodyPost_ret (v:=.tuple #[.agg #[.int .i64 0,.int .i64 0,.int .i64 0,.slice none 0 0],.int .i64 (rgE s j i)]) (by simp[results,results51,go_sem,c1,hz']) rfl ?_
  exact⟨by (repeat' (first|with_reducible (first|exact zho _ _|assumption|refine zhp ?_ ?_ _|refine zhq ?_|refine zhr ?_ ?_ _|exact zhT _)|omega|(simp;done)|(simp;omega))),.inl ⟨HE.out,rfl⟩⟩
theorem zb2 (s j i:Int)(w:World):
  Calls prog 45 #[.agg #[.int .i64 s,.int .i64 j,.int .i64 i]] w (zdK s j i w):=by
 obtain⟨i0,hi,hz0,hz1,hz2⟩:=info_parts Tryz.info4;have hB:=zah s j i;have hmk:∀w:World,(Instr.makeSlice 45 (.int .i64 (rgB s j i)) (.int .i64 (rgB s j i))).run prog w=.ok (.slice (some ⟨w.heap.size,0,none⟩) (rgB s j i).toNat (rgB s j i).toNat) (w.alloc (.cells (fill (.bool false) (rgB s j i).toNat) 4)):=by
  intro w;have:=run_make (P:=prog) w 45 4 i0 (.bool false) underlying45 hi hz0 .i64 .i64 (rgB s j i) (rgB s j i) hB.1 (Int.le_refl _) (by rw[hz2];omega) (by omega)
  rw[this,hz1];simp[fill,Value.cells]
 by_cases hE:rgE s j i=0
 ·have hE':(rgE s j i==0)=true:=by simpa using hE
  have hE'':(rgE s j i != 0)=false:=by simpa using hE
  have HE:=zhs hE;clear hE hi hz0 hz1 hz2;go_enter func45,ntmps45
  go_wp2_with (
   go_at_call 103;refine(z1S _ _ _ _).mono ?_;rintro e w1 ⟨rfl,hb1⟩;have c0:=z1M hb1 (hp20 _ _ _);have c1:=z1M hb1 (hp21 _ _ _);have f0:=z1N hb1 (hp20 _ _ _);have f1:=z1N hb1 (hp21 _ _ _);obtain⟨hz,hz'⟩:=sz2 hb1;replace hb1:=z1W hb1;unfold rgV)
  go_region
  all_goals
   go_wp2
   refine bodyPost_ret (v:=.tuple #[.agg #[.int .i64 s,.int .i64 j,.int .i64 i,.slice (some ⟨w1.heap.size+1,0,none⟩) (rgB s j i).toNat (rgB s j i).toNat],.int .i64 0]) (by simp[results,results45,go_sem,c1,hz,hz']) rfl ?_
   refine⟨by (repeat' (first|with_reducible (first|exact zho _ _|assumption|refine zhp ?_ ?_ _|refine zhq ?_|refine zhr ?_ ?_ _|exact zhT _)|omega|(simp;done)|(simp;omega))),.inr ⟨HE.out,w1.heap.size+1,rfl,by omega,?_⟩⟩
   exact hpLd (by simp)
 ·have hE':(rgE s j i==0)=false:=by simpa using hE
  have hE'':(rgE s j i != 0)=true:=by simpa using hE
  have HE:=zhs hE;clear hE hi hz0 hz1 hz2 hmk;go_enter func45,ntmps45
  go_wp2_with (
   go_at_call 103;refine(z1S _ _ _ _).mono ?_;rintro e w1 ⟨rfl,hb1⟩;have c0:=z1M hb1 (hp20 _ _ _);have c1:=z1M hb1 (hp21 _ _ _);have f0:=z1N hb1 (hp20 _ _ _);have f1:=z1N hb1 (hp21 _ _ _);obtain⟨hz,hz'⟩:=sz2 hb1;replace hb1:=z1W hb1;unfold rgV)
  refine bodyPost_ret (v:=.tuple #[.agg #[.int .i64 0,.int .i64 0,.int .i64 0,.slice none 0 0],.int .i64 (rgE s j i)]) (by simp[results,results45,go_sem,c1,hz']) rfl ?_
  exact⟨by (repeat' (first|with_reducible (first|exact zho _ _|assumption|refine zhp ?_ ?_ _|refine zhq ?_|refine zhr ?_ ?_ _|exact zhT _)|omega|(simp;done)|(simp;omega))),.inl ⟨HE.out,rfl⟩⟩
def CkE (s j i:Int)(n:Nat):Int:=if rgE s j i=0 then (if (n:Int)=rgB s j i then 0 else 6)else rgE s j i
theorem z23 (s j i:Int)(A:Option Addr)(n c:Nat)(w:World)(_hn:n≤maxLen):
  Calls prog 170 #[.agg #[.int .i64 s,.int .i64 j,.int .i64 i,.slice A n c]] w fun e w'=>e=.returned (.int .i64 (CkE s j i n))∧Below w.heap.size w w':=by
 unfold maxLen at _hn;by_cases hE:rgE s j i=0
 ·have hE':(rgE s j i==0)=true:=by simpa using hE
  have hv:CkE s j i n=if (n:Int)=rgB s j i then 0 else 6:=by simp[CkE,hE]
  have HV:=zhs hv;clear hv;by_cases hL:(n:Int)=rgB s j i
  all_goals
   have HE:=zhs hE;clear hE;first|(have hd:((n:Int) != rgB s j i)=false:=by simp[hL])|(have hd:((n:Int) != rgB s j i)=true:=by simpa using hL)
   have HL:=zhs hL;clear hL;go_enter func170,ntmps170
   go_wp2_with (
    go_at_call 112;refine(z2E _ _ _ _).mono ?_;rintro e w1 ⟨rfl,hb1⟩;have c0:=z1M hb1 (hp1 _ _);have f0:=z1N hb1 (hp1 _ _);have hz:=sz1 hb1;replace hb1:=z1E hb1;unfold rgV)
   go_ret
   have HL':=HL.out;exact⟨z6P (by rw[HV.out];first|(simp[HL',HE.out];done)|(simp[HL'])),by (repeat' (first|with_reducible (first|exact zho _ _|assumption|refine zhp ?_ ?_ _|refine zhq ?_|refine zhr ?_ ?_ _|exact zhT _)|omega|(simp;done)|(simp;omega)))⟩
 ·have hE':(rgE s j i==0)=false:=by simpa using hE
  have hv:CkE s j i n=rgE s j i:=by simp[CkE,hE]
  have HV:=zhs hv;clear hv;have HE:=zhs hE;clear hE;go_enter func170,ntmps170
  go_wp2_with (
   go_at_call 112;refine(z2E _ _ _ _).mono ?_;rintro e w1 ⟨rfl,hb1⟩;have c0:=z1M hb1 (hp1 _ _);have f0:=z1N hb1 (hp1 _ _);have hz:=sz1 hb1;replace hb1:=z1E hb1;unfold rgV)
  go_ret
  exact⟨z6P HV.out.symm,by (repeat' (first|with_reducible (first|exact zho _ _|assumption|refine zhp ?_ ?_ _|refine zhq ?_|refine zhr ?_ ?_ _|exact zhT _)|omega|(simp;done)|(simp;omega)))⟩
theorem z1x (s j i:Int)(A:Option Addr)(n c:Nat)(w:World)(_hn:n≤maxLen):
  Calls prog 108 #[.agg #[.int .i64 s,.int .i64 j,.int .i64 i,.slice A n c]] w fun e w'=>e=.returned (.int .i64 (CkE s j i n))∧Below w.heap.size w w':=by
 unfold maxLen at _hn;by_cases hE:rgE s j i=0
 ·have hE':(rgE s j i==0)=true:=by simpa using hE
  have hv:CkE s j i n=if (n:Int)=rgB s j i then 0 else 6:=by simp[CkE,hE]
  have HV:=zhs hv;clear hv;by_cases hL:(n:Int)=rgB s j i
  all_goals
   have HE:=zhs hE;clear hE;first|(have hd:((n:Int) != rgB s j i)=false:=by simp[hL])|(have hd:((n:Int) != rgB s j i)=true:=by simpa using hL)
   have HL:=zhs hL;clear hL;go_enter func108,ntmps108
   go_wp2_with (
    go_at_call 103;refine(z1S _ _ _ _).mono ?_;rintro e w1 ⟨rfl,hb1⟩;have c0:=z1M hb1 (hp1 _ _);have f0:=z1N hb1 (hp1 _ _);have hz:=sz1 hb1;replace hb1:=z1E hb1;unfold rgV)
   go_ret
   have HL':=HL.out;exact⟨z6P (by rw[HV.out];first|(simp[HL',HE.out];done)|(simp[HL'])),by (repeat' (first|with_reducible (first|exact zho _ _|assumption|refine zhp ?_ ?_ _|refine zhq ?_|refine zhr ?_ ?_ _|exact zhT _)|omega|(simp;done)|(simp;omega)))⟩
 ·have hE':(rgE s j i==0)=false:=by simpa using hE
  have hv:CkE s j i n=rgE s j i:=by simp[CkE,hE]
  have HV:=zhs hv;clear hv;have HE:=zhs hE;clear hE;go_enter func108,ntmps108
  go_wp2_with (
   go_at_call 103;refine(z1S _ _ _ _).mono ?_;rintro e w1 ⟨rfl,hb1⟩;have c0:=z1M hb1 (hp1 _ _);have f0:=z1N hb1 (hp1 _ _);have hz:=sz1 hb1;replace hb1:=z1E hb1;unfold rgV)
  go_ret
  exact⟨z6P HV.out.symm,by (repeat' (first|with_reducible (first|exact zho _ _|assumption|refine zhp ?_ ?_ _|refine zhq ?_|refine zhr ?_ ?_ _|exact zhT _)|omega|(simp;done)|(simp;omega)))⟩
def Blk (w:World)(g:Nat)(t:TypeId)(cs:Array Value):Prop:=w.heap[g]?=some (.cells cs t (0,0))
section
variable {w w':World}{g:Nat}{t:TypeId}{cs:Array Value}
theorem Blk.lt (h:Blk w g t cs):g<w.heap.size:=(zhW.1 h).1
theorem Blk.cells (h:Blk w g t cs):∀j,w.cell? ⟨g,j,none⟩=cs[j]?:=fun j=>cell_of_row w g j cs t (0,0) h
theorem Blk.free (h:Blk w g t cs):∀j,w.frozen? ⟨g,j,none⟩=false:=fun j=>by unfold Blk at h;simp[World.frozen?,h]
theorem Blk.new (w:World)(t:TypeId)(cs:Array Value):Blk (w.alloc (.cells cs t)) w.heap.size t cs:=hp1 w _
theorem Blk.new' {w:World}{t:TypeId}{cs:Array Value}{g:Nat}(h:g=w.heap.size):Blk (w.alloc (.cells cs t)) g t cs:=by subst h;exact hp1 w _
theorem Blk.drew (h:Blk w g t cs):Blk w.drew g t cs:=h
theorem Blk.alloc (h:Blk w g t cs)(o:Obj):Blk (w.alloc o) g t cs:=zcS h o
theorem Blk.below {B:Nat}(h:Blk w g t cs)(hb:Below B w w')(hg:g<B):Blk w' g t cs:=(hb.block g hg).trans h
theorem Blk.belowAll (h:Blk w g t cs)(hb:Below w.heap.size w w'):Blk w' g t cs:=h.below hb h.lt
theorem Blk.set_ (h:Blk w g t cs)(i:Nat)(u:Value):Blk (w.setCell ⟨g,i,none⟩ u) g t (cs.setIfInBounds i u):=heap_setCell_same w g i cs t u h
theorem Blk.far (h:Blk w g t cs){p:Addr}(hp:g≠p.block)(u:Value):Blk (w.setCell p u) g t cs:=(Below.heap_setCell w p u g hp).trans h
theorem Blk.grown {row:Option Nat}(h:Blk w g t cs)(hb:w.grownBy w' row)(hg:some g≠row):Blk w' g t cs:=(hb.block g h.lt hg).trans h
end
theorem z00 {B:Nat}{a w:World}(h:Below B a w)(n:Nat):Below B a (w.drewN n):=⟨h.os,h.tape,h.output,h.size,h.block⟩
theorem zh4 (w:World):(zeroValue 269).run prog w=.ok (.agg (fill (.int .u8 0) 96)) w:=by kernel_rfl
theorem z6l {s j i:Int}{n:Nat}(h:CkE s j i n=0):rgE s j i=0∧(n:Int)=rgB s j i∧8≤n∧n≤256:=by
 unfold CkE at h;split at h
 ·rename_i hg
  split at h
  ·rename_i hl
   have:=z10 hg
   have:=(z3R hg).2.2.2.2
   exact⟨hg,hl,by omega,by omega⟩
  ·omega
 ·exact absurd h (by assumption)
def orv (x:Int)(m:Nat):Int:=bits BinOp.or IntKind.u8 x (2 ^ m % 256)
def encL (us:List Bool):Nat→List Int
 | 0=>List.replicate 96 0
 | k+1=>if us[k]?=some true then (encL us k).set (k / 8) (orv ((encL us k).getD (k / 8) 0) (k % 8))else encL us k
theorem z1p (us:List Bool)(k:Nat):(encL us k).length=96:=by
 induction k with
 | zero=>simp[encL]
 | succ k ih=>unfold encL;split<;>simp[ih]
theorem z8n {us:List Bool}{k:Nat}(h:us[k]?=some true):encL us (k+1)=(encL us k).set (k / 8) (orv ((encL us k).getD (k / 8) 0) (k % 8)):=by
 show (if us[k]?=some true then _ else _)=_
 rw[if_pos h]
theorem z6w {us:List Bool}{k:Nat}(h:us[k]?=some false):encL us (k+1)=encL us k:=by
 show (if us[k]?=some true then _ else _)=_
 rw[if_neg (by rw[h];simp)]
def z03 (l:List Int):Array Value:=(l.map (Value.int .u8)).toArray
theorem z3F (n:Nat):z03 (List.replicate n 0)=fill (.int .u8 0) n:=by rw[z8e];unfold z03;simp
theorem z1i (l:List Int)(m:Nat)(x:Int):(z03 l).setIfInBounds m (.int .u8 x)=z03 (l.set m x):=by
 unfold z03;simp[List.map_set]
theorem z0J {l:List Int}{m:Nat}(h:m<l.length):(z03 l)[m]?=some (.int .u8 (l.getD m 0)):=by
 unfold z03;simp[h]
theorem z2d {w:World}{g:Nat}{t:TypeId}{l:List Int}(h:Blk w g t (z03 l)):Reads w (some ⟨g,0,none⟩) (l.map (Value.int .u8)):=
 .inr ⟨g,0,rfl,h.lt,fun j u hu=>by rw[h.cells,zi8];unfold z03;simpa using hu⟩
def z7G (s j i:Int)(us:List Bool)(w:World)(e:Ending)(w':World):Prop:=
 Below w.heap.size w w'∧((CkE s j i us.length≠0∧e=.returned (.tuple #[.slice none 0 0,.int .i64 (CkE s j i us.length)])) ∨
  (CkE s j i us.length=0∧∃g,e=.returned (.tuple #[.slice (some ⟨g,0,none⟩) 96 96,.int .i64 0])∧w.heap.size≤g∧Reads w' (some ⟨g,0,none⟩) ((encL us us.length).map (Value.int .u8))))
theorem zcR (s j i:Int)(A:Option Addr)(c:Nat)(us:List Bool)(hus:us.length≤1000)(w:World)(hR:Reads w A (us.map .bool))(hE:CkE s j i us.length=0):
  Calls prog 128 #[.agg #[.int .i64 s,.int .i64 j,.int .i64 i,.slice A us.length c]] w (z7G s j i us w):=by
 have hus':=(z6l hE).2.2;have hE':(CkE s j i us.length != 0)=false:=by simpa using hE
 have HE:=zhs hE;clear hE;have hz96:=zh4;go_enter func128,ntmps128
 go_wp2_with fail
 refine(z23 s j i A us.length c _ (by unfold maxLen;omega)).mono ?_
 rintro e w1 ⟨rfl,hb1⟩;have bS:Blk w1 w.heap.size 47 #[.int .i64 s,.int .i64 j,.int .i64 i,.slice A us.length c]:=Blk.belowAll (by (repeat' (first|(with_reducible assumption)|exact Blk.new' (by simp)|refine Blk.alloc ?_ _))) hb1
 replace hb1:Below w.heap.size w w1:=z1E hb1
 have cS:=bS.cells;have hbS:=bS.lt;go_wp2_with fail
 obtain⟨W1,hW1⟩:∃W1,W1=w1.alloc (.cells (fill (.int .u8 0) 96) 269):=⟨_,rfl⟩;rw[←hW1];have bO:Blk W1 w1.heap.size 269 (fill (.int .u8 0) 96):=by rw[hW1];exact Blk.new _ _ _
 have hB1:Below w.heap.size w W1:=by rw[hW1];exact hb1.alloc hb1.size _
 have hs1:W1.heap.size=w1.heap.size+1:=by rw[hW1];simp
 clear hW1 bS cS hb1 hz96;go_loopw [16] (fun q wr=>∃k:Nat,k≤us.length∧q=.int .i64 k∧Blk wr w1.heap.size 269 (z03 (encL us k))∧Below w1.heap.size W1 wr) (fun q _=>us.length - (intOf q).toNat)
 case atStart=>exact⟨0,zi9 _,rfl,by rw[show encL us 0=List.replicate 96 0 from rfl,z3F];exact bO,zho _ _⟩
 case round=>
  obtain⟨k,hk,rfl,bO,hnx⟩:=hrel;have fO:=bO.free;by_cases hlt:k<us.length
  ·obtain⟨b,off,rfl,hb,hc⟩:=(hR.below (hB1.trans (hnx.mono (by omega)))).at_ (k:=k) (by simpa using hlt)
   rw[List.getElem_map]at hc;have hd8:k / 8<96:=by omega
   have hcO:wr.cell? ⟨w1.heap.size,k / 8,none⟩=some (.int .u8 ((encL us k).getD (k / 8) 0)):=by rw[bO.cells];exact z0J (by rw[z1p];exact hd8)
   cases hu:us[k]<;>rw[hu]at hc
   ·have hs:=zhs (z6w (us:=us) (k:=k) (by rw[zhx hlt,hu]))
    clear hu hcO;go_wp2
    go_roundw
    case rel=>exact⟨k+1,by omega,by go_num,by rw[hs.out];exact bO,hnx⟩
    case measure=>simp[intOf];omega
   ·have hs:=zhs (z8n (us:=us) (k:=k) (by rw[zhx hlt,hu]))
    clear hu;generalize hx:(encL us k).getD (k / 8) 0=x at hcO hs;clear hx;go_wp2
    go_region
    all_goals go_wp2
    go_roundw
    case rel=>exact⟨k+1,by omega,by go_num,by rw[hs.out,←z1i];exact(bO.set_ _ _).drew,(hnx.setCell (p:=⟨w1.heap.size,k / 8,none⟩) (zhT _) _).drew⟩
    case measure=>simp[intOf];omega
  ·obtain rfl:k=us.length:=by omega
   have hB2:Below w.heap.size w wr:=hB1.trans (hnx.mono (by omega))
   go_wp2
   go_ret2
   exact⟨by (repeat' (first|with_reducible (first|exact zho _ _|assumption|refine zhp ?_ ?_ _|refine zhq ?_|refine z00 ?_ _|refine zhr ?_ ?_ _|exact zhT _)|omega|(simp;done)|(simp;omega))),.inr ⟨HE.out,w1.heap.size,rfl,by omega,z2d bO⟩⟩
theorem zba (s j i:Int)(A:Option Addr)(c:Nat)(us:List Bool)(hus:us.length≤1000)(w:World)(hR:Reads w A (us.map .bool)):
  Calls prog 128 #[.agg #[.int .i64 s,.int .i64 j,.int .i64 i,.slice A us.length c]] w (z7G s j i us w):=by
 by_cases hE:CkE s j i us.length=0
 ·exact zcR s j i A c us hus w hR hE
 ·have hE':(CkE s j i us.length != 0)=true:=by simpa using hE
  have HE:=zhs hE;clear hE;go_enter func128,ntmps128
  go_wp2_with fail
  refine(z23 s j i A us.length c _ (by unfold maxLen;omega)).mono ?_
  rintro e w1 ⟨rfl,hb1⟩;replace hb1:Below w.heap.size w w1:=z1E hb1
  go_wp2_with fail
  go_ret2
  exact⟨hb1,.inl ⟨HE.out,rfl⟩⟩
end Go.Proofs.YtejmknghkbobnaaGreatDoor
