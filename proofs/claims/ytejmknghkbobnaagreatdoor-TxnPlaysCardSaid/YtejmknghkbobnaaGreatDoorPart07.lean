import Derived.Test.YtejmknghkbobnaaGreatDoorPart00
import Derived.Test.YtejmknghkbobnaaGreatDoorPart06
import Derived.MapFrom
import Derived.Test.YtejmknghkbobnaaGreatDoorPart02
import Derived.StillTailTactics
import Derived.Great.BuildSlice
import Derived.Test.YtejmknghkbobnaaGreatDoorPart01
set_option linter.unusedVariables false
set_option linter.unusedSimpArgs false
set_option maxRecDepth 100000
set_option maxHeartbeats 8000000
namespace Go.Proofs.YtejmknghkbobnaaGreatDoor
open Go.Proofs.Tryz
open Go.RowKit Go.Maps
structure DevS where
 stable:List (List Int)
 cache:List (Int × List Int)
 taken:Int
 power:Int
 off:Bool
deriving DecidableEq,Inhabited
def secV (s:List Int):List Value:=s.map (.int .u8)
def dwV (p:Int × List Int):List Value:=.int .i64 p.1::secV p.2
def z1H (c:List (Int × List Int)):List Int:=c.map (·.1)
structure DevS.Ok (x:DevS):Prop where
 lo:64≤x.stable.length
 hi:x.stable.length≤256
 sec:∀s∈x.stable,s.length=128∧z0V s
 cac:∀p∈x.cache,0≤p.1∧p.1<x.stable.length∧p.2.length=128∧z0V p.2
 len:x.cache.length≤400
 tk:0≤x.taken∧x.taken≤1000000000000
 pw:-1≤x.power∧x.power≤1000000000000
structure DevMem (w:World)(D S c M:Nat)(cv:Value)(x:DevS):Prop where
 dev:Blk w D 133 (devC S x.stable.length c cv x.taken x.power x.off M)
 sta:w.ownsRow 0 128 128 (.slice (some ⟨S,0,none⟩) x.stable.length c) x.stable.length (x.stable.flatMap secV)
 cac:w.ownsRow 0 130 129 cv x.cache.length (x.cache.flatMap dwV)
 map:w.ownsMap prog 3 (plainElem prog 3) M x.cache.length (z1t (z1H x.cache) x.cache.length)
structure DevAt (w:World)(D:Nat)(F:List Nat)(x:DevS):Prop where
 ok:x.Ok
 half:HalfAt w
 mem:∃S c M cv,DevMem w D S c M cv x∧D∈F∧S∈F∧M∈F∧(∀g,cv.ownBlock=some g→g∈F)
 lt:∀b∈F,0<b∧b<w.heap.size
structure Grow (w:World)(F:List Nat)(w':World)(F':List Nat):Prop where
 keep:KeepEx w.heap.size F w w'
 new:∀b∈F',b∈F∨w.heap.size≤b
theorem Grow.refl (w:World)(F:List Nat):Grow w F w F:=⟨KeepEx.refl _ _ _,fun _ h=>.inl h⟩
theorem Grow.trans {w w1 w2:World}{F F1 F2:List Nat}(h:Grow w F w1 F1)(k:Grow w1 F1 w2 F2):Grow w F w2 F2:=
 ⟨⟨k.keep.os.trans h.keep.os,k.keep.tape.trans h.keep.tape,k.keep.output.trans h.keep.output,zhS h.keep.size k.keep.size,
   fun i hi hn=>(k.keep.block i (zhR hi h.keep.size) (fun hm=>by rcases h.new i hm with e|e;exact hn e;omega)).trans (h.keep.block i hi hn)⟩,
  fun b hb=>by
   rcases k.new b hb with e|e
   ·exact h.new b e
   ·right;have:=h.keep.size;omega⟩
theorem Grow.of_below {w w':World}(h:Below w.heap.size w w')(F:List Nat):Grow w F w' F:=⟨KeepEx.of_below h,fun _ h=>.inl h⟩
theorem Grow.blk {w w':World}{F F':List Nat}{g:Nat}{t:TypeId}{cs:Array Value}(h:Grow w F w' F')(b:Blk w g t cs)(hg:g∉F):Blk w' g t cs:=h.keep.blk b b.lt hg
theorem Grow.notin {w w':World}{F F':List Nat}{g:Nat}(h:Grow w F w' F')(hg:g∉F)(hl:g<w.heap.size):g∉F':=fun hm=>by
 rcases h.new g hm with e|e
 ·exact hg e
 ·omega
theorem Grow.half {w w':World}{F F':List Nat}(h:Grow w F w' F')(hH:HalfAt w)(h0:0∉F):HalfAt w':=
 ⟨zhR hH.1 h.keep.size,fun j hj=>(World.cell?_of_block (w:=w) (a:=⟨0,j,none⟩) (h.keep.block 0 hH.1 h0)).trans (hH.2 j hj)⟩
theorem Grow.below {w w':World}{F F':List Nat}(h:Grow w F w' F'){B:Nat}(hB:B≤w.heap.size)(hF:∀b∈F,B≤b):Below B w w':=h.keep.toBelow hB hF
theorem z0c {w w':World}{base:Nat}{e:TypeId}{size:Nat}{v:Value}{n:Nat}{xs:List Value}(h:w.ownsRow base e size v n xs)(hb:∀g,v.ownBlock=some g→w'.heap[g]?=w.heap[g]?):w'.ownsRow base e size v n xs:=by
 refine⟨h.1,?_⟩
 rcases h.2 with h2|⟨g,cap,cur,hv,hg,hh,r⟩
 ·exact .inl h2
 ·exact .inr ⟨g,cap,cur,hv,hg,(hb g (by rw[hv];rfl)).trans hh,r⟩
theorem z0j {w w':World}{k:TypeId}{R:Value→Option (DataW Unit × List MemPlace)}{M n:Nat}{D:DataW Unit}(h:w.ownsMap prog k R M n D)(hb:w'.heap[M]?=w.heap[M]?):w'.ownsMap prog k R M n D:=by
 obtain⟨es,clock,h1,h2⟩:=h;exact⟨es,clock,hb.trans h1,h2⟩
theorem DevAt.frame {w w':World}{D:Nat}{F:List Nat}{x:DevS}(h:DevAt w D F x)(hb:∀b,b∈F∨b=0→w'.heap[b]?=w.heap[b]?)(hs:w.heap.size≤w'.heap.size):DevAt w' D F x:=by
 obtain⟨ok,hH,⟨S,c,M,cv,m,hD,hS,hM,hC⟩,lt⟩:=h;refine⟨ok,⟨zhR hH.1 hs,fun j hj=>(World.cell?_of_block (w:=w) (a:=⟨0,j,none⟩) (hb 0 (.inr rfl))).trans (hH.2 j hj)⟩,⟨S,c,M,cv,⟨?_,?_,?_,?_⟩,hD,hS,hM,hC⟩,fun b hbm=>⟨(lt b hbm).1,zhR (lt b hbm).2 hs⟩⟩
 ·exact(hb D (.inl hD)).trans m.dev
 ·exact z0c m.sta fun g e=>by cases e;exact hb S (.inl hS)
 ·exact z0c m.cac fun g e=>hb g (.inl (hC g e))
 ·exact z0j m.map (hb M (.inl hM))
theorem DevAt.below {w w':World}{D:Nat}{F:List Nat}{x:DevS}(h:DevAt w D F x)(hb:Below w.heap.size w w'):DevAt w' D F x:=
 h.frame (fun b hm=>hb.block b (by rcases hm with hm|rfl;exact(h.lt b hm).2;exact h.half.1)) hb.size
theorem DevAt.alloc {w:World}{D:Nat}{F:List Nat}{x:DevS}(h:DevAt w D F x)(o:Obj):DevAt (w.alloc o) D F x:=h.below ((zho _ _).alloc (zhT _) _)
theorem DevAt.drew {w:World}{D:Nat}{F:List Nat}{x:DevS}(h:DevAt w D F x):DevAt w.drew D F x:=h.below (zho _ _).drew
theorem DevAt.drewN {w:World}{D:Nat}{F:List Nat}{x:DevS}(h:DevAt w D F x)(n:Nat):DevAt (w.drewN n) D F x:=h.below (z00 (zho _ _) n)
theorem DevAt.set_ {w:World}{D:Nat}{F:List Nat}{x:DevS}(h:DevAt w D F x){p:Addr}(hp:p.block∉F)(h0:p.block≠0)(u:Value):DevAt (w.setCell p u) D F x:=
 h.frame (fun b hm=>Below.heap_setCell w p u b (fun e=>by subst e;rcases hm with hm|hm;exact hp hm;exact h0 hm)) (by simp)
theorem DevAt.row {w:World}{D:Nat}{F:List Nat}{x:DevS}(h:DevAt w D F x){g:Nat}(hp:g∉F)(h0:g≠0)(cs:Array Value):DevAt (w.setRow g cs) D F x:=
 h.frame (fun b hm=>z0b w g b cs (fun e=>by subst e;rcases hm with hm|hm;exact hp hm;exact h0 hm)) (by simp)
theorem DevAt.far {w:World}{D:Nat}{F:List Nat}{x:DevS}(h:DevAt w D F x){g:Nat}(hg:w.heap.size≤g):g∉F:=fun hm=>by have:=(h.lt g hm).2;omega
theorem z1r {α:Type}{f:α→List Value}{m:Nat}:∀ {l:List α},(∀s∈l,(f s).length=m)→∀ {i j:Nat} (_:j<m) (hi:i<l.length),(l.flatMap f)[i*m+j]?=(f l[i])[j]?
 | [],_,i,j,_,hi=>by simp at hi
 | s::r,h,i,j,hj,hi=>by
  have hs:=h s (by simp)
  rw[zhN];cases i with
  | zero=>rw[zhA (by omega)];simp
  | succ i=>
   rw[zhB (by rw[hs,Nat.add_mul];omega),hs,Nat.add_mul,show i*m+1*m+j - m=i*m+j by omega]
   rw[z1r (fun s hs=>h s (by simp[hs])) hj (by simpa using hi)]
   simp
theorem z0T (s:List Int):(secV s).length=s.length:=by unfold secV;simp
theorem z0I (p:Int × List Int):(dwV p).length=p.2.length+1:=by unfold dwV;simp[z0T]
theorem zaJ {s:List Int}{j:Nat}(h:j<s.length):(secV s)[j]?=some (.int .u8 (s.getD j 0)):=by unfold secV;simp[h]
def DevS.idx (x:DevS)(a:Int):Option Nat:=z1J (z1H x.cache) a x.cache.length
def DevS.reads (x:DevS)(a:Int):List Int:=match x.idx a with|some i=>(x.cache.getD i (0,[])).2|none=>x.stable.getD a.toNat []
theorem z1y (c:List (Int × List Int)):(z1H c).length=c.length:=by unfold z1H;simp
theorem DevS.Ok.reads {x:DevS}(h:x.Ok){a:Int}(ha:0≤a∧a<x.stable.length):(x.reads a).length=128∧z0V (x.reads a):=by
 unfold DevS.reads;cases hx:x.idx a with
 | none=>
  have hlt:a.toNat<x.stable.length:=by omega
  simp only[zhw,zhx hlt,Option.getD_some];exact h.sec _ (zhQ hlt)
 | some i=>
  have hi:=(z4A hx).1;simp only[zhw,zhx hi,Option.getD_some];exact(h.cac _ (zhQ hi)).2.2
theorem z2n {w:World}{base:Nat}{e:TypeId}{size:Nat}{g n cap:Nat}{xs:List Value}(h:w.ownsRow base e size (.slice (some ⟨g,0,none⟩) n cap) n xs){j:Nat}{u:Value}(hu:xs[j]?=some u):w.cell? ⟨g,j,none⟩=some u:=by
 have hlt:=(zhM.1 hu).1;rw[World.ownsRow.cellAt h j (by rw[←h.1];exact hlt),hu]
theorem DevMem.sec {w:World}{D S c M:Nat}{cv:Value}{x:DevS}(h:DevMem w D S c M cv x)(ok:x.Ok){a:Int}(ha:0≤a∧a<x.stable.length):
  ∃A cc g,cv=.slice A x.cache.length cc∧(0<x.cache.length→A=some ⟨g,0,none⟩)∧SecAt w (z2Z S (z1H x.cache) g a.toNat) (x.reads a)∧(z2Z S (z1H x.cache) g a.toNat).block<w.heap.size:=by
 have hr:=ok.reads ha;have hSlt:S<w.heap.size:=(h.sta.lt S rfl).2;have hN:((a.toNat:Nat):Int)=a:=by omega
 have key:∀g A cc,cv=.slice A x.cache.length cc→(0<x.cache.length→A=some ⟨g,0,none⟩)→(0<x.cache.length→g<w.heap.size)→SecAt w (z2Z S (z1H x.cache) g a.toNat) (x.reads a)∧(z2Z S (z1H x.cache) g a.toNat).block<w.heap.size:=by
  intro g A cc hcv hA hgl;unfold z2Z;rw[hN,z1y];have hrd:x.reads a=match z1J (z1H x.cache) a x.cache.length with|some i=>(x.cache.getD i (0,[])).2|none=>x.stable.getD a.toNat []:=rfl
  cases hx:z1J (z1H x.cache) a x.cache.length with
  | none=>
   rw[hx]at hrd;refine⟨⟨hr.1,rfl,fun j hj=>?_⟩,hSlt⟩
   refine z2n h.sta ?_;have hlt:a.toNat<x.stable.length:=by omega
   rw[z1r (fun s hs=>by rw[z0T];exact(ok.sec s hs).1) hj hlt]
   have e1:x.stable[a.toNat]=x.reads a:=by rw[hrd];simp[hlt]
   rw[e1,zaJ (by rw[hr.1];exact hj)]
  | some i=>
   rw[hx]at hrd;have hi:=(z4A hx).1;have hA':=hA (by omega)
   subst hA';subst hcv;refine⟨⟨hr.1,rfl,fun j hj=>?_⟩,hgl (by omega)⟩
   refine z2n h.cac ?_;have e0:i*129+1+j=i*129+(j+1):=by omega
   simp only[e0];rw[z1r (fun p hp=>by rw[z0I,(ok.cac p hp).2.2.1]) (by omega) hi]
   have e1:x.cache[i].2=x.reads a:=by rw[hrd];simp[hi]
   unfold dwV;rw[zhD,e1,zaJ (by rw[hr.1];exact hj)]
 rcases h.cac.2 with ⟨rfl,h0⟩|⟨g,cap,cur,rfl,_,hg,_⟩
 ·obtain⟨k1,k2⟩:=key 0 none 0 (by rw[h0]) (by omega) (by omega)
  exact⟨none,0,0,by rw[h0],by omega,k1,k2⟩
 ·obtain⟨k1,k2⟩:=key g (some ⟨g,0,none⟩) cap rfl (fun _=>rfl) (fun _=>(zhW.1 hg).1)
  exact⟨_,cap,g,rfl,fun _=>rfl,k1,k2⟩
def DevS.atE (x:DevS)(a:Int):Int:=Go.Proofs.YtejmknghkbobnaaGreatDoor.atE x.off x.stable.length a
def DevS.get (x:DevS)(a:Int):Int × Array Value:=(getE x.off x.stable.length a (x.reads a),getV x.off x.stable.length a (x.reads a))
theorem z4m {off:Bool}{n:Nat}{a:Int}(hE:Go.Proofs.YtejmknghkbobnaaGreatDoor.atE off n a=0):0≤a∧a<(n:Int):=by
 unfold Go.Proofs.YtejmknghkbobnaaGreatDoor.atE at hE;cases off
 ·simp only[Bool.false_eq_true,if_false]at hE;split at hE<;>omega
 ·simp at hE
theorem z4W {w:World}{D S c M:Nat}{cv:Value}{x:DevS}(h:DevMem w D S c M cv x):∃A cc g,cv=.slice A x.cache.length cc∧(0<x.cache.length→A=some ⟨g,0,none⟩):=by
 rcases h.cac.2 with ⟨rfl,h0⟩|⟨g,cap,cur,rfl,_⟩
 ·exact⟨none,0,0,by rw[h0],by omega⟩
 ·exact⟨_,cap,g,rfl,fun _=>rfl⟩
theorem zgd (D:Nat)(F:List Nat)(x:DevS)(a:Int)(w:World)(h:DevAt w D F x):
  Calls prog 98 #[.pointer (some ⟨D,0,none⟩),.int .i64 a] w fun e w'=>Below w.heap.size w w'∧e=.returned (.tuple #[.agg (x.get a).2,.int .i64 (x.get a).1]):=by
 obtain⟨ok,hH,⟨S,c,M,cv,m,-,-,-,-⟩,-⟩:=h;by_cases hE:Go.Proofs.YtejmknghkbobnaaGreatDoor.atE x.off x.stable.length a=0
 ·have ha:=z4m hE;obtain⟨A,cc,g,hcv,hA,hs,hl⟩:=m.sec ok ha;have hd:=m.dev;rw[hcv]at hd;exact zei D S x.stable.length c g x.cache.length cc A x.taken x.power x.off M x.cache.length (z1H x.cache) a (x.reads a) (z1y _) hA (by have:=ok.hi;omega) (by have:=ok.len;omega) (ok.reads ha).2 w hH hd m.map (fun _=>⟨hs,hl⟩)
 ·obtain⟨A,cc,g,hcv,hA⟩:=z4W m;have hd:=m.dev;rw[hcv]at hd;refine(zei D S x.stable.length c g x.cache.length cc A x.taken x.power x.off M x.cache.length (z1H x.cache) a zsec (z1y _) hA (by have:=ok.hi;omega) (by have:=ok.len;omega) z29 w hH hd m.map (fun h0=>absurd h0 hE)).mono ?_
  rintro e w' ⟨h1,rfl⟩;refine⟨h1,?_⟩
  unfold DevS.get getE getV;rw[if_neg hE,if_neg hE,if_neg hE,if_neg hE]
theorem z2z (D:Nat)(F:List Nat)(x:DevS)(w:World)(h:DevAt w D F x):
  Calls prog 113 #[.pointer (some ⟨D,0,none⟩)] w fun e w'=>e=.returned (.int .i64 x.stable.length)∧w'=w:=by
 obtain⟨ok,hH,⟨S,c,M,cv,m,-,-,-,-⟩,-⟩:=h;exact zam D S _ c cv _ _ _ M w m.dev
open Go.ChangeMaps Go.MapKept
theorem zdH {P:Program}{t k e ty:TypeId}{R:Value→Option (DataW Unit × List MemPlace)}{w:World}{M q:Nat}{D:DataW Unit}(hM:w.ownsMap P k R M q D)(hm:P.underlying t=some (.map k e)):
  ∃v w',(Builtin.clear_ #[t] ty #[.map (some M)]).run P w=.ok v w'∧w'.ownsMap P k R M 0 (.map [])∧w.grownBy w' (some M):=by
 obtain⟨es,clock,hb,F,hs,hD⟩:=hM;refine⟨_,_,by simp[Builtin.clear_,run_underlying hm,MapKept.run_getObj_map hb,MapKept.run_setObj_map _ hb,Result.andThen];exact⟨rfl,rfl⟩,⟨#[],clock,heap_setBlock_same hb _,⟨by simp,stamped_empty clock,by simp⟩,zhT _,rfl⟩,⟨rfl,rfl,rfl,by simp[setBlock],fun i _ hi=>heap_setBlock_other hb _ (fun e=>hi (by rw[e]))⟩⟩
theorem z5t {P:Program}(w:World){ops:Array Oper}{rest:List Oper}{o:Oper}{a:Act}{Q:Exit→Act→World→Prop}(hg:o.guard=none)(m:Operand)(t:TypeId)
  (ho:o.op=.call { callee:=.builtin .clear,args:=#[m],argTypes:=#[t] }) (k e:TypeId) (hm:P.underlying t=some (.map k e)) (R:Value→Option (DataW Unit × List MemPlace)) (M q:Nat) (D:DataW Unit)
  (hv:a.eval m=.map (some M)) (hM:w.ownsMap P k R M q D) (hK:∀v w',w'.ownsMap P k R M 0 (.map [])→w.grownBy w' (some M)→wpList P ops Q rest (a.put o.dst v) w'):wpList P ops Q (o::rest) a w:=by
 refine wpList_plain hg fun _ hK'=>?_
 obtain⟨v,w',hrun,h1,h2⟩:=zdH (ty:=o.type) hM hm;unfold Oper.wp execOp;simp only[ho,resolve,invoke,builtin,Sem.run_bind,Sem.run_pure,Result.andThen_ok,List.map_toArray,zhY,zhZ,hv,hrun];exact hK' _ _ (hK v w' h1 h2)
theorem DevMem.ne {w:World}{D S c M:Nat}{cv:Value}{x:DevS}(m:DevMem w D S c M cv x):D≠S∧D≠M∧S≠M∧cv.ownBlock≠some D∧cv.ownBlock≠some M∧cv.ownBlock≠some S:=by
 have hD:w.heap[D]?=some (.cells _ _ _):=m.dev;obtain⟨es,clock,hM,_⟩:=m.map;have hS:∃cur,w.heap[S]?=some (.cells cur 128 (0,0)):=by
  rcases m.sta.2 with ⟨h,_⟩|⟨g,cap,cur,h,_,hg,_⟩
  ·simp at h
  ·simp only[Value.slice.injEq,Option.some.injEq,Addr.mk.injEq,and_true,true_and]at h;obtain⟨rfl,rfl⟩:=h;exact⟨cur,hg⟩
 obtain⟨cur,hS⟩:=hS;refine⟨?_,?_,?_,?_,?_,?_⟩
 ·rintro rfl;rw[hS]at hD;simp at hD
 ·rintro rfl;rw[hM]at hD;simp at hD
 ·rintro rfl;rw[hM]at hS;simp at hS
 all_goals
  intro hc;rcases m.cac.2 with ⟨rfl,_⟩|⟨g,cap,cur',rfl,_,hg,_⟩
  ·simp[Value.ownBlock]at hc
  ·simp only[Value.ownBlock,Option.some.injEq]at hc;subst hc;first
    | (rw[hg]at hD;simp at hD;done)
    | (rw[hg]at hM;simp at hM;done)
    | (rw[hg]at hS;simp at hS;done)
theorem z8z (D S c M:Nat)(cv:Value)(x:DevS)(w:World)(m:DevMem w D S c M cv x):
  Calls prog 136 #[.pointer (some ⟨D,0,none⟩)] w fun e w'=>(∃v,e=.returned v)∧DevMem w' D S c M (.slice none 0 0) { x with cache:=[] }∧KeepEx w.heap.size [D,M] w w':=by
 obtain⟨n1,n2,n3,n4,n5,n6⟩:=m.ne;have bD:=m.dev;unfold devC at bD;have cD:=bD.cells;have fD:=bD.free;have lD:=bD.lt;have lM:=m.map.lt;have bD1:Blk (w.setCell ⟨D,1,none⟩ (.slice none 0 0)) D 133 (devC S x.stable.length c (.slice none 0 0) x.taken x.power x.off M):=bD.set_ 1 _;have hM1:(w.setCell ⟨D,1,none⟩ (.slice none 0 0)).ownsMap prog 3 (plainElem prog 3) M x.cache.length (z1t (z1H x.cache) x.cache.length):=z0j m.map (Below.heap_setCell _ _ _ _ (fun e=>n2 e.symm))
 go_enter func136,ntmps136
 go_wp2_with (refine z5t _ rfl _ _ rfl 3 3 underlying131 _ M _ _ rfl hM1 ?_;intro v1 w1 hM2 hg1)
 trace_state
 go_end0
 have k1:KeepEx w.heap.size [D,M] w (w.setCell ⟨D,1,none⟩ (.slice none 0 0)):=KeepEx.setCell _ (.inl (by simp)) _
 refine⟨⟨_,rfl⟩,⟨?_,?_,?_,?_⟩,k1.trans (KeepEx.grown hg1 (by simp) (by intro k e;cases e;left;simp))⟩
 ·exact bD1.grown hg1 (by simp;omega)
 ·refine z0c m.sta fun g e=>?_
  cases e;rw[hg1.block S (by simpa using (m.sta.lt S rfl).2) (by simp;omega)]
  exact Below.heap_setCell _ _ _ _ (fun e=>n1 e.symm)
 ·exact World.ownsRow_nil _ _ _ _
 ·exact hM2
def z2S (w:World)(p:Addr)(vs:List Value):Prop:=p.spot=none∧∀j u,vs[j]?=some u→w.cell? ⟨p.block,p.off+j,none⟩=some u
theorem z1P (b o j:Nat):(⟨b,o,none⟩:Addr).add j=⟨b,o+j,none⟩:=by unfold Addr.add;split<;>simp_all
theorem Blk.at_ {w:World}{g:Nat}{t:TypeId}{cs:Array Value}(h:Blk w g t cs)(o:Nat)(vs:List Value)(hv:∀j u,vs[j]?=some u→cs[o+j]?=some u):z2S w ⟨g,o,none⟩ vs:=
 ⟨rfl,fun j u hu=>(h.cells (o+j)).trans (hv j u hu)⟩
theorem z0P {P:Program}{w:World}{ty:TypeId}{p:Addr}{vs:List Value}(h:z2S w p vs)(hag:(isAgg ty).run P w=.ok true w)(hsz:(sizeOf ty).run P w=.ok vs.length w):
  (Instr.loadAt ty (.pointer (some p))).run P w=.ok (.agg vs.toArray) w:=by
 obtain⟨b,o,sp⟩:=p;obtain⟨hs,hc⟩:=h;simp only at hs
 subst hs;have hl:=run_loadCells_list (P:=P) w ⟨b,o,none⟩ vs (fun j v hv=>by rw[z1P];exact hc j v hv)
 simp only[Instr.loadAt,Instr.sureAddr,Sem.run_bind,Sem.run_pure,Result.andThen_ok,loadVar,hag,hsz,if_true,hl]
theorem z0W {P:Program}{w:World}{ty t:TypeId}{g o:Nat}{cur:Array Value}{vs:List Value}(h:Blk w g t cur)(ho:o+vs.length≤cur.size)(h1:∀v∈vs,v.oneCell'=true)(hsz:(sizeOf ty).run P w=.ok vs.length w):
  (Instr.storeAt ty (.pointer (some ⟨g,o,none⟩)) (.agg vs.toArray)).run P w=.ok () (w.setRow g (cur.toList.take o++vs++cur.toList.drop (o+vs.length)).toArray):=by
 have hst:=run_storeCells_at P g o t vs 0 cur w h (by simpa using ho) h1
 simp only[Nat.add_zero]at hst;simp only[Instr.storeAt,Instr.sureAddr,Sem.run_bind,Sem.run_pure,Result.andThen_ok,storeVar,hsz,Value.cells,List.size_toArray,ne_eq,not_true_eq_false,if_false,hst]
theorem z3p {P:Program}{ops:Array Oper}{rest:List Oper}{o:Oper}{a:Act}{w:World}{Q:Act→Prop}(hgd:o.guard=none)(ty:TypeId)(x:Operand)(ho:o.op=.load ty x)(v p:Value)
  (hx:a.eval x=p) (hrun:(Instr.loadAt ty p).run P w=.ok v w) (h:wpStill P ops w Q rest (a.put o.dst v)):wpStill P ops w Q (o::rest) a:=by
 refine wpStill_step fun K hK=>?_
 simp only[Region.wanted,hgd,if_true];unfold Oper.still execOp;simp only[ho,hx,Sem.run_bind,Sem.run_pure,Result.andThen_ok,hrun,Oper.stillUpon_value];exact hK _ h
theorem z4c {P:Program}{ops:Array Oper}{rest:List Oper}{o:Oper}{a:Act}{w:World}{Q:Exit→Act→World→Prop}(hgd:o.guard=none)(ty:TypeId)(x:Operand)(ho:o.op=.load ty x)(v p:Value)
  (hx:a.eval x=p) (hrun:(Instr.loadAt ty p).run P w=.ok v w) (h:wpList P ops Q rest (a.put o.dst v) w):wpList P ops Q (o::rest) a w:=by
 refine wpList_plain hgd fun _ hK=>?_
 unfold Oper.wp execOp;simp only[ho,hx,Sem.run_bind,Sem.run_pure,Result.andThen_ok,hrun];exact hK _ _ h
theorem z01 {P:Program}{ops:Array Oper}{rest:List Oper}{o:Oper}{a:Act}{w w':World}{Q:Exit→Act→World→Prop}(hgd:o.guard=none)(ty:TypeId)(x y:Operand)(ho:o.op=.store ty x y)(p v:Value)
  (hx:a.eval x=p) (hy:a.eval y=v) (hrun:(Instr.storeAt ty p v).run P w=.ok () w') (h:wpList P ops Q rest (a.put o.dst undef) w'):wpList P ops Q (o::rest) a w:=by
 refine wpList_plain hgd fun _ hK=>?_
 unfold Oper.wp execOp;simp only[ho,hx,hy,Sem.run_bind,Sem.run_pure,Result.andThen_ok,hrun];exact hK _ _ h
theorem z4J {w:World}{base:Nat}{e:TypeId}{size g n cap:Nat}{xs:List Value}(h:w.ownsRow base e size (.slice (some ⟨g,0,none⟩) n cap) n xs)(o:Nat)(vs:List Value)(ho:o+vs.length≤n*size):
  ∃cur,Blk w g e cur∧o+vs.length≤cur.size∧(w.setRow g (cur.toList.take o++vs++cur.toList.drop (o+vs.length)).toArray).ownsRow base e size (.slice (some ⟨g,0,none⟩) n cap) n (xs.take o++vs++xs.drop (o+vs.length)):=by
 rcases h.2 with ⟨h',_⟩|⟨g',cap',cur,h',hb,hg,hnc,hcm,hcs,htake⟩
 ·simp at h'
 ·simp only[Value.slice.injEq,Option.some.injEq,Addr.mk.injEq,and_true,true_and]at h';obtain⟨rfl,rfl⟩:=h';have hl:n*size≤cur.size:=by rw[hcs];exact Nat.mul_le_mul_right _ hnc
  have hxl:=h.1;refine⟨cur,hg,by omega,⟨?_,.inr ⟨g,cap,_,rfl,hb,setRow_heap w g cur _ e _ hg,hnc,hcm,?_,?_⟩⟩⟩
  ·rw[zhF,zhF,zi6,zi7];omega
  ·simp only[List.size_toArray,zhF,zi6,zi7,Array.length_toList];omega
  ·subst htake;have e1:min o cur.size=o:=Nat.min_eq_left (by omega)
   have e2:min o (n*size)=o:=Nat.min_eq_left (by omega)
   simp only[List.take_append,List.take_take,zhF,zi6,Array.length_toList,e1,e2];rw[Nat.min_eq_right (by omega:o≤n*size),List.take_of_length_le (by omega:vs.length≤n*size - o),List.drop_take]
theorem z5D {α:Type}{f:α→List Value}{m:Nat}:∀ {l:List α},(∀s∈l,(f s).length=m)→∀ {i:Nat} {s:α} (_:(f s).length=m) (_:i<l.length),(l.set i s).flatMap f=(l.flatMap f).take (i*m)++f s++(l.flatMap f).drop (i*m+(f s).length)
 | [],_,i,s,_,hi=>by simp at hi
 | t::r,h,i,s,hs,hi=>by
  have ht:=h t (by simp)
  cases i with
  | zero=>
   simp only[zhu,zhN,Nat.zero_mul,zi2,zi3,zi8];rw[hs,←ht,List.drop_left]
  | succ i=>
   have ih:=z5D (fun s hs=>h s (by simp[hs])) hs (by simpa using hi) (l:=r) (i:=i)
   simp only[zhv,zhN,ih];rw[show (i+1)*m=(f t).length+i*m by rw[ht,Nat.add_mul];omega,List.take_length_add_append,Nat.add_assoc,List.drop_length_add_append]
   simp[List.append_assoc]
def z0B (st:List (List Int))(c:List (Int × List Int)):List (List Int):=c.foldl (fun st p=>st.set p.1.toNat p.2) st
theorem z0e (st:List (List Int))(c:List (Int × List Int)):(z0B st c).length=st.length:=by
 unfold z0B;induction c generalizing st with
 | nil=>rfl
 | cons p r ih=>rw[List.foldl_cons,ih,List.length_set]
theorem z3q {st:List (List Int)}{c:List (Int × List Int)}{k:Nat}(hk:k<c.length):z0B st (c.take (k+1))=(z0B st (c.take k)).set c[k].1.toNat c[k].2:=by
 unfold z0B;rw[zhE hk,List.foldl_append];rfl
theorem z2A {st:List (List Int)}{c:List (Int × List Int)}(h:∀s∈st,s.length=128∧z0V s)(hc:∀p∈c,p.2.length=128∧z0V p.2):∀s∈z0B st c,s.length=128∧z0V s:=by
 unfold z0B;induction c generalizing st with
 | nil=>exact h
 | cons p r ih=>
  rw[List.foldl_cons];refine ih ?_ (fun q hq=>hc q (by simp[hq]))
  intro s hs;rcases List.mem_or_eq_of_mem_set hs with hs|hs
  ·exact h s hs
  ·subst hs;exact hc p (by simp)
def DevS.flushed (x:DevS):DevS:={ x with stable:=z0B x.stable x.cache,cache:=[] }
theorem DevS.Ok.flushed {x:DevS}(h:x.Ok):x.flushed.Ok:=
 ⟨by show 64≤(z0B _ _).length;rw[z0e];exact h.lo,by show (z0B _ _).length≤256;rw[z0e];exact h.hi,z2A h.sec (fun p hp=>(h.cac p hp).2.2),fun p hp=>(by cases hp),by show 0≤400;omega,h.tk,h.pw⟩
theorem Tryz.infoDvW:(prog.info? 130).map (fun i=>(i.zero,i.size))=some (some (.agg (#[.int .i64 0]++fill (.int .u8 0) 128)),129):=by kernel_rfl
theorem zeo (w:World):(zeroValue 130).run prog w=.ok (.agg (dwV (0,zsec)).toArray) w:=by
 have h:=(zero_of_info Tryz.infoDvW).1 w;have e:(dwV (0,zsec)).toArray=#[.int .i64 0]++fill (.int .u8 0) 128:=by
  unfold dwV secV;have:=z3F 128
  unfold z03 at this;rw[←this];show _=#[Value.int .i64 0]++(zsec.map (Value.int .u8)).toArray
  generalize zsec.map (Value.int .u8)=l;simp
 rw[e];exact h
theorem z6b (w:World):(sizeOf 130).run prog w=.ok 129 w:=by kernel_rfl
theorem zcF (w:World):(isAgg 130).run prog w=.ok true w:=by kernel_rfl
theorem z3r (w:World):(sizeOf 128).run prog w=.ok 128 w:=by kernel_rfl
theorem z9g (w:World):(isAgg 128).run prog w=.ok true w:=by kernel_rfl
theorem z3H (s:List Int):∀v∈secV s,v.oneCell'=true:=by
 intro v hv;unfold secV at hv;simp at hv;obtain⟨_,_,rfl⟩:=hv;rfl
theorem z3o (p:Int × List Int):∀v∈dwV p,v.oneCell'=true:=by
 intro v hv;rcases List.mem_cons.1 hv with rfl|hv
 ·rfl
 ·exact z3H _ v hv
theorem z7s (D S c M:Nat)(cv:Value)(x:DevS)(ok:x.Ok)(w:World)(m:DevMem w D S c M cv x):
  Calls prog 185 #[.pointer (some ⟨D,0,none⟩)] w fun e w'=>(∃v,e=.returned v)∧DevMem w' D S c M (.slice none 0 0) x.flushed∧KeepEx w.heap.size [D,S,M] w w':=by
 obtain⟨n1,n2,n3,n4,n5,n6⟩:=m.ne;have hz:=zeo;obtain⟨A,cc,g,hcv,hA⟩:=z4W m;subst hcv;have hL:=ok.len;have hN:=ok.hi;have bD:=m.dev;unfold devC at bD;have cD:=bD.cells;have lD:=bD.lt;go_enter func185,ntmps185
 go_wp2_with fail
 go_loopw [3,10] (fun _ q wr=>∃k:Nat,k≤x.cache.length∧q=.int .i64 k∧DevMem wr D S c M (.slice A x.cache.length cc) { x with stable:=z0B x.stable (x.cache.take k) }∧KeepEx w.heap.size [D,S,M] w wr) (fun _ q _=>x.cache.length - (intOf q).toNat)
 case atStart=>exact⟨0,by omega,rfl,m,KeepEx.refl _ _ _⟩
 case round=>
  obtain⟨k,hk,rfl,mk,hx⟩:=hrel;clear cD;by_cases hlt:k<x.cache.length
  ·have hA':=hA (by omega)
   subst hA';obtain⟨h0,h1,h2,h3⟩:=ok.cac _ (zhQ hlt);have bDk:=mk.dev;unfold devC at bDk;have cDk:=bDk.cells;obtain⟨p,hp⟩:∃p,x.cache[k]=p:=⟨_,rfl⟩;have hstep:=z3q (st:=x.stable) hlt;rw[hp]at h0 h1 h2 h3 hstep;have hEl:z2S wr ⟨g,k*129,none⟩ (dwV p):=⟨rfl,fun j u hu=>z2n mk.cac (by
    have hj:j<129:=by have:=(zhM.1 hu).1;rw[z0I,h2]at this;exact this
    show (x.cache.flatMap dwV)[k*129+j]?=some u
    rw[z1r (fun q hq=>by rw[z0I,(ok.cac q hq).2.2.1]) hj hlt,hp];exact hu)⟩
   have hpl:(dwV p).length=129:=by rw[z0I,h2]
   have hld:=z0P (P:=prog) hEl (zcF wr) (by rw[hpl];exact z6b wr)
   have bX0:Blk (wr.alloc (.cells (dwV (0,zsec)).toArray 130)) wr.heap.size 130 (dwV (0,zsec)).toArray:=Blk.new _ _ _;have hpz:(dwV (0,zsec)).toArray.size=129:=by simp[z0I,z07]
   have hst:=z0W (P:=prog) (ty:=130) bX0 (o:=0) (vs:=dwV p) (by rw[hpz,hpl];omega) (z3o p) (by rw[hpl];exact z6b _)
   generalize dwV (0,zsec)=z0 at *;go_wp2_with (first
    | (refine z4c rfl _ _ rfl (.agg (dwV p).toArray) (.pointer (some ⟨g,k*129,none⟩)) rfl hld ?_)
    | (refine z01 rfl _ _ _ rfl _ _ rfl rfl hst ?_))
   have hz0:z0.drop 129=[]:=List.drop_eq_nil_of_le (by simpa using Nat.le_of_eq hpz)
   rw[hz0,zi5];obtain⟨W2,hW2⟩:∃W2,W2=(wr.alloc (.cells z0.toArray 130)).setRow wr.heap.size (dwV p).toArray:=⟨_,rfl⟩;rw[←hW2];have bX:Blk W2 wr.heap.size 130 (dwV p).toArray:=by rw[hW2];exact bX0.setRow
   have B2:Below wr.heap.size wr W2:=by rw[hW2];exact Below.setRow ((zho _ _).alloc (zhT _) _) (zhT _) _
   clear hW2 hst hld hEl hz0 bX0 hpz hz;have m2:DevMem W2 D S c M (.slice (some ⟨g,0,none⟩) x.cache.length cc) { x with stable:=z0B x.stable (x.cache.take k) }:=
    ⟨bDk.belowAll B2,z0a mk.sta B2,z0a mk.cac B2,z0j mk.map (B2.block M mk.map.lt)⟩
   have bD2:=m2.dev;simp only[devC,z0e]at bD2;have cD2:=bD2.cells;have cX:=bX.cells;have lX:=bX.lt;have lD2:=bD2.lt;have cX0:W2.cell? ⟨wr.heap.size,0,none⟩=some (.int .i64 p.1):=by rw[cX];rfl
   have hpl2:(secV p.2).length=128:=by rw[z0T,h2]
   have hld2:=z0P (P:=prog) (w:=W2.drew) (ty:=128) (p:=⟨wr.heap.size,1,none⟩) (vs:=secV p.2) (bX.drew.at_ 1 _ (fun j u hu=>by rw[Nat.add_comm];simpa[dwV]using hu)) (z9g _) (by rw[hpl2];exact z3r _)
   obtain⟨pn,hpn⟩:=Int.eq_ofNat_of_zero_le h0;rw[hpn]at h1 cX0;clear cX cDk bDk;refine wp_region_still_tail 10 (by kernel_rfl) (by kernel_rfl) ?_
   simp only[List.take_succ_cons,zi2,List.drop_succ_cons,List.drop_zero];change wpStill _ _ W2.drew _ _ _
   repeat (first|(refine z3p rfl _ _ rfl (.agg (secV p.2).toArray) (.pointer (some ⟨wr.heap.size,1,none⟩)) rfl hld2 ?_)|still_step)
   refine wpStill_nil ?_;change wpList _ _ _ _ _ W2.drew
   obtain⟨cur,bS,hfit,own'⟩:=z4J m2.sta (pn*128) (secV p.2) (by simp only[z0e];rw[hpl2];omega)
   have hst2:=z0W (P:=prog) (w:=W2.drew) (ty:=128) bS hfit (z3H p.2) (by rw[hpl2];exact z3r _)
   obtain⟨W3,hW3⟩:∃W3,W3=W2.drew.setRow S (cur.toList.take (pn*128)++secV p.2++cur.toList.drop (pn*128+(secV p.2).length)).toArray:=⟨_,rfl⟩;rw[←hW3]at hst2;have hx3:KeepEx w.heap.size [D,S,M] w W3:=(hx.trans (KeepEx.of_below (B2.mono hx.size))).trans (by rw[hW3];exact(KeepEx.of_below (zho _ _).drew).trans (KeepEx.setRow _ (.inl (by simp)) _))
   have m3:DevMem W3 D S c M (.slice (some ⟨g,0,none⟩) x.cache.length cc) { x with stable:=z0B x.stable (x.cache.take (k+1)) }:=by
    rw[hW3];refine⟨?_,?_,?_,?_⟩
    ·have:=bD2.drew.rowFar (cs':=(cur.toList.take (pn*128)++secV p.2++cur.toList.drop (pn*128+(secV p.2).length)).toArray) n1
     simp only[devC,z0e];exact this
    ·rw[hstep,z5D (f:=secV) (m:=128) (fun s hs=>by rw[z0T];exact(z2A ok.sec (fun q hq=>(ok.cac q (List.mem_of_mem_take hq)).2.2) s hs).1) hpl2 (by rw[z0e];omega),hpn]
     simp only[List.length_set,z0e]at own' ⊢;exact own'
    ·exact z0c m2.cac fun j e=>z0b _ _ _ _ (fun e'=>by subst e';exact n6 e)
    ·exact z0j m2.map (z0b _ _ _ _ (fun e'=>n3 e'.symm))
   clear hW3 own' bS hfit hstep hpn;go_wp2_with (refine z01 rfl _ _ _ rfl _ _ rfl rfl hst2 ?_)
   go_roundw
   case rel=>exact⟨k+1,by omega,by go_num,m3,hx3⟩
   case measure=>simp[intOf];omega
  ·obtain rfl:k=x.cache.length:=by omega
   rw[zia]at mk;go_wp2_with fail
   refine(z8z D S c M _ _ wr mk).mono ?_;rintro e w1 ⟨⟨v,rfl⟩,m1,hx1⟩;go_wp2_with fail
   go_end0
   refine⟨⟨_,rfl⟩,m1,hx.trans ⟨hx1.os,hx1.tape,hx1.output,hx1.size,fun b hb hn=>hx1.block b (by have:=hx.size;omega) (by simp at hn ⊢;omega)⟩⟩
theorem zgK (Z:Array Value)(hZ:Z.size=129)(a:Int)(s:List Int)(hl:s.length=128):
  Instr.fill (fun i=>#[(0,1),(1,128)][i]?) Z [(0,.int .i64 a),(1,.agg (secV s).toArray)]=some (dwV (a,s)).toArray:=by
 have hsl:(secV s).length=128:=by rw[z0T,hl]
 unfold dwV;generalize secV s=l at hsl;simp[Instr.fill,Value.cells,hZ,hsl]
 obtain⟨h1,h2⟩:=Great.foldl_set 1 l 0 (Z.setIfInBounds 0 (.int .i64 a));apply Array.ext_getElem?
 intro k;rw[h2 k];simp only[Array.size_setIfInBounds,hZ,hsl];cases k with
 | zero=>simp[hZ]
 | succ k=>
  simp only[List.getElem?_toArray,zhD];by_cases hk:k<128
  ·rw[if_pos (by omega),show k+1 - (1+0)=k by omega]
  ·rw[if_neg (by omega),List.getElem?_eq_none (by omega),Array.getElem?_eq_none (by simp[hZ];omega)]
theorem z8I (a:Int)(s:List Int)(hl:s.length=128):prog.built 130 [(0,.int .i64 a),(1,.agg (secV s).toArray)]=some (dwV (a,s)).toArray:=by
 have e:prog.built 130 [(0,.int .i64 a),(1,.agg (secV s).toArray)]=Instr.fill (fun i=>#[(0,1),(1,128)][i]?) (#[.int .i64 0]++fill (.int .u8 0) 128) [(0,.int .i64 a),(1,.agg (secV s).toArray)]:=by kernel_rfl
 rw[e];exact zgK _ (by rw[Array.size_append,z6H];rfl) a s hl
theorem z9b (a:Int)(s:List Int)(hl:s.length=128)(w:World):(Instr.build 130 #[(0,.int .i64 a),(1,.agg (secV s).toArray)]).run prog w=.ok (.agg (dwV (a,s)).toArray) w:=
 run_build w _ _ _ (z8I a s hl)
theorem z2N (p:Int × List Int)(hl:p.2.length=128)(w:World):(Instr.buildSlice 32 1 #[(0,.agg (dwV p).toArray)]).run prog w=.ok (.slice (some ⟨w.heap.size,0,none⟩) 1 1) (w.alloc (.cells (dwV p).toArray 130)):=by
 obtain⟨ie,hie⟩:∃ie,prog.info? 130=some ie:=by
  have:=Tryz.infoDvW
  cases h:prog.info? 130 with
  | none=>rw[h]at this;cases this
  | some ie=>exact⟨ie,rfl⟩
 have h2:=Tryz.infoDvW;rw[hie]at h2;simp only[Option.map_some,Option.some.injEq,Prod.mk.injEq]at h2;have hpl:(dwV p).length=129:=by rw[z0I,hl]
 have hzs:(#[Value.int .i64 0]++fill (.int .u8 0) 128).size=129:=by rw[Array.size_append,z6H];rfl
 refine run_buildSlice w _ 130 1 _ _ ie _ underlying32 hie h2.1 (by rw[h2.2];decide) (by rw[h2.2];decide) ?_
 have:=Great.fill_whole (s:=129) (by omega) [.agg (dwV p).toArray] ((Array.range (1*129)).map fun i=>(#[Value.int .i64 0]++fill (.int .u8 0) 128)[i % (#[Value.int .i64 0]++fill (.int .u8 0) 128).size]!) (by intro v hv;simp at hv;subst hv;simpa[Value.cells]using hpl) (by simp)
 rw[h2.2];simpa[Value.cells]using this
theorem z4g (D:Nat)(F:List Nat)(x:DevS)(w:World)(h:DevAt w D F x):
  Calls prog 121 #[.pointer (some ⟨D,0,none⟩)] w fun e w'=>e=.returned (.int .i64 (z5c x.off))∧DevAt w' D F (if x.off then x else x.flushed)∧Grow w F w' F:=by
 obtain⟨ok,hH,⟨S,c,M,cv,m,hD,hS,hM,hC⟩,lt⟩:=h;have hr:=z8T D S x.stable.length c cv x.taken x.power x.off M w m.dev;by_cases ho:x.off=true
 ·rw[ho]at hr;rw[ho,if_pos rfl];have h:DevAt w D F x:=⟨ok,hH,⟨S,c,M,cv,m,hD,hS,hM,hC⟩,lt⟩;clear m ho;go_enter func121,ntmps121
  go_wp2_with fail
  refine hr.mono ?_;rintro e w1 ⟨rfl,rfl⟩;go_wp2_with fail
  go_ret
  exact⟨rfl,h,Grow.refl _ _⟩
 ·have ho:x.off=false:=by simpa using ho
  rw[ho]at hr;rw[ho,if_neg (by simp)]
  have hst:=z7s D S c M cv x ok w m;go_enter func121,ntmps121
  go_wp2_with fail
  refine hr.mono ?_;rintro e w1 ⟨rfl,rfl⟩;go_wp2_with fail
  refine hst.mono ?_;rintro e w2 ⟨⟨v,rfl⟩,m2,hx⟩;go_wp2_with fail
  go_ret
  have h0:0∉F:=fun hm=>by have:=(lt 0 hm).1;omega
  have hg:Grow w1 F w2 F:=⟨⟨hx.os,hx.tape,hx.output,hx.size,fun k hk hn=>hx.block k hk (by simp;exact⟨fun e=>hn (e▸hD),fun e=>hn (e▸hS),fun e=>hn (e▸hM)⟩)⟩,fun b hb=>.inl hb⟩
  exact⟨rfl,⟨ok.flushed,hg.half hH h0,⟨S,c,M,_,m2,hD,hS,hM,fun g e=>by simp[Value.ownBlock]at e⟩,fun b hb=>⟨(lt b hb).1,zhR (lt b hb).2 hx.size⟩⟩,hg⟩
theorem z4t (us:List Bool):∀u∈us.map Value.bool,u.oneCell'=true:=by
 intro u hu;simp at hu;rcases hu with ⟨_,rfl⟩|⟨_,rfl⟩<;>rfl
theorem z4v (A:Option Addr)(c:Nat)(us:List Bool)(w:World)(hR:Reads w A (us.map .bool))(hA:A≠none)(hn:us.length≤1000):
  Calls prog 153 #[.slice A us.length c] w fun e w'=>∃v,e=.returned v∧w'.ownsRow w.heap.size 4 1 v us.length (us.map .bool)∧Below w.heap.size w w':=by
 obtain⟨i0,hi,hz0,hz1,hz2⟩:=info_parts Tryz.info4;have hm:=z4t us;obtain⟨ad,rfl⟩:=Option.ne_none_iff_exists'.1 hA;have hnil:=fun (w:World)=>Lib.run_eql_slice_nil (P:=prog) w 45 4 (some ad) us.length c 0 0 underlying45
 go_enter func153,ntmps153
 go_wp2_with (at_builtin;refine z34 _ rfl (.tmp 5) (.tmp 6) _ rfl w.heap.size 4 i0 (.bool false) 1 underlying45 hi hz0 hz1 hz2 rfl (.slice (some ⟨w.heap.size,0,none⟩) 0 0) 0 [] rfl (World.ownsRow_made w #[] 0 (zhT _) (by simp) rfl) (some ad) us.length c (us.map .bool) rfl (by simp) (by simp) (hR.alloc _) hm (by simp only[maxLen];omega) (by omega) (by simp) ?_;intro v1 w1 hown1 hg1 hat1)
 go_ret
 refine⟨v1,rfl,by simpa using hown1,((zho _ _).alloc (zhT _) _).grown hg1 (by simp) (fun k hk=>?_)⟩
 simp[Value.ownBlock]at hk;omega
end Go.Proofs.YtejmknghkbobnaaGreatDoor
