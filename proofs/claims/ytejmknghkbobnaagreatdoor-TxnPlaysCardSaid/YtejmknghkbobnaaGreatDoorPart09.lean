import Derived.Test.YtejmknghkbobnaaGreatDoorPart00
import Derived.Test.YtejmknghkbobnaaGreatDoorPart08
import Derived.Test.YtejmknghkbobnaaGreatDoorPart06
import Derived.Test.YtejmknghkbobnaaGreatDoorPart07
import Derived.Test.YtejmknghkbobnaaGreatDoorPart04
import Derived.Maps.AppendAt
set_option linter.unusedVariables false
set_option linter.unusedSimpArgs false
set_option maxRecDepth 100000
set_option maxHeartbeats 8000000
namespace Go.Proofs.YtejmknghkbobnaaGreatDoor
open Go.Proofs.Tryz
open Go.RowKit
theorem zbs (c r:List Int)(a:Int)(k:Nat)(hk:k≤c.length):z1J (c++r) a k=z1J c a k:=by
 induction k with
 | zero=>rfl
 | succ k ih=>
  unfold z1J;rw[ih (by omega),zhw,zhA (by omega),zhw]
theorem zaf (c:List Int)(a b:Int):z1J (c++[a]) b (c.length+1)=if a=b then some c.length else z1J c b c.length:=by
 show (if (c++[a]).getD c.length 0=b then some c.length else z1J (c++[a]) b c.length)=_
 rw[zbs c [a] b c.length (zhT _)];have:(c++[a]).getD c.length 0=a:=by
  rw[zhw,zhB (zhT _)];simp
 rw[this]
theorem z9S (x:DevS)(a:Int)(s:List Int)(b:Int):(x.added a s).reads b=if b=a then s else x.reads b:=by
 have hi:(x.added a s).idx b=if a=b then some x.cache.length else x.idx b:=by
  show z1J (z1H (x.cache++[(a,s)])) b (x.cache++[(a,s)]).length=_
  have e:z1H (x.cache++[(a,s)])=z1H x.cache++[a]:=by unfold z1H;simp
  have h:=zaf (z1H x.cache) a b;rw[z1y]at h;rw[e,zhF];exact h
 have hu:(x.added a s).reads b=match (x.added a s).idx b with|some i=>((x.cache++[(a,s)]).getD i (0,[])).2|none=>x.stable.getD b.toNat []:=rfl
 have hv:x.reads b=match x.idx b with|some i=>(x.cache.getD i (0,[])).2|none=>x.stable.getD b.toNat []:=rfl
 rw[hu,hi,hv];by_cases h:a=b
 ·subst h;simp
 ·rw[if_neg h,if_neg (fun e=>h e.symm)]
  cases hx:x.idx b with
  | none=>rfl
  | some i=>
   have hl:=(z4A hx).1;simp[zhw,zhA hl]
theorem z5S (st:List (List Int))(c:List (Int × List Int))(b:Nat)(hb:b<st.length)(hc:∀p∈c,0≤p.1):∀k,k≤c.length→(z0B st (c.take k)).getD b []=match z1J (z1H c) (b:Int) k with|some i=>(c.getD i (0,[])).2|none=>st.getD b []
 | 0,_=>rfl
 | k+1,hk=>by
  have hlt:k<c.length:=by omega
  have ih:=z5S st c b hb hc k (by omega)
  rw[z3q hlt];have h0:=hc _ (zhQ hlt);have ha:(z1H c).getD k 0=c[k].1:=by unfold z1H;simp[hlt]
  show _=(match (if (z1H c).getD k 0=(b:Int)then some k else z1J (z1H c) (b:Int) k)with|some i=>(c.getD i (0,[])).2|none=>st.getD b [])
  rw[ha];by_cases e:c[k].1=(b:Int)
  ·rw[if_pos e,e,zhU];simp[List.getElem?_set,hlt,z0e,hb]
  ·rw[if_neg e,←ih,zhw,List.getElem?_set,if_neg (by omega),zhw]
theorem z3d {x:DevS}(ok:x.Ok){b:Int}(hb:0≤b∧b<x.stable.length):x.flushed.reads b=x.reads b:=by
 have h:=z5S x.stable x.cache b.toNat (by omega) (fun p hp=>(ok.cac p hp).1) x.cache.length (zhT _)
 rw[zia,show ((b.toNat:Nat):Int)=b by omega]at h
 exact h
theorem zbn {x:DevS}(ok:x.Ok){b:Int}(hb:0≤b∧b<x.stable.length):x.room.reads b=x.reads b:=by
 unfold DevS.room;split
 ·exact z3d ok hb
 ·rfl
structure DevS.Runs (x:DevS)(n:Nat):Prop where
 ok:x.Ok
 on:x.off=false
 pw:x.power=-1
 tk:x.taken+n≤1000000000000
theorem DevS.Runs.mono {x:DevS}{n m:Nat}(h:x.Runs n)(hm:m≤n):x.Runs m:=⟨h.ok,h.on,h.pw,by have:=h.tk;omega⟩
structure DevS.Like (x y:DevS):Prop where
 size:y.stable.length=x.stable.length
 reads:∀b:Int,0≤b→b<x.stable.length→y.reads b=x.reads b
theorem z6L {x:DevS}(h:x.off=false){a:Int}(ha:0≤a∧a<x.stable.length):x.atE a=0:=by
 show Go.Proofs.YtejmknghkbobnaaGreatDoor.atE x.off x.stable.length a=0
 unfold Go.Proofs.YtejmknghkbobnaaGreatDoor.atE;rw[h,if_neg (by simp),if_neg (by omega)]
theorem z7d {x:DevS}{n:Nat}(h:x.Runs (n+1)){a:Int}(ha:0≤a∧a<x.stable.length){s:List Int}(hs:s.length=128∧z0V s):
  (x.write a s).1=0∧(x.write a s).2.Runs n∧(x.write a s).2.stable.length=x.stable.length∧∀b:Int,0≤b→b<x.stable.length→(x.write a s).2.reads b=if b=a then s else x.reads b:=by
 have hok:=h.ok.write a hs;have htk:=h.tk;have h0:=h.ok.tk;obtain⟨h1,h2,h3,h4,h5,h6⟩:=h.ok.room;unfold DevS.write at hok ⊢;rw[if_neg (by rw[z6L h.on ha];simp),if_neg (by rw[h.pw];omega)]at hok ⊢
 refine⟨rfl,⟨hok,h6.trans h.on,?_,?_⟩,h3,?_⟩
 ·show (if 0<x.room.power then _ else x.room.power)=-1
  rw[h5,h.pw];rfl
 ·show x.room.taken+1+_≤_
  rw[h4];omega
 ·intro b hb1 hb2;show (x.room.added a s).reads b=_
  rw[z9S,zbn h.ok ⟨hb1,hb2⟩]
theorem zbw {x:DevS}{n:Nat}(h:x.Runs n):x.flushed.Runs n∧x.Like x.flushed:=
 ⟨⟨h.ok.flushed,h.on,h.pw,h.tk⟩,⟨z0e _ _,fun _ h1 h2=>z3d h.ok ⟨h1,h2⟩⟩⟩
structure Fr where
 kind:Int
 seq:Int
 data:ByteArray
deriving DecidableEq,Inhabited
def noFr:Fr:=⟨0,0,⟨#[]⟩⟩
def DevS.ge (x:DevS)(a:Int):Int:=(x.get a).1
def DevS.fr (x:DevS)(a:Int):Fr:=if x.ge a=0 then ⟨(x.reads a).getD 1 0,z0o (x.reads a) 4,z0t (x.reads a)⟩else noFr
def frV (f:Fr):Array Value:=#[.int .i64 f.kind,.int .u32 f.seq,.string f.data]
theorem zfB (x:DevS)(a:Int):x.get a=(x.ge a,frV (x.fr a)):=by
 unfold DevS.fr DevS.ge DevS.get getE getV z5O;by_cases h1:Go.Proofs.YtejmknghkbobnaaGreatDoor.atE x.off x.stable.length a=0
 ·rw[if_pos h1,if_pos h1];by_cases h2:z1g a (x.reads a)=0
  ·rw[h2,if_pos rfl];rfl
  ·rw[if_neg h2];simp only[if_neg h2];rfl
 ·rw[if_neg h1,if_neg h1];simp only[if_neg h1];rfl
def sameFr (x y:DevS)(b:Int):Prop:=y.ge b=x.ge b∧y.fr b=x.fr b
theorem z58 {x y:DevS}{b:Int}(ho:y.off=x.off)(hl:y.stable.length=x.stable.length)(hr:y.reads b=x.reads b):sameFr x y b:=by
 have h:y.get b=x.get b:=by unfold DevS.get;rw[ho,hl,hr]
 have h1:y.ge b=x.ge b:=by unfold DevS.ge;rw[h]
 exact⟨h1,by unfold DevS.fr;rw[h1,hr]⟩
def DevS.put (x:DevS)(a kind seq:Int)(s:ByteArray):Int × DevS:=if z11 a kind s.size=0 then x.write a (z15 a kind seq s)else (z11 a kind s.size,x)
theorem zcg {x:DevS}{a kind seq:Int}{s:ByteArray}(ho:x.off=false)(ha:0≤a∧a<x.stable.length)(hE:z11 a kind s.size=0)(hq:0≤seq∧seq<4294967296)(hr:x.reads a=z15 a kind seq s):
  x.ge a=0∧x.fr a=⟨kind,seq,s⟩:=by
 have hat:Go.Proofs.YtejmknghkbobnaaGreatDoor.atE x.off x.stable.length a=0:=z6L ho ha;obtain⟨-,-,-,-,hs⟩:=z3B hE;have h1:x.ge a=0:=by
  show getE x.off x.stable.length a (x.reads a)=0
  unfold getE;rw[if_pos hat,hr];exact z6R hE hq
 refine⟨h1,?_⟩
 unfold DevS.fr;rw[if_pos h1,hr,z9M hs,z8o hs hq,zeb hs]
theorem z5z {a kind:Int}{n:Nat}(ha:0≤a∧a<256)(hk:1≤kind∧kind≤255)(hn:n≤112):z11 a kind n=0:=by
 unfold z11;rw[if_neg (by omega),if_neg (by omega)]
structure DevS.Puts (x y:DevS)(n:Nat)(a:Int)(e:Int)(f:Fr):Prop where
 runs:y.Runs n
 size:y.stable.length=x.stable.length
 new:y.ge a=e∧y.fr a=f
 old:∀b:Int,0≤b→b<x.stable.length→b≠a→sameFr x y b
theorem z5C {x:DevS}{n:Nat}(h:x.Runs (n+1)){a kind seq:Int}{s:ByteArray}(ha:0≤a∧a<x.stable.length)(hk:1≤kind∧kind≤255)(hn:s.size≤112)(hq:0≤seq∧seq<4294967296):
  (x.put a kind seq s).1=0∧x.Puts (x.put a kind seq s).2 n a 0 ⟨kind,seq,s⟩:=by
 have hE:z11 a kind s.size=0:=z5z (by have:=h.ok.hi;omega) hk hn
 unfold DevS.put;rw[if_pos hE];obtain⟨h1,h2,h3,h4⟩:=z7d h ha ⟨z1n a kind seq s hn,z2x seq hE⟩;refine⟨h1,h2,h3,zcg h2.on (by rw[h3];exact ha) hE hq (by rw[h4 a ha.1 ha.2,if_pos rfl]),fun b hb1 hb2 hne=>?_⟩
 exact z58 (h2.on.trans h.on.symm) h3 (by rw[h4 b hb1 hb2,if_neg hne])
theorem zcv {x:DevS}{n:Nat}(h:x.Runs (n+1)){a:Int}(ha:0≤a∧a<x.stable.length):
  (x.write a zsec).1=0∧x.Puts (x.write a zsec).2 n a 70 noFr:=by
 obtain⟨h1,h2,h3,h4⟩:=z7d h ha ⟨z07,z29⟩;have hr:=h4 a ha.1 ha.2;rw[if_pos rfl]at hr;have hge:(x.write a zsec).2.ge a=70:=by
  show getE _ _ a _=70
  unfold getE;have hhi:=h.ok.hi;rw[if_pos (show Go.Proofs.YtejmknghkbobnaaGreatDoor.atE _ _ a=0 from z6L h2.on (by rw[h3];exact ha)),hr]
  unfold z1g;rw[if_neg (by omega),if_pos rfl]
 refine⟨h1,h2,h3,⟨hge,by unfold DevS.fr;rw[hge,if_neg (by decide)]⟩,fun b hb1 hb2 hne=>?_⟩
 exact z58 (h2.on.trans h.on.symm) h3 (by rw[h4 b hb1 hb2,if_neg hne])
theorem z3C {x:DevS}{n:Nat}(h:x.Runs n):x.flushed.Runs n∧x.flushed.stable.length=x.stable.length∧∀b:Int,0≤b→b<x.stable.length→sameFr x x.flushed b:=by
 obtain⟨h1,h2⟩:=zbw h;exact⟨h1,h2.size,fun b hb1 hb2=>z58 (h1.on.trans h.on.symm) h2.size (h2.reads b hb1 hb2)⟩
structure Rec where
 at_:Int
 kind:Int
 data:ByteArray
deriving DecidableEq,Inhabited
def recV (r:Rec):List Value:=[.int .i64 r.at_,.int .i64 r.kind,.string r.data]
theorem za7 (r:Rec):(recV r).length=3:=rfl
def z9r:Rec:=⟨0,0,⟨#[]⟩⟩
def bstr (l:List Int):ByteArray:=strOfNums l
def z0p (F Z:Int):Int:=if Z<8∨96<Z∨F<0∨256 - Z<F then 7 else 0
def z0U (F Z a:Int):Bool:=decide (F≤a∧a<F+Z)
def z0Z (Z:Int):Int:=min (Z - 2) 80
def z0k (n:Int):ByteArray:=bstr [n % 256,n / 256 % 256]
def DevS.flush (x:DevS):Int × DevS:=(z5c x.off,if x.off then x else x.flushed)
def DevS.blanks (x:DevS)(a:Int):Nat→Int × DevS
 | 0=>(0,x)
 | k+1=>if (x.blanks a k).1≠0 then x.blanks a k else (x.blanks a k).2.write (a+k) zsec
def DevS.jfmt (x:DevS)(F Z:Int):Int × DevS:=
 if z0p F Z≠0 then (z0p F Z,x)else
 if (x.put F 1 0 ⟨#[]⟩).1≠0 then x.put F 1 0 ⟨#[]⟩else
 if ((x.put F 1 0 ⟨#[]⟩).2.blanks (F+1) (Z - 1).toNat).1≠0 then (x.put F 1 0 ⟨#[]⟩).2.blanks (F+1) (Z - 1).toNat else
 ((x.put F 1 0 ⟨#[]⟩).2.blanks (F+1) (Z - 1).toNat).2.flush
def DevS.head (x:DevS)(F Z:Int):Int × Int:=
 if z0p F Z≠0 then (z0p F Z,0)else if x.ge F≠0 then (x.ge F,0)else if (x.fr F).kind≠1∨(x.fr F).data≠⟨#[]⟩then (6,0)else (0,(x.fr F).seq)
def recE (n F Z:Int)(l:List Rec)(r:Rec):Int:=
 if F≤r.at_∧r.at_<F+Z then 2 else if r.at_<0∨n≤r.at_∨r.kind<1∨255<r.kind then 7 else if 96<r.data.size then 3 else if r.at_∈l.map (·.at_)then 8 else 0
def z0N (n F Z:Int)(l:List Rec):Nat→Int
 | 0=>0
 | k+1=>if z0N n F Z l k≠0 then z0N n F Z l k else recE n F Z (l.take k) (l.getD k default)
def z0X (n F Z:Int)(l:List Rec):Int:=if z0Z Z<l.length then 12 else z0N n F Z l l.length
def DevS.puts (x:DevS)(l:List (Int × Fr)):Nat→Int × DevS
 | 0=>(0,x)
 | k+1=>if (x.puts l k).1≠0 then x.puts l k else (x.puts l k).2.put (l.getD k default).1 (l.getD k default).2.kind (l.getD k default).2.seq (l.getD k default).2.data
def logS (r:Rec):ByteArray:=⟨(z0k r.at_).data++(bstr [r.kind % 256]).data++r.data.data⟩
def logL (F q:Int)(l:List Rec):List (Int × Fr):=l.zipIdx.map fun p=>(F+1+p.2,⟨2,q,logS p.1⟩)
def appL (q:Int)(l:List Rec):List (Int × Fr):=l.map fun r=>(r.at_,⟨r.kind,q,r.data⟩)
def next (q:Int):Int:=(q+1) % 4294967296
def DevS.done (p:Int × DevS):Int × DevS:=if p.1≠0 then p else p.2.flush
def DevS.log (x:DevS)(F Z:Int)(l:List Rec):Int × DevS:=
 if (x.head F Z).1≠0 then ((x.head F Z).1,x)else
 if z0X x.stable.length F Z l≠0 then (z0X x.stable.length F Z l,x)else
 if (x.puts (logL F (next (x.head F Z).2) l) l.length).1≠0 then x.puts (logL F (next (x.head F Z).2) l) l.length else
 DevS.done ((x.puts (logL F (next (x.head F Z).2) l) l.length).2.put (F+1+l.length) 3 (next (x.head F Z).2) (z0k l.length))
def z0i (f:Fr):Rec:=if f.kind≠2∨f.data.size<3∨99<f.data.size then z9r else ⟨bits .or .i64 ((strL f.data).getD 0 0) ((strL f.data).getD 1 0*256),(strL f.data).getD 2 0,f.data.extract 3 f.data.size⟩
def z1F (n F Z:Int)(f:Fr):Bool:=if f.kind≠2∨f.data.size<3∨99<f.data.size then false else decide ((z0i f).at_<n)&&!z0U F Z (z0i f).at_&&decide (0<(z0i f).kind)
def z1c (e:Int):Bool:=e==1||e==13||e==7
structure Look where
 stop:Bool
 e:Int
 run:List Rec
 whole:Bool
deriving Inhabited
def DevS.lookTo (x:DevS)(F Z q:Int):Nat→Look
 | 0=>⟨false,0,[],false⟩
 | k+1=>if (x.lookTo F Z q k).stop then x.lookTo F Z q k else
  if z1c (x.ge (F+1+k))then ⟨true,x.ge (F+1+k),[],false⟩else
  if !(x.ge (F+1+k)==0&&(x.fr (F+1+k)).seq==next q)||!z1F x.stable.length F Z (x.fr (F+1+k))||decide ((z0i (x.fr (F+1+k))).at_∈(x.lookTo F Z q k).run.map (·.at_))||decide (((x.lookTo F Z q k).run.length:Int)=z0Z Z)then
   ⟨true,0,(x.lookTo F Z q k).run,(x.ge (F+1+k)==0&&(x.fr (F+1+k)).seq==next q)&&(x.fr (F+1+k)).kind==3&&decide ((x.fr (F+1+k)).data=z0k (x.lookTo F Z q k).run.length)⟩else
  ⟨false,0,(x.lookTo F Z q k).run++[z0i (x.fr (F+1+k))],false⟩
def DevS.look (x:DevS)(F Z:Int):Int × Int × List Rec × Bool:=
 if (x.head F Z).1≠0 then ((x.head F Z).1,0,[],false)else
 if (x.lookTo F Z (x.head F Z).2 (Z - 1).toNat).e≠0 then ((x.lookTo F Z (x.head F Z).2 (Z - 1).toNat).e,0,[],false)else
 (0,(x.head F Z).2,(x.lookTo F Z (x.head F Z).2 (Z - 1).toNat).run,(x.lookTo F Z (x.head F Z).2 (Z - 1).toNat).whole)
def DevS.applies (x:DevS)(q:Int)(l:List Rec):Int × DevS:=DevS.done (x.puts (appL (next q) l) l.length)
def DevS.apply (x:DevS)(F Z:Int):Int × Int × DevS:=
 if (x.look F Z).1≠0 then (0,(x.look F Z).1,x)else if (x.look F Z).2.2.2=false then (0,9,x)else
 if (x.applies (x.look F Z).2.1 (x.look F Z).2.2.1).1≠0 then (0,x.applies (x.look F Z).2.1 (x.look F Z).2.2.1)else ((x.look F Z).2.2.1.length,x.applies (x.look F Z).2.1 (x.look F Z).2.2.1)
def DevS.clear (x:DevS)(F Z:Int):Int × DevS:=if (x.head F Z).1≠0 then ((x.head F Z).1,x)else DevS.done (x.put F 1 (next (x.head F Z).2) ⟨#[]⟩)
def DevS.commit (x:DevS)(F Z:Int)(l:List Rec):Int × DevS:=
 if (x.log F Z l).1≠0 then x.log F Z l else
 if ((x.log F Z l).2.apply F Z).2.1≠0 then ((x.log F Z l).2.apply F Z).2 else
 ((x.log F Z l).2.apply F Z).2.2.clear F Z
open Go.Maps
theorem Tryz.infoSec3:(prog.info? 128).map (fun i=>(i.zero,i.size,i.bytes))=some (some (.agg (fill (.int .u8 0) 128)),128,128):=by kernel_rfl
theorem z0m {P:Program}{ops:Array Oper}{rest:List Oper}{o:Oper}{a:Act}{w w':World}{Q:Exit→Act→World→Prop}(hgd:o.guard=none)(s x:Operand)(t:TypeId)(ho:o.op=.call { callee:=.builtin .append,args:=#[s,x],argTypes:=#[t,t] })(p q v:Value)(hs:a.eval s=p)(hx:a.eval x=q)
  (hrun:(Builtin.append_ #[t,t] o.type #[p,q]).run P w=.ok v w') (h:wpList P ops Q rest (a.put o.dst v) w'):wpList P ops Q (o::rest) a w:=by
 refine wpList_plain hgd fun _ hK=>?_
 unfold Oper.wp execOp;simp only[ho,resolve,invoke,builtin,Sem.run_bind,Sem.run_pure,Result.andThen_ok,List.map_toArray,zhY,zhZ,hs,hx,hrun];exact hK _ _ h
theorem zdC (A:Option Addr)(n c:Nat)(xs:List Value)(hx:xs.length=n*128)(hn:n≤1000)(w:World)(hR:Reads w A xs)(hA:A=none→n=0)(h1:∀u∈xs,u.oneCell'=true):
  Calls prog 55 #[.slice A n c] w fun e w'=>∃v,e=.returned v∧w'.ownsRow w.heap.size 128 128 v n xs∧Below w.heap.size w w':=by
 obtain⟨i,z,hi,hz,hsz,hby,hzs⟩:∃i z,prog.info? 128=some i∧i.zero=some z∧i.size=128∧i.bytes=128∧z.cells.size=128:=by
  have h0:((prog.info? 128).bind fun i=>i.zero.map fun z=>(i.size,i.bytes,z.cells.size))=some (128,128,128):=by kernel_rfl
  cases hi:prog.info? 128 with
  | none=>rw[hi]at h0;cases h0
  | some i=>
   rw[hi]at h0;cases hz:i.zero with
   | none=>rw[Option.bind_some,hz]at h0;cases h0
   | some z=>
    rw[Option.bind_some,hz]at h0;simp only[Option.map_some,Option.some.injEq,Prod.mk.injEq]at h0;exact⟨i,z,rfl,hz,h0.1,h0.2.1,h0.2.2⟩
 have hnil:=fun (w:World)=>Lib.run_eql_slice_nil (P:=prog) w 31 128 A n c 0 0 underlying31
 rcases A with _|ad
 ·have hn0:=hA rfl;subst hn0;obtain rfl:xs=[]:=List.eq_nil_of_length_eq_zero (by omega)
  go_enter func55,ntmps55
  go_wp2_with fail
  go_ret
  exact⟨_,rfl,World.ownsRow_nil _ _ _ _,zho _ _⟩
 ·obtain⟨w0,hw0⟩:∃w0,w0=w.alloc (.cells #[] 128):=⟨_,rfl⟩;have hown0:w0.ownsRow w.heap.size 128 128 (.slice (some ⟨w.heap.size,0,none⟩) 0 0) 0 []:=by rw[hw0];exact World.ownsRow_made w #[] 0 (zhT _) (by simp) rfl
  have B0:Below w.heap.size w w0:=by rw[hw0];exact(zho _ _).alloc (zhT _) _
  have hcells:∀j u,xs[j]?=some u→w0.cell? (ad.add j)=some u:=fun j u hu=>by
   rcases hR.below B0 with h|⟨b,off,hb,hlt,hc⟩
   ·subst h;simp at hu
   ·cases hb;rw[z1P];exact hc j u hu
  obtain⟨v1,w1,hrun,hown1,hg1,-,hat1⟩:=run_append_own_at (P:=prog) w0 w.heap.size 31 31 128 i z 128 128 underlying31 hi hz hsz hby hzs (by omega) _ _ _ hown0 ad n c xs hx hcells h1 (by simp only[maxLen];omega) (by omega) B0.size
  go_enter func55,ntmps55
  go_wp2_with (refine z0m rfl _ _ _ rfl (.slice (some ⟨w.heap.size,0,none⟩) 0 0) (.slice (some ad) n c) v1 rfl rfl (by rw[←hw0];exact hrun) ?_)
  go_ret
  exact⟨v1,rfl,by simpa using hown1,B0.grown hg1 B0.size (fun k hk=>by simp[Value.ownBlock]at hk;omega)⟩
theorem zd0 (A:Option Addr)(n c:Nat)(xs:List Value)(hx:xs.length=n*129)(hn:n≤1000)(w:World)(hR:Reads w A xs)(hA:A=none→n=0)(h1:∀u∈xs,u.oneCell'=true):
  Calls prog 56 #[.slice A n c] w fun e w'=>∃v,e=.returned v∧w'.ownsRow w.heap.size 130 129 v n xs∧Below w.heap.size w w':=by
 obtain⟨i,z,hi,hz,hsz,hby,hzs⟩:∃i z,prog.info? 130=some i∧i.zero=some z∧i.size=129∧i.bytes=136∧z.cells.size=129:=by
  have h0:((prog.info? 130).bind fun i=>i.zero.map fun z=>(i.size,i.bytes,z.cells.size))=some (129,136,129):=by kernel_rfl
  cases hi:prog.info? 130 with
  | none=>rw[hi]at h0;cases h0
  | some i=>
   rw[hi]at h0;cases hz:i.zero with
   | none=>rw[Option.bind_some,hz]at h0;cases h0
   | some z=>
    rw[Option.bind_some,hz]at h0;simp only[Option.map_some,Option.some.injEq,Prod.mk.injEq]at h0;exact⟨i,z,rfl,hz,h0.1,h0.2.1,h0.2.2⟩
 have hnil:=fun (w:World)=>Lib.run_eql_slice_nil (P:=prog) w 32 130 A n c 0 0 underlying32
 rcases A with _|ad
 ·have hn0:=hA rfl;subst hn0;obtain rfl:xs=[]:=List.eq_nil_of_length_eq_zero (by omega)
  go_enter func56,ntmps56
  go_wp2_with fail
  go_ret
  exact⟨_,rfl,World.ownsRow_nil _ _ _ _,zho _ _⟩
 ·obtain⟨w0,hw0⟩:∃w0,w0=w.alloc (.cells #[] 130):=⟨_,rfl⟩;have hown0:w0.ownsRow w.heap.size 130 129 (.slice (some ⟨w.heap.size,0,none⟩) 0 0) 0 []:=by rw[hw0];exact World.ownsRow_made w #[] 0 (zhT _) (by simp) rfl
  have B0:Below w.heap.size w w0:=by rw[hw0];exact(zho _ _).alloc (zhT _) _
  have hcells:∀j u,xs[j]?=some u→w0.cell? (ad.add j)=some u:=fun j u hu=>by
   rcases hR.below B0 with h|⟨b,off,hb,hlt,hc⟩
   ·subst h;simp at hu
   ·cases hb;rw[z1P];exact hc j u hu
  obtain⟨v1,w1,hrun,hown1,hg1,-,hat1⟩:=run_append_own_at (P:=prog) w0 w.heap.size 32 32 130 i z 129 136 underlying32 hi hz hsz hby hzs (by omega) _ _ _ hown0 ad n c xs hx hcells h1 (by simp only[maxLen];omega) (by omega) B0.size
  go_enter func56,ntmps56
  go_wp2_with (refine z0m rfl _ _ _ rfl (.slice (some ⟨w.heap.size,0,none⟩) 0 0) (.slice (some ad) n c) v1 rfl rfl (by rw[←hw0];exact hrun) ?_)
  go_ret
  exact⟨v1,rfl,by simpa using hown1,B0.grown hg1 B0.size (fun k hk=>by simp[Value.ownBlock]at hk;omega)⟩
theorem z0q {W:World}{g:Nat}{t ty:TypeId}{cur:Array Value}{vs:Array Value}(b:Blk W g t cur)(hl:cur.size=vs.size)(h1:vs.all (·.oneCell')=true)(hsz:(sizeOf ty).run prog W=.ok vs.size W):
  (Instr.storeAt ty (.pointer (some ⟨g,0,none⟩)) (.agg vs)).run prog W=.ok () (W.setRow g vs):=by
 have h:=z0W (P:=prog) (w:=W) (ty:=ty) (t:=t) (g:=g) (o:=0) (cur:=cur) (vs:=vs.toList) b (by simp;omega) (fun v hv=>by
  have:=Array.all_eq_true'.1 h1 v (by simpa using hv)
  exact this) (by simpa using hsz)
 have e:(cur.toList.take 0++vs.toList++cur.toList.drop (0+vs.toList.length)).toArray=vs:=by
  rw[zi2,zi3,List.drop_of_length_le (by simp;omega),zi5]
 rw[e]at h;simpa using h
def z09 (sv cv:Value)(tk pw:Int)(off:Bool):Array Value:=#[sv,cv,.int .i64 tk,.int .i64 pw,.bool off]
theorem zaO (D S c M:Nat)(cv:Value)(x:DevS)(ok:x.Ok)(w:World)(m:DevMem w D S c M cv x):
  Calls prog 12 #[.pointer (some ⟨D,0,none⟩)] w fun e w'=>∃sv cv',e=.returned (.agg (z09 sv cv' x.taken x.power x.off))∧w'.ownsRow w.heap.size 128 128 sv x.stable.length (x.stable.flatMap secV)∧w'.ownsRow w.heap.size 130 129 cv' x.cache.length (x.cache.flatMap dwV)∧Below w.heap.size w w':=by
 obtain⟨A,cc,g,hcv,hA⟩:=z4W m;subst hcv;have hL:=ok.len;have hN:=ok.hi;have bD:=m.dev;unfold devC at bD;have hok:=fun W (b:Blk W D 133 #[.slice (some ⟨S,0,none⟩) x.stable.length c,.slice A x.cache.length cc,.int .i64 x.taken,.int .i64 x.power,.bool x.off,.map (some M)])=>z2W D S x.stable.length c (.slice A x.cache.length cc) x.taken x.power x.off M W b
 obtain⟨w0,hw0⟩:∃w0,w0=w.alloc (.cells (z09 (.slice none 0 0) (.slice none 0 0) 0 0 false) 34):=⟨_,rfl⟩;obtain⟨w1,hw1⟩:∃w1,w1=w0.alloc (.cells (z09 (.slice (some ⟨S,0,none⟩) x.stable.length c) (.slice A x.cache.length cc) x.taken x.power x.off) 34):=⟨_,rfl⟩;have bD0:Blk w0 D 133 #[.slice (some ⟨S,0,none⟩) x.stable.length c,.slice A x.cache.length cc,.int .i64 x.taken,.int .i64 x.power,.bool x.off,.map (some M)]:=by rw[hw0];exact bD.alloc _
 have bR1:Blk w1 w.heap.size 34 (z09 (.slice none 0 0) (.slice none 0 0) 0 0 false):=by rw[hw1,hw0];exact(Blk.new _ _ _).alloc _
 have bS1:Blk w1 (w.heap.size+1) 34 (z09 (.slice (some ⟨S,0,none⟩) x.stable.length c) (.slice A x.cache.length cc) x.taken x.power x.off):=by rw[hw1,hw0];exact Blk.new' (by simp)
 have B0:Below w.heap.size w w0:=by rw[hw0];(repeat' (first|with_reducible (first|exact zho _ _|assumption|refine zhp ?_ ?_ _|refine zhq ?_|refine z00 ?_ _|refine zhr ?_ ?_ _|exact zhT _)|omega|(simp;done)|(simp;omega)))
 have B1:Below w.heap.size w w1:=by rw[hw1];exact B0.alloc B0.size _
 have Rs:Reads w (some ⟨S,0,none⟩) (x.stable.flatMap secV):=.inr ⟨S,0,rfl,(m.sta.lt S rfl).2,fun j u hu=>by rw[zi8];exact z2n m.sta hu⟩
 have Rc:Reads w A (x.cache.flatMap dwV):=by
  by_cases h0:0<x.cache.length
  ·have hA':=hA h0;subst hA';exact .inr ⟨g,0,rfl,(m.cac.lt g rfl).2,fun j u hu=>by rw[zi8];exact z2n m.cac hu⟩
  ·left
   have:x.cache=[]:=List.eq_nil_of_length_eq_zero (by omega)
   rw[this];rfl
 have lenS:(x.stable.flatMap secV).length=x.stable.length*128:=m.sta.1;have lenC:(x.cache.flatMap dwV).length=x.cache.length*129:=m.cac.1;have oneS:∀u∈x.stable.flatMap secV,u.oneCell'=true:=fun u hu=>by
  obtain⟨s,_,hs⟩:=List.mem_flatMap.1 hu;exact z3H s u hs
 have oneC:∀u∈x.cache.flatMap dwV,u.oneCell'=true:=fun u hu=>by
  obtain⟨s,_,hs⟩:=List.mem_flatMap.1 hu;exact z3o s u hs
 have hAn:A=none→x.cache.length=0:=fun h=>by
  by_cases h0:0<x.cache.length
  ·have:=hA h0;rw[h]at this;cases this
  ·omega
 have cl1:=zdC (some ⟨S,0,none⟩) x.stable.length c (x.stable.flatMap secV) lenS (by omega) w1.drew ((Rs.below B1).below (zho _ _).drew) (fun h=>by cases h) oneS
 have cD0:=bD0.cells;have lD0:=bD0.lt;have hS0:w1.cell? ⟨w.heap.size+1,0,none⟩=some (.slice (some ⟨S,0,none⟩) x.stable.length c)∧w1.cell? ⟨w.heap.size+1,1,none⟩=some (.slice A x.cache.length cc):=⟨by rw[bS1.cells];rfl,by rw[bS1.cells];rfl⟩
 have Rc1:=Rc.below B1;clear Rs Rc B0 bD m;have hok0:=hok w0 bD0;have hz0:w0.heap.size=w.heap.size+1:=by rw[hw0];simp
 have z1:=B1.size;have HZ0:=zhs hz0;clear hz0;have HW1:=zhs hw1;unfold z09 at hw0 hw1 bR1 bS1;go_enter func12,ntmps12
 go_wp2_with fail
 rw[←hw0];refine hok0.mono ?_;rintro e w' ⟨rfl,hw'⟩;replace hw':=hw'.symm;subst hw';clear hok0 hok hw0;go_wp2_with fail
 rw[←hw1,HZ0.out];clear hw1 cD0 lD0;refine z06 [.take 0,.take 1,.take 3,.take 4,.one 2,.take 6,.one 5,.one 7,.one 8,.one 9] 7 (fun w'=>w'.cell? ⟨w.heap.size+1,0,none⟩=some (.slice (some ⟨S,0,none⟩) x.stable.length c)∧w'.cell? ⟨w.heap.size+1,1,none⟩=some (.slice A x.cache.length cc)) (by kernel_rfl) (by kernel_rfl) (fun _ _ _ _ _ h=>h) hS0 ?_
 simp only[zhY,zhZ,Ms.fill,zhy,zhz];iterate 4 (refine z04 (by rfl) ?_ (fun w' hw'=>?_) ?_;rotate_left;(focus (go_simp;(try with_reducible rfl)));(try simp only[Act.put,zht,zhu,zhv]))
 refine z05 (by rfl) fun K hK=>?_
 go_simp;refine cl1.mono ?_;rintro e w2 ⟨sv,rfl,ownS,hb2⟩;have bS2:=bS1.drew.belowAll hb2;have bR2:=bR1.drew.belowAll hb2;have B2:Below w.heap.size w w2:=B1.drew.trans (hb2.mono z1);have Rc2:=(Rc1.below (zho _ _).drew).below hb2;have ownS2:w2.ownsRow w.heap.size 128 128 sv x.stable.length (x.stable.flatMap secV):=z0D ownS z1;have hsv:∀g,sv.ownBlock=some g→w1.heap.size≤g:=fun g e=>(ownS.lt g e).1
 have z2:w1.heap.size≤w2.heap.size:=hb2.size;refine hK _ _ (fun _=>⟨by rw[bS2.cells];rfl,by rw[bS2.cells];rfl⟩) ?_
 clear hK K cl1 hb2 hS0 bS1 bR1 Rc1 ownS;iterate 1 (refine z04 (by rfl) ?_ (fun w' hw'=>?_) ?_;rotate_left;(focus (go_simp;(try with_reducible rfl)));(try simp only[Act.put,zht,zhu,zhv]))
 refine z05 (by rfl) fun K hK=>?_
 go_simp;refine(zd0 A x.cache.length cc (x.cache.flatMap dwV) lenC (by omega) w2 Rc2 hAn oneC).mono ?_
 rintro e w3 ⟨cv',rfl,ownC,hb3⟩;have bS3:=bS2.belowAll hb3;have bR3:=bR2.belowAll hb3;have B3:Below w.heap.size w w3:=B2.trans (hb3.mono B2.size);have ownS3:=z0a ownS2 hb3;have ownC3:w3.ownsRow w.heap.size 130 129 cv' x.cache.length (x.cache.flatMap dwV):=z0D ownC B2.size;have hcv':∀g,cv'.ownBlock=some g→w1.heap.size≤g:=fun g e=>zhS z2 (ownC.lt g e).1
 refine hK _ _ (fun _=>⟨by rw[bS3.cells];rfl,by rw[bS3.cells];rfl⟩) ?_
 clear hK K hb3 bS2 bR2 B2 Rc2 ownS2 ownC z2;obtain⟨S',c',rfl,-,-⟩:=z2f ownS3 (by have:=ok.lo;omega)
 obtain⟨A',cc',g',hcv2,-⟩:∃A' cc' g',cv'=.slice A' x.cache.length cc'∧(0<x.cache.length→A'=some ⟨g',0,none⟩):=by
  rcases ownC3.2 with ⟨rfl,h0⟩|⟨g,cap,cur,rfl,-⟩
  ·exact⟨none,0,0,by rw[h0],by omega⟩
  ·exact⟨_,cap,g,rfl,fun _=>rfl⟩
 subst hcv2;have cS3:=bS3.cells;have fS3:=bS3.free;have lS3:=bS3.lt;refine z05 (by rfl) fun K hK=>?_
 go_simp;refine hK _ _ (fun h=>absurd h (by decide)) ?_
 clear hK K;refine z05 (by rfl) fun K hK=>?_
 go_simp;refine hK _ _ (fun h=>absurd h (by decide)) ?_
 clear hK K;refine z05 (by rfl) fun K hK=>?_
 go_simp;refine hK _ _ (fun h=>absurd h (by decide)) ?_
 clear hK K;refine z0f ?_;obtain⟨w4,hw4⟩:∃w4,w4=(w3.setCell ⟨w.heap.size+1,0,none⟩ (.slice (some ⟨S',0,none⟩) x.stable.length c')).setCell ⟨w.heap.size+1,1,none⟩ (.slice A' x.cache.length cc'):=⟨_,rfl⟩;have zz:w.heap.size+1<w1.heap.size:=by have:=HZ0.out;rw[HW1.out];simp;omega
 have bS4:Blk w4 (w.heap.size+1) 34 #[.slice (some ⟨S',0,none⟩) x.stable.length c',.slice A' x.cache.length cc',.int .i64 x.taken,.int .i64 x.power,.bool x.off]:=by rw[hw4];exact(bS3.set_ 0 _).set_ 1 _
 have bR4:Blk w4 w.heap.size 34 #[.slice none 0 0,.slice none 0 0,.int .i64 0,.int .i64 0,.bool false]:=by rw[hw4];exact(bR3.far (by simp) _).far (by simp) _
 have B4:Below w.heap.size w w4:=by rw[hw4];exact(B3.setCell (by simp) _).setCell (by simp) _
 have k4:KeepEx w3.heap.size [w.heap.size+1] w3 w4:=by rw[hw4];exact(KeepEx.setCell _ (.inl (by simp)) _).trans (KeepEx.setCell _ (.inl (by simp)) _)
 rw[←hw4];clear hw4 cS3 fS3 lS3 bS3 bR3 B3;have ownS4:=z0c ownS3 (fun g e=>k4.block g (ownS3.lt g e).2 (by have:=hsv g e;simp;omega))
 have ownC4:=z0c ownC3 (fun g e=>k4.block g (ownC3.lt g e).2 (by have:=hcv' g e;simp;omega))
 have cS4:=bS4.cells;have lS4:=bS4.lt;have cR4:=bR4.cells;have fR4:=bR4.free;have lR4:=bR4.lt;have hst:=z0q (ty:=34) (vs:=z09 (.slice (some ⟨S',0,none⟩) x.stable.length c') (.slice A' x.cache.length cc') x.taken x.power x.off) bR4 rfl (by simp[z09,Value.oneCell']) (by kernel_rfl)
 unfold z09 at hst;clear fR4 cR4 lR4;go_wp2_with (refine z01 rfl _ _ _ rfl _ _ rfl rfl hst ?_)
 have bR5:=bR4.setRow (cs':=#[.slice (some ⟨S',0,none⟩) x.stable.length c',.slice A' x.cache.length cc',.int .i64 x.taken,.int .i64 x.power,.bool x.off]);have cR5:=bR5.cells;have k5:KeepEx w4.heap.size [w.heap.size] w4 (w4.setRow w.heap.size #[.slice (some ⟨S',0,none⟩) x.stable.length c',.slice A' x.cache.length cc',.int .i64 x.taken,.int .i64 x.power,.bool x.off]):=KeepEx.setRow _ (.inl (by simp)) _
 refine bodyPost_ret (v:=.agg #[.slice (some ⟨S',0,none⟩) x.stable.length c',.slice A' x.cache.length cc',.int .i64 x.taken,.int .i64 x.power,.bool x.off]) (by simp[results,results12,go_sem,cR5]) rfl ?_
 exact⟨_,_,rfl,z0c ownS4 (fun g e=>k5.block g (ownS4.lt g e).2 (by have:=hsv g e;simp;omega)),z0c ownC4 (fun g e=>k5.block g (ownC4.lt g e).2 (by have:=hcv' g e;simp;omega)),Below.setRow B4 (zhT _) _⟩
theorem zag (fv:Value)(w:World):
  Calls prog 177 #[.slice none 0 0,fv] w fun e w'=>e=.returned (.int .i64 (-1))∧w'=w:=by
 go_enter func177,ntmps177
 go_wp2_with fail
 refine wp_loop_rounds 1 ?_;rw[rounds_succ];go_wp2_with fail
 go_ret
 exact⟨rfl,rfl⟩
theorem z71 (fv:Value)(w:World):
  Calls prog 101 #[.slice none 0 0,fv] w fun e w'=>e=.returned (.bool false)∧w'=w:=by
 go_enter func101,ntmps101
 go_wp2_with fail
 refine(zag fv w).mono ?_;rintro e w1 ⟨rfl,rfl⟩;go_wp2_with fail
 go_ret
 exact⟨rfl,rfl⟩
theorem zbf (S c:Nat)(x:DevS)(ok:x.Ok)(hc:x.cache=[])(w:World)(hH:HalfAt w)(own:w.ownsRow 0 128 128 (.slice (some ⟨S,0,none⟩) x.stable.length c) x.stable.length (x.stable.flatMap secV)):
  Calls prog 41 #[.agg #[.slice (some ⟨S,0,none⟩) x.stable.length c,.slice none 0 0,.int .i64 x.taken,.int .i64 x.power,.bool x.off]] w fun e w'=>
   ∃D F,e=.returned (.tuple #[.pointer (some ⟨D,0,none⟩),.int .i64 0])∧DevAt w' D F x∧Below w.heap.size w w'∧∀b∈F,w.heap.size≤b:=by
 have hmf:∀(fn:Fn) (first cap:Array Value) (w:World),(Instr.makeFunc fn first cap).run prog w=.ok (.func fn first cap) w:=fun _ _ _ _=>rfl
 have hlo:=ok.lo;have hhi:=ok.hi;have htk:=ok.tk;have hpw:=ok.pw;have d1:decide ((x.stable.length:Int)<64)=false:=decide_eq_false (by omega)
 have d2:decide (256<(x.stable.length:Int))=false:=decide_eq_false (by omega)
 have d3:decide (x.taken<0)=false:=decide_eq_false (by omega)
 have d4:decide (1000000000000<x.taken)=false:=decide_eq_false (by omega)
 have d5:decide (x.power < -1)=false:=decide_eq_false (by omega)
 have d6:decide (1000000000000<x.power)=false:=decide_eq_false (by omega)
 have hmm:=@run_makeMap prog;obtain⟨w0,hw0⟩:∃w0,w0=(w.alloc (.cells #[.slice (some ⟨S,0,none⟩) x.stable.length c,.slice none 0 0,.int .i64 x.taken,.int .i64 x.power,.bool x.off] 34)).alloc (.cells #[.int .i64 x.stable.length] 3):=⟨_,rfl⟩;have b0:Blk w0 w.heap.size 34 #[.slice (some ⟨S,0,none⟩) x.stable.length c,.slice none 0 0,.int .i64 x.taken,.int .i64 x.power,.bool x.off]:=by rw[hw0];exact(by (repeat' (first|(with_reducible assumption)|exact Blk.new' (by simp)|refine Blk.alloc ?_ _)))
 have b1:Blk w0 (w.heap.size+1) 3 #[.int .i64 x.stable.length]:=by rw[hw0];exact(by (repeat' (first|(with_reducible assumption)|exact Blk.new' (by simp)|refine Blk.alloc ?_ _)))
 have B0:Below w.heap.size w w0:=by rw[hw0];(repeat' (first|with_reducible (first|exact zho _ _|assumption|refine zhp ?_ ?_ _|refine zhq ?_|refine z00 ?_ _|refine zhr ?_ ?_ _|exact zhT _)|omega|(simp;done)|(simp;omega)))
 have z0:w0.heap.size=w.heap.size+2:=by rw[hw0];simp
 have c0:=b0.cells;have l0:=b0.lt;have c1:=b1.cells;have l1:=b1.lt;have HZ:=zhs z0;clear z0;go_enter func41,ntmps41
 go_wp2_with fail
 rw[←hw0];go_wp2_with fail
 refine(z71 _ w0).mono ?_;rintro e w' ⟨rfl,hw'⟩;replace hw':=hw'.symm;subst hw';clear hw0;go_wp2_with fail
 obtain⟨W,hW⟩:∃W,W=(w0.alloc (.map #[] 0)).alloc (.cells #[.slice (some ⟨S,0,none⟩) x.stable.length c,.slice none 0 0,.int .i64 x.taken,.int .i64 x.power,.bool x.off,.map (some w0.heap.size)] 133):=⟨_,rfl⟩;have hc0:x.cache.length=0:=by rw[hc];rfl
 have BW:Below w.heap.size w W:=by rw[hW];exact(B0.alloc B0.size _).alloc (by have:=B0.size;simp;omega) _
 have bP:Blk W w.heap.size 34 #[.slice (some ⟨S,0,none⟩) x.stable.length c,.slice none 0 0,.int .i64 x.taken,.int .i64 x.power,.bool x.off]:=by rw[hW];exact(b0.alloc _).alloc _
 have mW:DevMem W (w0.heap.size+1) S c w0.heap.size (.slice none 0 0) x:=by
  refine⟨by rw[hW];exact Blk.new' (by simp),z0a own BW,?_,?_⟩
  ·rw[hc];exact World.ownsRow_nil _ _ _ _
  ·rw[hc,hW];exact(World.ownsMap_made _ _ _ _).alloc _
 have zW:W.heap.size=w0.heap.size+2:=by rw[hW];simp
 have HZW:=zhs zW;rw[←hW];clear hW hmm zW c0 l0 c1 l1 b0 b1;refine(zaO _ S c _ _ x ok W mW).mono ?_;rintro e w3 ⟨sv,cv',rfl,ownS,ownC,hb3⟩;obtain⟨S',c',rfl,hS1,hS2⟩:=z2f ownS (by omega)
 obtain⟨A',cc',hcv2,hA'⟩:∃A' cc',cv'=.slice A' x.cache.length cc'∧(∀g,cv'.ownBlock=some g→W.heap.size≤g∧g<w3.heap.size):=by
  refine(fun h=>?_) (fun g e=>ownC.lt g e:∀g,cv'.ownBlock=some g→W.heap.size≤g∧g<w3.heap.size)
  rcases ownC.2 with ⟨rfl,h0⟩|⟨g,cap,cur,rfl,-⟩
  ·exact⟨none,0,by rw[h0],h⟩
  ·exact⟨_,cap,rfl,h⟩
 rw[hcv2]at ownC hA';subst hcv2;have bD3:=mW.dev.belowAll hb3;have bP3:=bP.belowAll hb3;have B3:Below w.heap.size w w3:=BW.trans (hb3.mono BW.size);have mp3:=z0j mW.map (hb3.block _ mW.map.lt);have z3:w0.heap.size+2≤w3.heap.size:=by have:=hb3.size;have:=HZW.out;omega
 have hS1':w0.heap.size+2≤S':=by have:=HZW.out;omega
 have hA2:∀g,(Value.slice A' x.cache.length cc').ownBlock=some g→w0.heap.size+2≤g∧g<w3.heap.size:=fun g e=>by have:=hA' g e;have:=HZW.out;omega
 clear hA' hb3 bP BW mW;unfold devC at bD3;have cD3:=bD3.cells;have fD3:=bD3.free;have lD3:=bD3.lt;have cP3:=bP3.cells;have lP3:=bP3.lt;unfold z09;have nPD:w.heap.size≠w0.heap.size+1:=by have:=HZ.out;omega
 go_wp2_with fail
 refine wp_loop_rounds 1 ?_;rw[rounds_succ];go_wp2_with fail
 go_ret2
 obtain⟨W5,hW5⟩:∃W5,W5=((((w3.setCell ⟨w0.heap.size+1,0,none⟩ (.slice (some ⟨S',0,none⟩) x.stable.length c')).setCell ⟨w0.heap.size+1,1,none⟩ (.slice A' x.cache.length cc')).setCell ⟨w0.heap.size+1,2,none⟩ (.int .i64 x.taken)).setCell ⟨w0.heap.size+1,3,none⟩ (.int .i64 x.power)).setCell ⟨w0.heap.size+1,4,none⟩ (.bool x.off):=⟨_,rfl⟩;have bD5:Blk W5 (w0.heap.size+1) 133 (devC S' x.stable.length c' (.slice A' x.cache.length cc') x.taken x.power x.off w0.heap.size):=by
  rw[hW5];exact((((bD3.set_ 0 _).set_ 1 _).set_ 2 _).set_ 3 _).set_ 4 _
 have k5:KeepEx w3.heap.size [w0.heap.size+1] w3 W5:=by
  rw[hW5];exact((((KeepEx.setCell _ (.inl (by simp)) _).trans (KeepEx.setCell _ (.inl (by simp)) _)).trans (KeepEx.setCell _ (.inl (by simp)) _)).trans (KeepEx.setCell _ (.inl (by simp)) _)).trans (KeepEx.setCell _ (.inl (by simp)) _)
 have z5:=k5.size;have hz0:=HZ.out;have zz0:=B0.size;have B5:Below w.heap.size w W5:=B3.trans (k5.toBelow B3.size (by intro k hk;simp at hk;omega))
 have lS:S'<w3.heap.size:=hS2;rw[hc0]at hW5;rw[←hW5];refine⟨w0.heap.size+1,[w0.heap.size+1,S',w0.heap.size]++(Value.slice A' x.cache.length cc').ownBlock.toList,rfl,⟨ok,hH.below B5 hH.1,⟨S',c',w0.heap.size,.slice A' x.cache.length cc',⟨bD5,?_,?_,?_⟩,by simp,by simp,by simp,fun g e=>by simp[e]⟩,fun b hb=>?_⟩,B5,fun b hb=>?_⟩
 ·exact z0c (z0D ownS (zi9 _)) (fun g e=>by cases e;exact k5.block S' lS (by simp;omega))
 ·exact z0c (z0D ownC (zi9 _)) (fun g e=>k5.block g (hA2 g e).2 (by have:=hA2 g e;simp;omega))
 ·exact z0j mp3 (k5.block _ (by omega) (by simp))
 ·rcases zi0.1 hb with hb|hb
  ·simp at hb
   have:=hH.1
   rcases hb with rfl|rfl|rfl<;>omega
  ·have:=hA2 b (by simpa using hb)
   have:=hH.1
   omega
 ·rcases zi0.1 hb with hb|hb
  ·simp at hb
   rcases hb with rfl|rfl|rfl<;>omega
  ·have:=hA2 b (by simpa using hb)
   omega
def z1a (n:Nat):DevS:=⟨List.replicate n zsec,[],0,-1,false⟩
theorem z4C {n:Nat}(h:64≤n∧n≤256):(z1a n).Ok:=
 ⟨by show 64≤(List.replicate n zsec).length;simp;omega,by show (List.replicate n zsec).length≤256;simp;omega,fun s hs=>by
  obtain rfl:=zhL hs;exact⟨z07,z29⟩,fun p hp=>(by cases hp),by show 0≤400;omega,by show (0:Int)≤0∧(0:Int)≤1000000000000;omega,by show (-1:Int)≤-1∧(-1:Int)≤1000000000000;omega⟩
theorem z3g (n:Nat):((List.replicate n zsec).flatMap secV).length=n*128:=by
 induction n with
 | zero=>rfl
 | succ n ih=>rw[List.replicate_succ,zhN,zhF,ih,z0T,z07,Nat.add_mul];omega
theorem zdL (n:Nat):∀u∈(List.replicate n zsec).flatMap secV,u=.int .u8 0:=by
 intro u hu;obtain⟨s,hs,hu⟩:=List.mem_flatMap.1 hu;obtain rfl:=zhL hs;unfold secV at hu;obtain⟨y,hy,rfl⟩:=List.mem_map.1 hu;rw[zhL (show y∈List.replicate 128 (0:Int)from hy)]
theorem zcI (k:Nat):∀u∈(madeCells (fill (.int .u8 0) 128) k).toList,u=Value.int .u8 0:=by
 intro u hu;unfold madeCells at hu;simp only[Array.toList_map,List.mem_map]at hu;obtain⟨i,-,rfl⟩:=hu;rw[z8e];have hlt:i % (Array.replicate 128 (Value.int .u8 0)).size<(Array.replicate 128 (Value.int .u8 0)).size:=by rw[Array.size_replicate];exact Nat.mod_lt _ (by omega)
 rw[getElem!_pos (Array.replicate 128 (Value.int .u8 0)) _ hlt];simp
theorem z8N (n:Nat):madeCells (fill (.int .u8 0) 128) (n*128)=((List.replicate n zsec).flatMap secV).toArray:=by
 apply Array.toList_inj.1
 rw[List.eq_replicate_of_mem (zcI (n*128)),List.eq_replicate_of_mem (zdL n)];simp only[Array.length_toList,z3g,size_madeCells]
theorem zd9 (n:Nat)(hn:64≤n∧n≤256)(w:World)(hH:HalfAt w):
  Calls prog 7 #[.int .i64 n] w fun e w'=>∃D F,e=.returned (.tuple #[.pointer (some ⟨D,0,none⟩),.int .i64 0])∧DevAt w' D F (z1a n)∧Below w.heap.size w w'∧∀b∈F,w.heap.size≤b:=by
 have hmin:min (n:Int) 257=n:=by omega
 obtain⟨i,hi,hz,hsz,hby⟩:=info_parts Tryz.infoSec3;have hmk:=run_make (P:=prog) w 31 128 i _ underlying31 hi hz .i64 .i64 n n (by omega) (Int.le_refl _) (by rw[hby];omega) (by omega)
 rw[zhU,hsz]at hmk;obtain⟨w0,hw0⟩:∃w0,w0=w.alloc (.cells ((List.replicate n zsec).flatMap secV).toArray 128):=⟨_,rfl⟩;have hmk2:(Instr.makeSlice 31 (.int .i64 n) (.int .i64 n)).run prog w=.ok (.slice (some ⟨w.heap.size,0,none⟩) n n) w0:=by
  rw[hmk,hw0];show Result.ok _ (w.alloc (.cells (madeCells (fill (.int .u8 0) 128) (n*128)) 128))=_
  rw[z8N]
 have B0:Below w.heap.size w w0:=by rw[hw0];exact(zho _ _).alloc (zhT _) _
 have own:w0.ownsRow 0 128 128 (.slice (some ⟨w.heap.size,0,none⟩) n n) n ((List.replicate n zsec).flatMap secV):=by
  refine⟨z3g n,.inr ⟨w.heap.size,n,_,rfl,zi9 _,by rw[hw0];exact heap_alloc_new w _,zhT _,by simp only[maxLen];omega,by simp only[List.size_toArray];exact z3g n,?_⟩⟩
  rw[List.take_of_length_le (by rw[z3g n];exact zhT _)]
 have hld:=zbf w.heap.size n (z1a n) (z4C hn) rfl w0 (hH.below B0 hH.1) (by
  show w0.ownsRow 0 _ 128 (.slice (some ⟨w.heap.size,0,none⟩) (List.replicate n zsec).length n) (List.replicate n zsec).length _
  rw[zhG];exact own)
 have hld2:Calls prog 41 #[.agg #[.slice (some ⟨w.heap.size,0,none⟩) n n,.slice none 0 0,.int .i64 0,.int .i64 (-1),.bool false]] w0 fun e w'=>∃D F,e=.returned (.tuple #[.pointer (some ⟨D,0,none⟩),.int .i64 0])∧DevAt w' D F (z1a n)∧Below w0.heap.size w0 w'∧∀b∈F,w0.heap.size≤b:=by
  have e:(z1a n).stable.length=n:=zhG;rw[e]at hld;exact hld
 clear hmk hld hi hz hsz hby own hw0;go_enter func7,ntmps7
 go_wp2_with fail
 refine hld2.mono ?_;rintro e w1 ⟨D,F,rfl,hd,hb,hF⟩;go_wp2_with fail
 go_ret2
 exact⟨D,F,rfl,hd,B0.trans (hb.mono B0.size),fun b hm=>zhS B0.size (hF b hm)⟩
theorem z7K (D:Nat)(F:List Nat)(x:DevS)(a kind seq:Int)(s:ByteArray)(hs:s.size≤maxLen)(hq:0≤seq∧seq<4294967296)(w:World)(h:DevAt w D F x):
  Calls prog 118 #[.pointer (some ⟨D,0,none⟩),.int .i64 a,.int .i64 kind,.int .u32 seq,.string s] w fun e w'=>e=.returned (.int .i64 (x.put a kind seq s).1)∧∃F',DevAt w' D F' (x.put a kind seq s).2∧Grow w F w' F':=by
 have hz:=z0S;have hse:=zeL a kind seq s hs hq w h.half;unfold z21 at hse;unfold DevS.put;by_cases hE:z11 a kind s.size=0
 ·have hl:=z1n a kind seq s (z3B hE).2.2.2.2;have hbx:=z2x seq hE;rw[if_pos hE];rw[if_pos hE,hE]at hse;generalize z15 a kind seq s=xs at *;clear hE;go_enter func118,ntmps118
  go_wp2_with fail
  refine hse.mono ?_;rintro e w1 ⟨hb1,rfl⟩;have h1:=h.below hb1;have z1:=hb1.size;have bZ:Blk (w1.alloc (.cells (z03 zsec) 128)) w1.heap.size 128 (z03 zsec):=Blk.new _ _ _;have bX:Blk ((w1.alloc (.cells (z03 zsec) 128)).setRow w1.heap.size (z03 xs)) w1.heap.size 128 (z03 xs):=bZ.setRow;have h2:DevAt ((w1.alloc (.cells (z03 zsec) 128)).setRow w1.heap.size (z03 xs)) D F x:=(h1.alloc _).row (h1.far (zhT _)) (by have:=h1.half.1;omega) _
  have B2:Below w.heap.size w ((w1.alloc (.cells (z03 zsec) 128)).setRow w1.heap.size (z03 xs)):=Below.setRow (hb1.alloc z1 _) z1 _;have hwr:=z9j D F x a xs ⟨hl,hbx⟩ _ h2;clear hse hb1 h1;go_wp2_with (first
   | (refine z0d rfl _ _ rfl w1.heap.size xs rfl rfl bZ z07 hl ?_)
   | (refine z0u rfl _ rfl w1.heap.size rfl bX hl ?_))
  refine hwr.mono ?_;rintro e w3 ⟨rfl,F',h3,g3⟩;go_wp2_with fail
  go_ret
  exact⟨rfl,F',h3,(Grow.of_below B2 F).trans g3⟩
 ·rw[if_neg hE];rw[if_neg hE]at hse;obtain⟨E,hEq⟩:∃E,z11 a kind s.size=E:=⟨_,rfl⟩;rw[hEq]at hse hE ⊢;have hE':(E != 0)=true:=by simpa using hE
  clear hEq;go_enter func118,ntmps118
  go_wp2_with fail
  refine hse.mono ?_;rintro e w1 ⟨hb1,rfl⟩;have h1:=h.below hb1;have z1:=hb1.size;have bZ:Blk (w1.alloc (.cells (z03 zsec) 128)) w1.heap.size 128 (z03 zsec):=Blk.new _ _ _;have h2:DevAt ((w1.alloc (.cells (z03 zsec) 128)).setRow w1.heap.size (z03 zsec)) D F x:=(h1.alloc _).row (h1.far (zhT _)) (by have:=h1.half.1;omega) _
  have B2:Below w.heap.size w ((w1.alloc (.cells (z03 zsec) 128)).setRow w1.heap.size (z03 zsec)):=Below.setRow (hb1.alloc z1 _) z1 _;clear hse hb1 h1 hE;go_wp2_with (refine z0d rfl _ _ rfl w1.heap.size zsec rfl rfl bZ z07 z07 ?_)
  go_ret
  exact⟨rfl,F,h2,Grow.of_below B2 F⟩
end Go.Proofs.YtejmknghkbobnaaGreatDoor
