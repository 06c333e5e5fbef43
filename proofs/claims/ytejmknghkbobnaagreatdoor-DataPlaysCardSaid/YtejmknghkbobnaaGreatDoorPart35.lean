import Derived.Test.YtejmknghkbobnaaGreatDoorPart34
set_option linter.all false
set_option maxRecDepth 100000
set_option maxHeartbeats 0
namespace Go.Proofs.YtejmknghkbobnaaGreatDoor
open Go.Proofs.Tryz
open Go.RowKit Go.Maps
theorem TxS.Clean.fit {y:TxS}(h:y.Clean)(l:List Int)(n:Nat):(y.fit l n).2.1.Clean:=by
 unfold TxS.fit;split
 ·exact h.free _
 ·split
  ·exact h.take _ _
  ·exact h
theorem TxS.Clean.puts {y:TxS}(h:y.Clean)(x:DevS)(kd:Int)(l:List Int)(ps:List ByteArray):∀k,(y.puts x kd l ps k).2.Clean:=by
 intro k;induction k with
 | zero=>exact h
 | succ k ih=>
  unfold TxS.puts;split
  ·exact ih
  ·split
   ·exact ih
   ·exact ih.write _ _ _
theorem TxS.Clean.store {y:TxS}(h:y.Clean)(x:DevS)(kd:Int)(l:List Int)(ps:List ByteArray):(y.store x kd l ps).2.1.Clean:=by
 unfold TxS.store;split
 ·exact h.fit _ _
 ·split<;>exact(h.fit _ _).puts _ _ _ _ _
theorem TxS.Clean.mJ {y:TxS}(h:y.Clean)(x:DevS)(kd:Int)(l:List Int)(size off:Int)(s:ByteArray):(y.mJ x kd l size off s).2.1.Clean:=by
 unfold TxS.mJ;split
 ·exact h
 ·split
  ·exact h
  ·split<;>exact h.store _ _ _ _
theorem TxS.Clean.ni {y:TxS}(h:y.Clean)(x:DevS)(kd:Int)(l:List Int)(size to_:Int):(y.ni x kd l size to_).2.1.Clean:=by
 unfold TxS.ni;split
 ·exact h
 ·split
  ·exact h
  ·exact h.store _ _ _ _
theorem TxS.Clean.mQ {y:TxS}(h:y.Clean)(x:DevS)(kd:Int)(l:List Int)(ps:List ByteArray):(y.mQ x kd l ps).2.1.Clean:=by
 unfold TxS.mQ;split
 ·exact h
 ·split
  ·exact h
  ·exact h.store _ _ _ _
theorem z1B {y:TxS}(ok:y.Ok)(D:y.mF=0)(x:DevS)(kd:Int)(l:List Int)(ps:List ByteArray):(y.store x kd l ps).2.2.length<=ps.length:=by
 obtain⟨-,c⟩:=z89 ok D l ps.length;unfold TxS.store;split
 ·simp
 ·rename_i h
  split
  ·simp
  ·rw[(c (by simpa using h)).1]
   exact kE _
theorem z8t {o s:ByteArray}{off size:Int}(D:0<=off/\off<=size)(I:o.size<=768)(J:s.size<=10000)(c:dY off s.size=false)(K:size<=768):(bx o s off size).size<=2000:=by
 unfold dY wrap64 at c;unfold bx;simp only[decide_eq_false_iff_not]at c;rw[ByteArray.size_append,ByteArray.size_append,ByteArray.size_extract,ByteArray.size_extract];omega
theorem z0g {y:TxS}(ok:y.Ok)(M:y.mF=0)(x:DevS)(kd:Int)(l:List Int)(size off:Int)(s:ByteArray)(c:s.size<=10000):(y.mJ x kd l size off s).2.2.1.length<=1000/\0<=(y.mJ x kd l size off s).2.2.2/\(y.mJ x kd l size off s).2.2.2<=10000:=by
 unfold TxS.mJ;split
 ·simp
 ·rename_i J
  split
  ·simp
  ·obtain⟨-,Y,S,I,T,q5⟩:=df (by simpa using J)
   have K:0<=off/\off<=size:=by unfold eu at I;simp at I;omega
   have O:(y.text x kd l size 0 size).1.size<=768:=kO (z06 y x kd size 0 size l l.length) (by omega)
   have U:=z8t (s:=s) K O c T S;have D:=z1B ok M x kd l (bh (bx (y.text x kd l size 0 size).1 s off size));rw[dL]at D;unfold eO at D;split
   ·simp
   ·simp only;omega
theorem z6D {y:TxS}(ok:y.Ok)(K:y.mF=0)(x:DevS)(kd:Int)(l:List Int)(size to_:Int):(y.ni x kd l size to_).2.2.length<=1000/\((y.ni x kd l size to_).1=0->0<=to_/\to_<=768):=by
 unfold TxS.ni;split
 ·rename_i c;exact⟨by simp,fun h=>absurd h c⟩
 ·rename_i c
  obtain⟨-,M,O,J,-⟩:=df (by simpa using c)
  have D:0<=to_/\to_<=768:=by unfold f8 at J;simp at J;omega
  split
  ·exact⟨by simp,fun _=>D⟩
  ·refine⟨?_,fun _=>D⟩
   have I:=z1B ok K x kd l (bh (eL (y.text x kd l size 0 size).1 to_ size));rw[dL]at I;have:(eL (y.text x kd l size 0 size).1 to_ size).size<=768:=by
    unfold eL;rw[ByteArray.size_extract];omega
   unfold eO at I;omega
theorem z3Q {y:TxS}(ok:y.Ok)(D:y.mF=0)(x:DevS)(kd:Int)(l:List Int)(ps:List ByteArray)(c:ps.length<=1000):(y.mQ x kd l ps).2.2.length<=1000:=by
 unfold TxS.mQ;split
 ·simp
 ·split
  ·simp
  ·exact kO (z1B ok D x kd l ps) c
theorem z3S {s j i:Int}(c:0<=j):(ff s j i).Clean:=⟨List.Pairwise.nil,fun _ h=>(by cases h),fun _ h=>(by cases h),c⟩
section
variable {y:TxS}
theorem TxS.Ok.brk (h:y.Ok):y.brk.Ok:=⟨h.rg,h.was,h.now,h.recs,h.len⟩
theorem TxS.Ok.change (h:y.Ok){us:List Bool}{n:Nat}(K:us.length=y.now.length)(I:y.mP n=0):(y.change us n).Ok:=by
 unfold TxS.mP at I;unfold TxS.change;split
 ·exact h
 ·rename_i J
  rw[if_neg J]at I;split
  ·exact h
  ·rename_i D
   refine⟨h.rg,h.was,K.trans h.now,h.recs,?_⟩
   have c:=h.len;unfold TxS.left TxS.most at *;show (0:Int)<=min (y.j - 2) 80 - y.writes.length - 1
   cases hc:y.changed
   ·rw[hc]at D c;simp at D c
    omega
   ·rw[hc]at c;simpa using c
theorem TxS.Ok.free (h:y.Ok)(l:List Int):(y.free l).2.Ok:=by
 unfold TxS.free;split
 ·exact h
 ·split
  ·exact h.brk
  ·rename_i c
   refine h.change (cH _ _ _) ?_;unfold TxS.nY at c;by_cases D:TnE y.s y.j y.i y.now l false 4=0
   ·rw[if_neg (by simpa using D)]at c;simpa using c
   ·rw[if_pos D]at c;exact absurd D (by simpa using c)
theorem TxS.Ok.take (h:y.Ok)(near many:Int):(y.take near many).2.Ok:=by
 unfold TxS.take;split
 ·exact h
 ·split
  ·exact h.brk
  ·rename_i c
   refine h.change (cH _ _ _) ?_;unfold TxS.nI at c;by_cases D:AlE y.s y.j y.i y.may near many=0
   ·rw[if_neg (by simpa using D)]at c;simpa using c
   ·rw[if_pos D]at c;exact absurd D (by simpa using c)
theorem TxS.Ok.write (h:y.Ok)(J:y.Clean)(a k:Int)(d:ByteArray):(y.write a k d).2.Ok:=by
 unfold TxS.write;split
 ·exact h
 ·split
  ·exact h.brk
  ·rename_i I
   have c:y.nD a k d.size=0:=by simpa using I
   unfold TxS.nD at c;split at c
   ·cases c
   ·split at c
    ·cases c
    ·split at c
     ·cases c
     ·split at c
      ·cases c
      ·rename_i O S T D
       refine⟨h.rg,h.was,h.now,fun r M=>?_,?_⟩
       ·rcases i8 M with e|e
        ·subst e;refine⟨by show 0<=a;omega,by show a<y.s;omega,by show 1<=k;omega,by show k<=255;omega,?_⟩
         show d.data.size<=112
         have:d.data.size=d.size:=rfl
         omega
        ·exact h.recs r e
       ·have K:=h.len;unfold TxS.left TxS.most at *;show (0:Int)<=min (y.j - 2) 80 - (aJ y.writes ⟨a,k,d⟩).length - if y.changed=true then 1 else 0
        rw[f9 J.asc];show (0:Int)<=min (y.j - 2) 80 - ((if (bf y.writes a).isSome=true then y.writes.length else y.writes.length+1:Nat):Int) - if y.changed=true then 1 else 0
        cases hn:bf y.writes a with
        | none=>
         have:¬(min (y.j - 2) 80 - (y.writes.length:Int) - (if y.changed=true then 1 else 0)<1):=fun e=>D ⟨by rw[hn];rfl,e⟩
         simp only[Option.isSome_none,Bool.false_eq_true,if_false];omega
        | some r=>simpa using K
theorem TxS.Ok.fit (h:y.Ok)(l:List Int)(n:Nat):(y.fit l n).2.1.Ok:=by
 unfold TxS.fit;split
 ·exact h.free _
 ·split
  ·exact h.take _ _
  ·exact h
theorem TxS.Ok.puts (h:y.Ok)(c:y.Clean)(x:DevS)(kd:Int)(l:List Int)(ps:List ByteArray):∀k,(y.puts x kd l ps k).2.Ok:=by
 intro k;induction k with
 | zero=>exact h
 | succ k ih=>
  unfold TxS.puts;split
  ·exact ih
  ·split
   ·exact ih
   ·exact ih.write (c.puts _ _ _ _ _) _ _ _
end
structure StW (w:World)(P:Nat->Prop)(x:DevS)(E0:Nat)(z:TxS)(tv:Array Value)(W:World):Prop where
 q:RTx W (Apt_ P w.heap.size E0) x z tv
 t:Blk W w.heap.size 50 tv
 r:Blk W (w.heap.size+1) 50 txZ
 b:Zr w W
 n:E0<=W.heap.size
section
variable {w W V:World}{P:Nat->Prop}{x:DevS}{E0:Nat}{z z':TxS}{tv tv':Array Value}
theorem StW.below (h:StW w P x E0 z tv W)(c:Zr W V):StW w P x E0 z tv V:=
 ⟨h.q.below c,h.t.mD c,h.r.mD c,h.b.trans (c.mono h.b.size),kO h.n c.size⟩
theorem StW.put (h:StW w P x E0 z tv W)(D:w.heap.size<E0)(I:RTx V (Apt_ P w.heap.size E0) x z' tv')(c:Zr W V):StW w P x E0 z' tv' (V.setRow w.heap.size tv'):=
 ⟨I.row (Apt_.ne (kE _) D) tv',(h.t.mD c).setRow,(h.r.mD c).mO (by omega),Below.setRow (h.b.trans (c.mono h.b.size)) (kE _) tv',by simpa using kO h.n c.size⟩
theorem StW.load (h:StW w P x E0 z tv W):(Instr.loadAt 50 (.pointer (some ⟨w.heap.size,0,none⟩))).run prog W=.ok (.agg tv) W:=aN h.t h.q.size
theorem StW.mono {c:Nat->Prop}(h:StW w P x E0 z tv W)(k:∀b,P b->c b):StW w c x E0 z tv W:=⟨h.q.mono fun _ D _=>⟨k _ D.1,D.2⟩,h.t,h.r,h.b,h.n⟩
theorem StW.grown {D:Option Nat}(h:StW w P x E0 z tv W)(M:w.heap.size+1<E0)(c:W.grownBy V D)(I:∀q,D=some q->E0<=q/\∀b,Apt_ P w.heap.size E0 b->b≠q):StW w P x E0 z tv V:=
 ⟨h.q.frame (fun b J K=>c.block b K fun e=>(I b e.symm).2 b J rfl) c.size,h.t.grown c fun e=>by have:=(I _ e.symm).1;omega,h.r.grown c fun e=>by have:=(I _ e.symm).1;omega,
  h.b.grown c h.b.size fun q e=>by have:=(I q e).1;omega,kO h.n c.size⟩
def Sp (G:Nat->Prop)(W:World)(A:Option Addr)(xs:List Value):Prop:=xs=[]\/(Reads W A xs/\∀a,A=some a->¬G a.block)
section
variable {G:Nat->Prop}{A:Option Addr}{xs:List Value}
theorem Sp.reads (h:Sp G W A xs):Reads W A xs:=by
 rcases h with rfl|h
 ·exact .inl rfl
 ·exact h.1
theorem Sp.below (h:Sp G W A xs)(c:Zr W V):Sp G V A xs:=h.imp id fun h=>⟨h.1.below c,h.2⟩
theorem Sp.row {g:Nat}(h:Sp G W A xs)(c:G g)(cs:Array Value):Sp G (W.setRow g cs) A xs:=h.imp id fun h=>⟨h.1.frame (fun a e _=>ak W g a.block cs fun k=>h.2 a e (k▸c)) (by simp),h.2⟩
theorem Sp.grown {c:Option Nat}(h:Sp G W A xs)(D:W.grownBy V c)(J:∀q,c=some q->G q):Sp G V A xs:=h.imp id fun h=>⟨h.1.frame (fun a e I=>D.block _ I fun k=>h.2 a e (J _ k.symm)) D.size,h.2⟩
theorem Sp.old (h:Reads W A xs)(D:∀b,b<W.heap.size->¬G b):Sp G W A xs:=by
 by_cases c:xs=[]
 ·exact .inl c
 ·exact .inr ⟨h,fun a e=>D _ (h.block_lt c a e)⟩
theorem Sp.own {base n c:Nat}{t:TypeId}(h:W.ownsRow base t 1 (.slice A n c) n xs)(D:∀b,base<=b->¬G b):Sp G W A xs:=
 .inr ⟨Reads.ng h,fun a e=>D _ (by subst e;exact(h.lt a.block rfl).1)⟩
end
def Bx (w:World)(E0 b:Nat):Prop:=w.heap.size<=b/\b<E0
def Ex (A:Option Addr)(P:Nat->Prop)(b:Nat):Prop:=P b/\∀a,A=some a->b≠a.block
end
theorem zaS {y:TxS}(ok:y.Ok)(near many:Int):(y.nC near many).length<=1000:=by
 unfold TxS.nC;split
 ·exact kP _
 ·split
  ·exact kP _
  ·rename_i h
   have c:y.nI near many=0:=by simpa using h
   unfold TxS.nI at c;split at c
   ·rename_i D;exact absurd c D
   ·rename_i D;exact(z6e ok (by simpa using D)).2
def stE (y:TxS)(l:List Int)(ps:List ByteArray):Int:=if aC y l≠0 then aC y l else if 8<ps.length\/eA ps=true then 3 else 0
theorem z6H (y:TxS)(x:DevS)(kd:Int)(l:List Int)(ps:List ByteArray):y.mQ x kd l ps=if stE y l ps≠0 then (stE y l ps,y,[])else y.store x kd l ps:=by
 unfold TxS.mQ stE;by_cases c:aC y l=0
 ·by_cases D:8<ps.length\/eA ps=true
  ·simp[c,D]
  ·simp[c,D]
 ·simp[c]
def stK (e:Int)(ps:List ByteArray)(k:Nat):Int:=if e≠0 then e else if eA (ps.take k)=true then 3 else 0
theorem z6Z {ps:List ByteArray}{k:Nat}(c:k<ps.length):eA (ps.take (k+1))=(eA (ps.take k)||decide (96<ps[k].size)):=by
 unfold eA;rw[kZ c,List.any_append];simp
theorem zaO {e:Int}{ps:List ByteArray}{k m:Nat}(h:stK e ps k≠0)(J:k<=m)(M:m<=ps.length):stK e ps m=stK e ps k:=by
 unfold stK at *;by_cases c:e≠0
 ·rw[if_pos c,if_pos c]
 ·rw[if_neg c]at h |-;rw[if_neg c];by_cases D:eA (ps.take k)=true
  ·rw[if_pos D,if_pos];unfold eA at *;obtain⟨p,K,I⟩:=List.any_eq_true.1 D;exact List.any_eq_true.2 ⟨p,List.IsPrefix.subset (List.take_prefix_take_left J) K,I⟩
  ·rw[if_neg D]at h;exact absurd rfl h
theorem TxS.qF {y:TxS}{l:List Int}{n:Nat}(h:(y.fit l n).1=0):(y.fit l n).2.2.length=n:=by
 unfold TxS.fit at *;by_cases c:n<l.length
 ·rw[if_pos c]at h |-;rw[kX];omega
 ·rw[if_neg c]at h |-;by_cases D:l.length<n
  ·rw[if_pos D]at h |-;have:=TxS.pR _ _ _ h
   rw[kY,<-this];omega
  ·rw[if_neg D];show l.length=n;omega
def pK (f:Int × TxS × List Int)(x:DevS)(kd:Int)(L:List Int)(ps:List ByteArray)(k:Nat):Int × TxS:=if f.1≠0 then (f.1,f.2.1)else f.2.1.puts x kd L ps k
section
variable {f:Int × TxS × List Int}{x:DevS}{kd:Int}{L:List Int}{ps:List ByteArray}{k m:Nat}
theorem zbH (h:(pK f x kd L ps k).1≠0)(D:k<=m):pK f x kd L ps m=pK f x kd L ps k:=by
 unfold pK at *;split
 ·rfl
 ·rename_i c;rw[if_neg c]at h;exact TxS.pM h D
theorem zda (ok:f.2.1.Ok)(c:f.2.1.Clean):(pK f x kd L ps k).2.Ok/\(pK f x kd L ps k).2.Clean:=by
 unfold pK;split
 ·exact⟨ok,c⟩
 ·exact⟨ok.puts c ..,c.puts ..⟩
theorem zbI {v:Int}{p:ByteArray}(h:(pK f x kd L ps k).1=0)(S:L[k]?=some v)(O:ps[k]?=some p):
  pK f x kd L ps (k+1)=if ((pK f x kd L ps k).2.part x kd v).2=0/\((pK f x kd L ps k).2.part x kd v).1=p then pK f x kd L ps k else (pK f x kd L ps k).2.write (dn (pK f x kd L ps k).2.s (pK f x kd L ps k).2.j (pK f x kd L ps k).2.i v) kd p:=by
 unfold pK at *;by_cases c:f.1≠0
 ·rw[if_pos c]at h;exact absurd h c
 ·simp only[if_neg c]at h |-;obtain⟨D,I,J⟩:=TxS.oV f.2.1 x kd L ps k;have K:L.getD k 0=v:=by rw[kN,S];rfl
  have M:ps.getD k ⟨#[]⟩=p:=by rw[kN,O];rfl
  show (if (f.2.1.puts x kd L ps k).1≠0 then _ else _)=_
  rw[if_neg (by simpa using h),K,M,D,I,J]
end
theorem zaQ {y:TxS}{x:DevS}{kd:Int}{l L:List Int}{ps:List ByteArray}(D:(y.fit l ps.length).1=0->L=(y.fit l ps.length).2.2):
  y.store x kd l ps=if (pK (y.fit l ps.length) x kd L ps ps.length).1≠0 then ((pK (y.fit l ps.length) x kd L ps ps.length).1,(pK (y.fit l ps.length) x kd L ps ps.length).2,[])else (0,(pK (y.fit l ps.length) x kd L ps ps.length).2,L):=by
 unfold TxS.store pK;by_cases c:(y.fit l ps.length).1≠0
 ·simp only[if_pos c]
 ·simp only[if_neg c,D (by simpa using c)]
def RSto (w:World)(P:Nat->Prop)(x:DevS)(r:Int × TxS × List Int)(e:Ending)(w':World):Prop:=
 ∃tv A c,e=.returned (.tuple #[.agg tv,.slice A r.2.2.length c,.int .i64 r.1])/\RTx w' P x r.2.1 tv/\(Reads w' A (r.2.2.map (.int .i64))/\∀a,A=some a->w.heap.size<=a.block)/\Zr w w'
theorem RSto.nil {w W:World}{P:Nat->Prop}{x:DevS}{E0 R:Nat}{z:TxS}{tv:Array Value}(e:Int)(J:RTx W (Apt_ P w.heap.size E0) x z tv)(I:Zr w W)(c:w.heap.size<=R)(D:R<E0):RSto w P x (e,z,[]) (.returned (.tuple #[.agg tv,.slice none 0 0,.int .i64 e])) (W.setRow R tv):=
 ⟨tv,none,0,rfl,(J.row (Apt_.ne c D) tv).oD,⟨Reads.nil,fun _ h=>by cases h⟩,Below.setRow I c tv⟩
theorem z3a {w:World}{P:Nat->Prop}{x:DevS}{y:TxS}{tv:Array Value}(hq:RTx w P x y tv)(cT:x.Calm)(hP:∀b,w.heap.size<=b->P b)(ok:y.Ok)(hc:y.Clean)(kd:Int)(A:Option Addr)(c:Nat)(l:List Int)(hl:l.length<=1000)(hA:SlI w A c l)(Ps:Option Addr)(pc:Nat)(ps:List ByteArray)(hm:ps.length<=1000)(ds:∀p∈ps,p.size<=1000000)(hR:Reads w Ps (ps.map .string)):
  Calls prog 86 #[.agg tv,.int .i64 kd,.slice A l.length c,.slice Ps ps.length pc] w (RSto w P x (y.mQ x kd l ps)):=by
 obtain⟨w0,bF⟩:=zex ((w.alloc (.cells tv 50)).alloc (.cells txZ 50));have B0:Zr w w0:=by rw[bF];exact zgr
 obtain⟨E0,cQ⟩:=zex w0.heap.size;have cc:StW w P x E0 y tv w0:=⟨cQ▸hq.apt B0 w0.heap.size,by rw[bF];exact zbn,by rw[bF];exact zbn,B0,by omega⟩
 have eN:E0=w.heap.size+2:=by rw[cQ,bF];simp
 have HN:Hid (∀b,E0<=b->Apt_ P w.heap.size E0 b):=kD (Apt_.new hP (by omega))
 have fs:=ji cc.q ok A c l hl (hA.below B0);have fa:=kD (hA.reads.below B0);have fc:=kD ((Sp.old (G:=(w.heap.size<=·)) hR fun b hb h=>by omega).below B0)
 have HD:=kD (z6H y x kd l ps);have br:=kD eN;have d5:Hid (A=none->l.length=0):=kD fun h=>by rw[(hA.nil h).1];rfl
 have bW:=hq.one;have co:=hq.size;clear hq hP hA hR cQ eN B0;unfold txZ txR at bF;go_enter func86,ntmps86
 go_upto_region 1 with fail
 rw[<-bF];clear bF;have l0:=cc.load;go_wp2_with (refine zlw l0 ?_)
 refine fs.mono ?_;rintro e w1 ⟨rfl,cl⟩;have ao:=cc.below cl;have d4:=kD (fa.out.below cl);have cJ:=kD (fc.out.below cl);clear fs l0 cc cl fa fc;go_upto_region 2 with fail
 obtain⟨b2,ac⟩:∃b2:Bool,b2=(decide (aC y l=0)&&decide (8<(ps.length:Int))):=⟨_,rfl⟩;go_cut [30]from 24 to 29 (fun s30 wx=>s30=.bool b2/\wx=w1)
 case first=>
  as_aux_lemma=>
  have g2:=kD ac;by_cases Y:aC y l=0
  ·have h2:Hid (b2=decide (8<(ps.length:Int))):=kD (by rw[ac];simp[Y])
   have h3:(aC y l==0)=true:=by simpa using Y
   clear ac Y;go_wp2_with fail
   go_meet
   case rel=>exact⟨by rw[h2.out],rfl⟩
  ·have h2:Hid (b2=false):=kD (by rw[ac];simp[Y])
   have h3:(aC y l==0)=false:=by simpa using Y
   clear ac Y;go_wp2_with fail
   go_meet
   case rel=>exact⟨by rw[h2.out],rfl⟩
 case rest=>
 obtain⟨rfl,hwx⟩:=hcut;replace hwx:=hwx.symm;subst hwx;obtain⟨e1,cW⟩:∃e1:Int,e1=if b2=true then 3 else aC y l:=⟨_,rfl⟩
 have cD:Hid (stK e1 ps ps.length=stE y l ps):=kD (by
  rw[cW,ac];unfold stK stE;rw[lj];by_cases Y:aC y l=0
  ·by_cases h2:8<ps.length
   ·simp[Y,h2,show (8:Int)<ps.length by omega]
   ·simp[Y,h2,show ¬(8:Int)<ps.length by omega]
  ·simp[Y])
 have cC:=kD cW;clear cW ac;go_upto_if 30 with fail
 go_cut [11]from 30 to 30 (fun s11 wx=>s11=.int .i64 e1/\wx=w1)
 case first=>
  as_aux_lemma=>
  cases b2
  ·go_wp2_with fail
   go_meet
   case rel=>exact⟨by rw[cC.out];rfl,rfl⟩
  ·go_wp2_with fail
   go_meet
   case rel=>exact⟨by rw[cC.out];rfl,rfl⟩
 case rest=>
 obtain⟨rfl,hwx⟩:=hcut;replace hwx:=hwx.symm;subst hwx;clear cC;go_upto_block 0 with fail
 go_cut [11,12]from 31 to 46 (fun s11 _ wx=>s11=.int .i64 (stE y l ps)/\wx=w1)
 case first=>
  as_aux_lemma=>
  have f1:Hid (∀k,(h:k<ps.length)->stK e1 ps k=0->stK e1 ps (k+1)=if 96<ps[k].size then 3 else 0):=kD (by
   intro k h Y;unfold stK at *;by_cases he:e1≠0
   ·rw[if_pos he]at Y;exact absurd Y he
   ·rw[if_neg he]at Y |-;have h2:eA (ps.take k)=false:=by
     cases e:eA (ps.take k)with
     | false=>rfl
     | true=>rw[if_pos e]at Y;cases Y
    rw[z6Z h,h2];by_cases h3:96<ps[k].size
    ·simp[h3]
    ·simp[h3])
  have cM:Hid (∀k,stK e1 ps k≠0->k<=ps.length->stE y l ps=stK e1 ps k):=kD fun k Y h2=>by rw[<-cD.out];exact zaO Y h2 (kE _)
  have fS:Hid (stK e1 ps 0=e1):=kD (by unfold stK eA;by_cases h:e1=0<;>simp[h])
  go_wp2_with fail
  go_loopw [11,12] (fun e q wr=>∃k:Nat,k<=ps.length/\q=.int .i64 k/\e=.int .i64 (stK e1 ps k)/\wr=w1) (fun _ q _=>ps.length - (RowKit.intOf q).toNat)
  case atStart=>exact⟨0,kP _,rfl,by rw[fS.out],rfl⟩
  case round=>
   obtain⟨k,hk,rfl,rfl,hw⟩:=hrel;replace hw:=hw.symm;subst hw;by_cases S:k<ps.length
   rotate_left
   ·obtain rfl:k=ps.length:=by omega
    rw[cD.out];go_wp2_with fail
    go_meet
    case rel=>exact⟨rfl,rfl⟩
   by_cases h0:stK e1 ps k=0
   rotate_left
   ·have g5:(stK e1 ps k==0)=false:=by simpa using h0
    have HF:=kD (cM.out k h0 hk);clear h0;generalize stK e1 ps k=ev at *;go_wp2_with fail
    go_meet
    case rel=>exact⟨by rw[HF.out],rfl⟩
   have ej:=kD (f1.out k S h0);rw[h0];clear h0;obtain⟨b,off,rfl,hb,gA⟩:=cJ.out.reads.at_ (k:=k) (by simpa using S)
   rw[lf]at gA;have g0:=ds ps[k] (li S);generalize ps[k]=p at *;by_cases h9:(96:Int)<p.size
   ·have HX:Hid (stK e1 ps (k+1)=3):=kD (by rw[ej.out,if_pos (by omega)])
    go_wp2_with fail
    go_roundw
    case rel=>exact⟨k+1,by omega,by go_num,by rw[HX.out],by first|trivial|rfl⟩
    case measure=>simp[RowKit.intOf];omega
   ·have HX:Hid (stK e1 ps (k+1)=0):=kD (by rw[ej.out,if_neg (by omega)])
    go_wp2_with fail
    go_roundw
    case rel=>exact⟨k+1,by omega,by go_num,by rw[HX.out],by first|trivial|rfl⟩
    case measure=>simp[RowKit.intOf];omega
 case rest=>
 obtain⟨rfl,hwx⟩:=hcut;replace hwx:=hwx.symm;subst hwx;clear cD;by_cases hE:stE y l ps=0
 rotate_left
 ·as_aux_lemma=>
  have HX:Hid (y.mQ x kd l ps=(stE y l ps,y,[])):=kD (by rw[HD.out,if_pos hE])
  clear HD;generalize stE y l ps=E at *;have g6:(E != 0)=true:=by simpa using hE
  have l1:=ao.load;have aL:=aR ao.r rfl co bW;have b3:=ao.r.setRow (cs':=tv);have bG:=RSto.nil (R:=w.heap.size+1) E ao.q ao.b (by omega) (by have:=br.out;omega)
  clear hE;go_wp2_with (first|(refine zlw l1 ?_)|(refine zsb aL ?_))
  refine bodyPost_ret (cu (cs:=tv) rfl rfl rfl rfl b3 underlying50 (by rw[co];kernel_rfl)) rfl ?_
  rw[HX.out];exact bG
 have d6:Hid (y.mQ x kd l ps=y.store x kd l ps):=kD (by rw[HD.out,if_neg (by simpa using hE)])
 have hy:l.length<=8/\ps.length<=8:=by
  unfold stE at hE;by_cases Y:aC y l=0
  ·refine⟨z1W Y,?_⟩
   by_cases h2:8<ps.length
   ·simp[Y,h2]at hE
   ·omega
  ·simp[Y]at hE
 rw[hE];clear hE HD;obtain⟨i0,hi,fN,fQ,fO⟩:=info_parts Tryz.pX;have fL:=d4.out;have fn:=d5.out;have bT:=kD ao;clear ao;go_upto_region 12 with (at_builtin;refine dj _ rfl (.tmp 51) (.tmp 52) _ rfl w1.heap.size 3 i0 (.int .i64 0) 8 underlying53 hi fN fQ fO rfl (.slice (some ⟨w1.heap.size,0,none⟩) 0 0) 0 [] rfl (World.ownsRow_made w1 #[] 0 (kE _) (by simp) rfl) A l.length c (l.map (.int .i64)) rfl (by simp) fn (fL.alloc _) (gG l) (by simp only[maxLen];omega) (by omega) (by simp) ?_;intro v1 w2 ba fv fk)
 have ac:Zr w1 w2:=((kF _ _).alloc (kE _) _).grown fv (by simp) (fun k hk=>by simp[Value.ownBlock]at hk;omega)
 have I:w2.ownsRow E0 3 1 v1 l.length (l.map (.int .i64)):=aI (by simpa using ba) bT.out.n
 have bR:=cJ.out.below ac;obtain⟨a1,c1,rfl⟩:=aw I;have a7:StW w (Ex a1 P) x E0 y tv w2:=by
  have h:=bT.out;exact StW.below ⟨h.q.mono fun b Y h2=>⟨⟨Y.1,fun a e=>by subst e;have:=(ba.lt a.block rfl).1;omega⟩,Y.2⟩,h.t,h.r,h.b,h.n⟩ ac
 have en:Hid (∀b,w2.heap.size<=b->Apt_ (Ex a1 P) w.heap.size E0 b):=kD fun b hb=>⟨⟨(HN.out b (kO a7.n hb)).1,fun a e=>by subst e;have:=(ba.lt a.block rfl).2;omega⟩,.inr (kO a7.n hb)⟩
 have bM:w.heap.size<E0:=by have:=br.out;omega
 clear ba fv fk ac cJ d4 fn fL d5;obtain⟨L1,b5⟩:=zex (l.take ps.length);have an:Hid (L1=l.take ps.length/\(l.length<=ps.length->L1=l)/\(ps.length<l.length->L1.length=ps.length)):=kD ⟨b5,fun h=>by rw[b5,mj h],fun h=>by rw[b5,kX];omega⟩
 obtain⟨r,hr⟩:∃r:Int × TxS,r=if ps.length<l.length then y.free (l.drop ps.length)else (0,y):=⟨_,rfl⟩
 have HR:=kD hr;clear b5 hr;go_upto_if 58 with fail
 go_cut [11,13]from 58 to 71 (fun s11 s13 wx=>∃d2 A1 c1,s11=.int .i64 r.1/\s13=.slice A1 L1.length c1/\StW w (Ex A1 P) x E0 r.2 d2 wx/\Sp (Bx w E0) wx A1 (L1.map (.int .i64))/\Sp (w.heap.size<=·) wx Ps (ps.map .string)/\(l.length<=ps.length->wx.ownsRow E0 3 1 (.slice A1 l.length c1) l.length (l.map (.int .i64)))/\∀a,A1=some a->E0<=a.block)
 case first=>
  as_aux_lemma=>
  by_cases S:ps.length<l.length
  ·obtain⟨g,g3,g4,b4,gF,gN,g1,-⟩:=I.2.resolve_left (fun hh=>by have:=hh.2;omega)
   simp only[Value.slice.injEq]at b4;obtain⟨rfl,-,rfl⟩:=b4;have b0:Hid (r=y.free (l.drop ps.length)):=kD (by rw[HR.out,if_pos S])
   have c9:=zbV (a7.q.below (kF w2.heap.size w2).drew) en.out ok hc (some ⟨g,ps.length,none⟩) (c1 - ps.length) (l.drop ps.length) (by rw[ma];omega) (by rw[List.map_drop];exact((Reads.ng I).qH).below (kF _ _).drew)
   rw[ma,<-b0.out]at c9;have ci:∀W,Zr w2 W->Blk W w.heap.size 50 tv:=fun W hW=>a7.t.mD hW
   have q5:ps.length<c1:=by omega
   have q6:¬c1=ps.length:=by omega
   have q7:ps.length<=l.length:=by omega
   have HO:=kD I;have cL:=kD a7;have cK:=kD bR;clear I a7 bR gN;go_upto_region 13 with fail
   refine dQ (Us.takes [0,1,2,3,4] (.one 5 (Us.nG [6,7,8] (.late 9 (.late 10 .done))))) 9 (fun W=>Blk W w.heap.size 50 tv) (by kernel_rfl) (by kernel_rfl) (fun _ _ _ _ _ h=>h) (ci _ (kF _ _).drew) ?_
   simp only[Us.takes,Us.nG,Us.fill,kT,kV];refine dC (by rfl) (.agg tv) (fun w' bD=>cr 50 _ rfl rfl (aN bD co)) ?_
   (try simp only[Act.put,kJ,kH,kI])
   iterate 4 refine zuk ?_
   refine du fun K hK=>?_
   go_simp;refine c9.mono ?_;rintro e w5 ⟨J,rfl,T,bu⟩;have M:Zr w2 w5:=(kF _ _).drew.trans bu;refine hK _ _ (ci _ M) ?_;clear hK K c9;iterate 3 refine zup ?_
   have aL:=aR (ci _ M) co T.size T.one;have cg:=cL.out.put bM T M;have ca:=(cK.out.below M).row (g:=w.heap.size) (kE _) J;have b8:Sp (Bx w E0) (w5.setRow w.heap.size J) (some ⟨g,0,none⟩) (L1.map (.int .i64)):=by
    have h:=((Sp.own (G:=Bx w E0) HO.out fun b hb e=>by have:=e.2;omega).below M).row (g:=w.heap.size) ⟨kE _,bM⟩ J
    rcases h with h|h
    ·exact .inl (by rw[an.out.1,List.map_take,h,List.take_nil])
    ·exact .inr ⟨by rw[an.out.1,List.map_take];exact h.1.take _,h.2⟩
   refine di fun K hK=>?_
   refine zob aL ?_;refine hK _ _ ?_;clear hK K aL;(try simp only[Act.put,kJ,kH,kI])
   generalize w5.setRow w.heap.size J=W6 at *;refine di fun K hK=>?_
   go_simp;refine hK _ _ ?_;clear hK K;refine fI ?_;have bK:=kD (an.out.2.2 S);have q8:ps.length<=c1:=by omega
   clear ci T;go_wp2_with fail
   go_meet
   case rel=>exact⟨J,some ⟨g,0,none⟩,c1,rfl,by rw[bK.out],cg,b8,ca,fun h=>absurd h (by omega),fun a e=>by cases e;exact(HO.out.lt _ rfl).1⟩
  ·have e4:=an.out.2.1 (by omega)
   have b0:Hid (r=(0,y)):=kD (by rw[HR.out,if_neg S])
   have HO:=kD I;have cL:=kD a7;have cK:=kD bR;have bK:=kD e4;clear I a7 bR e4;go_wp2_with fail
   go_meet
   case rel=>exact⟨tv,a1,c1,by rw[b0.out],by rw[bK.out],by rw[b0.out];exact cL.out,by rw[bK.out];exact Sp.own HO.out fun b hb e=>by have:=e.2;omega,cK.out,fun _=>HO.out,fun a e=>by subst e;exact(HO.out.lt a.block rfl).1⟩
 case rest=>
 obtain⟨d2,A1,c2,rfl,rfl,av,b7,bS,b9,cw⟩:=hcut;have d7:=kD cw;clear cw;have ex:=kD I;clear I a7 bR bT;obtain⟨W3,gg⟩:=zex wc;subst gg;obtain⟨f,hf⟩:=zex (y.fit l ps.length);have HF:=kD hf;have hz:L1.length<=8:=by have Y:=an.out.1;rw[Y,kX];omega
 clear hf;go_upto_if 76 with fail
 go_cut [11,13,14,15,16,17]from 76 to 102 (fun s11 s13 _ _ _ _ wx=>∃d3 A2 c2 D,s11=.int .i64 f.1/\s13=.slice A2 D.length c2/\StW w P x E0 f.2.1 d3 wx/\Sp (Bx w E0) wx A2 (D.map (.int .i64))/\Sp (w.heap.size<=·) wx Ps (ps.map .string)/\(f.1=0->D=f.2.2)/\D.length<=2000/\∀a,A2=some a->E0<=a.block)
 case first=>
  as_aux_lemma=>
  by_cases fB:l.length<ps.length
  rotate_left
  ·have bk:Hid (f=(r.1,r.2,L1)):=kD (by
    rw[HF.out,HR.out,an.out.1];unfold TxS.fit;by_cases S:ps.length<l.length
    ·rw[if_pos S,if_pos S]
    ·rw[if_neg S,if_neg fB,if_neg S,mj (by omega)])
   have hC:¬L1.length<ps.length:=by rw[an.out.1,kX];omega
   have H3:=kD (And.intro av (And.intro b7 bS));clear av b7 bS b9;go_wp2_with fail
   go_meet
   case rel=>exact⟨d2,A1,c2,L1,by rw[bk.out],rfl,by rw[bk.out];exact H3.out.1.mono fun _ h=>h.1,H3.out.2.1,H3.out.2.2,fun _=>by rw[bk.out],by omega,d7.out⟩
  have e1:l=L1:=(an.out.2.1 (by omega)).symm
  subst e1;have e2:(0,y)=r:=by rw[HR.out,if_neg (by omega)]
  subst e2;have hO:=b9 (by omega)
  have bk:Hid (f=((y.take (l.getD (l.length - 1) 0) ((ps.length:Int) - l.length)).1,(y.take (l.getD (l.length - 1) 0) ((ps.length:Int) - l.length)).2,l++y.nC (l.getD (l.length - 1) 0) ((ps.length:Int) - l.length))):=kD (by rw[HF.out];unfold TxS.fit;rw[if_neg (by omega),if_pos fB])
  clear HR HF an ex b9 b7;dsimp only at *
  go_upto_if 79 with fail
  obtain⟨near,bC⟩:=zex (l.getD (l.length - 1) 0);rw[<-bC]at bk;have es:=kD bC;clear bC;go_cut [14]from 79 to 85 (fun s14 wx=>s14=.int .i64 near/\wx=W3)
  case first=>
   as_aux_lemma=>
   by_cases hg:0<l.length
   ·obtain⟨g,off,b4,gF,ft⟩:=(Reads.ng hO).at_ (k:=l.length - 1) (by simp;omega)
    rw[lf]at ft;have fA:near=l[l.length - 1]:=by rw[es.out,kN,kQ (by omega)];rfl
    rw[<-fA]at ft;have e2:((l.length:Int) - 1).toNat=l.length - 1:=by omega
    have e3:(0:Int)<=(l.length:Int) - 1:=by omega
    have e1:IntKind.i64.wrap ((l.length:Int) - 1)=(l.length:Int) - 1:=by rw[kW];omega
    subst b4;clear fA;go_wp2_with fail
    go_meet
    case rel=>exact⟨rfl,rfl⟩
   ·have f4:Hid (near=0):=kD (by rw[es.out,List.length_eq_zero_iff.1 (show l.length=0 by omega)];rfl)
    go_wp2_with fail
    go_meet
    case rel=>exact⟨by rw[f4.out],rfl⟩
  case rest=>
  obtain⟨rfl,hwx⟩:=hcut;replace hwx:=hwx.symm;subst hwx;have l3:=av.load;have hD:IntKind.i64.wrap ((ps.length:Int) - l.length)=(ps.length:Int) - l.length:=by rw[kW];omega
  have dv:=zc5 av.q (fun b hb=>⟨⟨(HN.out b (kO av.n hb)).1,fun a e=>by subst e;have:=(hO.lt a.block rfl).2;omega⟩,.inr (kO av.n hb)⟩) ok hc near ((ps.length:Int) - l.length)
  have g7:=zaS ok near ((ps.length:Int) - l.length);unfold RTake at dv;generalize y.take near ((ps.length:Int) - l.length)=tk at *;generalize y.nC near ((ps.length:Int) - l.length)=al at *;have fM:=av.q.size;have ey:=kD hO;have U:=kD av;have fX:=kD bS;clear hO av bS;go_wp2_with (refine zlw l3 ?_)
  refine dv.mono ?_;rintro e w5 ⟨J,A5,c5,rfl,T,⟨e8,eW⟩,bu⟩;have bZ:=T.size;have bX:=T.one;obtain⟨W6,ck⟩:=zex (World.setRow (w5.alloc (.cells txZ 50)) w5.heap.size J);have cA:=aR (Blk.new w5 50 txZ) rfl bZ bX;have b6:Blk W6 w5.heap.size 50 J:=by rw[ck];exact Blk.setRow (Blk.new _ _ _)
  have cm:Zr w5 W6:=by rw[ck];exact Below.setRow ((kF _ _).alloc (kE _) _) (kE _) _
  have bP:=bu.trans (cm.mono bu.size);have cS:=U.out.put bM (T.below cm) bP;have cR:(W6.setRow w.heap.size J).ownsRow E0 3 1 (.slice A1 l.length c2) l.length (l.map (.int .i64)):=ar (aq ey.out bP) fun q hq=>ak _ _ _ _ (by have:=(ey.out.lt q hq).1;omega)
  have e6:=(fX.out.below bP).row (g:=w.heap.size) (kE _) J;have ez:Sp (Bx w E0) (W6.setRow w.heap.size J) A5 (al.map (.int .i64)):=Sp.row (G:=Bx w E0) (.inr ⟨e8.below cm,fun a e k=>by have:=eW a e;have:=U.out.n;have:=k.2;omega⟩) ⟨kE _,bM⟩ J
  have l6:=aN b6 bZ;have cB:=aR (U.out.t.mD bP) fM bZ bX;clear dv l3 T e8 eW bu;go_upto_region 20 with (refine zsb cA ?_)
  rw[<-ck];clear ck cA cm bP b6;go_upto_region 21 with (first|(refine zlw l6 ?_)|(refine zsb cB ?_))
  clear cB l6;generalize W6.setRow w.heap.size J=W7 at *;have e9:=ez.reads;have gV:A5=none->al.length=0:=fun e=>by
   subst e;rcases e9 with h|⟨_,_,h,_⟩
   ·simpa using h
   ·cases h
  have f2:=cS.n;go_wp2_with (at_builtin;refine dj _ rfl (.tmp 100) (.tmp 101) _ rfl E0 3 i0 (.int .i64 0) 8 underlying53 hi fN fQ fO rfl (.slice A1 l.length c2) l.length (l.map (.int .i64)) rfl cR A5 al.length c5 (al.map (.int .i64)) rfl (by simp) gV e9 (gG al) (by simp only[maxLen];omega) (by omega) f2 ?_;intro v8 w8 bb db fl;obtain⟨a8,c8,rfl⟩:=aw bb)
  have bJ:∀q,(Value.slice A1 l.length c2).ownBlock=some q->E0<=q/\∀a,A1=some a->a.block=q:=fun q e=>⟨(cR.lt q e).1,fun a ea=>by subst ea;simpa[Value.ownBlock]using e⟩
  have f7:=cS.grown (by have:=br.out;omega) db fun q e=>⟨(bJ q e).1,fun b hb k=>by
   cases A1 with
   | none=>cases e
   | some a=>exact hb.1.2 a rfl (k.trans ((bJ q e).2 a rfl).symm)⟩
  have f5:=e6.grown db fun q e=>by have:=(bJ q e).1;omega
  have bU:(l++al).length=l.length+al.length:=kY;have f3:Sp (Bx w E0) w8 a8 ((l++al).map (.int .i64)):=by
   rw[List.map_append];exact Sp.own (n:=l.length+al.length) (c:=c8) bb fun b hb e=>by have:=e.2;omega
  have eg:=kD bU;have d8:Hid (∀a,a8=some a->E0<=a.block):=kD fun a e=>by subst e;exact(bb.lt a.block rfl).1
  clear cS e6 cR ez bb db fl bJ bU;go_meet
  case rel=>exact⟨J,a8,c8,l++al,by rw[bk.out],by rw[eg.out],by rw[bk.out];exact f7.mono fun _ h=>h.1,f3,f5,fun _=>by rw[bk.out],by rw[eg.out];omega,d8.out⟩
 case rest=>
 obtain⟨d3,A2,c4,D,rfl,rfl,fd,e0,e5,cX,ht,cz⟩:=hcut;have fT:=kD cz;clear cz;clear av b7 bS b9 HR an ex en;have bB:=HF.out;have fR:f.2.1.Ok:=by rw[bB];exact ok.fit _ _
 have fr:f.2.1.Clean:=by rw[bB];exact hc.fit _ _
 have cn:f.1=0->D.length=ps.length:=fun h=>by rw[cX h,bB];exact TxS.qF (by rw[<-bB];exact h)
 have HX:Hid (y.mQ x kd l ps=if (pK f x kd D ps ps.length).1≠0 then ((pK f x kd D ps ps.length).1,(pK f x kd D ps ps.length).2,[])else (0,(pK f x kd D ps ps.length).2,D)):=kD (by
  rw[d6.out,bB];exact zaQ fun h=>by rw[<-bB]at h |-;exact cX h)
 have cM:Hid (∀k,k<=D.length->(pK f x kd D ps k).1≠0\/k=D.length->pK f x kd D ps ps.length=pK f x kd D ps k):=kD fun k hk h=>by
  by_cases h0:f.1=0
  ·rcases h with h|h
   ·exact zbH h (by rw[<-cn h0];exact hk)
   ·rw[h,cn h0]
  ·unfold pK;rw[if_pos h0,if_pos h0]
 have cF:Hid (pK f x kd D ps 0=(f.1,f.2.1)):=kD (by unfold pK;split;rfl;rename_i h;exact Prod.ext (by show 0=f.1;omega) rfl)
 have bK:Hid (∀k,(pK f x kd D ps k).1=0->D.length=ps.length):=kD fun k h=>by
  by_cases h0:f.1=0
  ·exact cn h0
  ·unfold pK at h;rw[if_pos h0]at h;exact absurd h h0
 have fW:Hid (∀k,(pK f x kd D ps k).2.Ok/\(pK f x kd D ps k).2.Clean):=kD fun k=>zda fR fr
 have b1:=kD (And.intro fd (And.intro e0 e5));have f0:=kD ds;clear bB fR fr cX cn HF d6 fd e0 e5 ds;go_wp2_with fail
 go_loopw [11,18] (fun e q wr=>∃(k:Nat) (O:Array Value),k<=D.length/\q=.int .i64 k/\e=.int .i64 (pK f x kd D ps k).1/\StW w P x E0 (pK f x kd D ps k).2 O wr/\Sp (Bx w E0) wr A2 (D.map (.int .i64))/\Sp (w.heap.size<=·) wr Ps (ps.map .string)) (fun _ q _=>D.length - (RowKit.intOf q).toNat)
 case atStart=>exact⟨0,d3,kP _,rfl,by rw[cF.out],by rw[cF.out];exact b1.out.1,b1.out.2.1,b1.out.2.2⟩
 case round=>
  obtain⟨k,O,hk,rfl,rfl,hS,bQ,cb⟩:=hrel;clear cF b1;have bt:=hS.q.size;have bW:=hS.q.one;by_cases hE:(pK f x kd D ps k).1=0/\k<D.length
  rotate_left
  ·as_aux_lemma=>
   have hd:(pK f x kd D ps k).1≠0\/((pK f x kd D ps k).1=0/\k=D.length):=by
    by_cases h:(pK f x kd D ps k).1=0
    ·exact .inr ⟨h,by have:=fun h2=>hE ⟨h,h2⟩;omega⟩
    ·exact .inl h
   have HF:=kD (cM.out k hk (hd.imp id fun h=>h.2))
   have dT:=HX.out;rw[HF.out]at dT;have cN:=kD dT;clear hE HX dT;generalize pK f x kd D ps k=pk at *;obtain⟨pe,z⟩:=pk;simp only at cN hS hd |-
   have l1:=hS.load;have aL:=aR hS.r rfl bt bW;have b3:=hS.r.setRow (cs':=O);have fK:=Apt_.ne (P:=P) (B:=w.heap.size) (E:=E0) (g:=w.heap.size+1) (by omega) (by have:=br.out;omega)
   have fF:=(hS.q.row fK O).oD;have B2:=Below.setRow hS.b (show w.heap.size<=w.heap.size+1 by omega) O
   have e7:=(bQ.row (g:=w.heap.size+1) ⟨by omega,by have:=br.out;omega⟩ O).reads
   have bN:=kD (And.intro fF (And.intro B2 e7));have bG:=RSto.nil (R:=w.heap.size+1) pe hS.q hS.b (by omega) (by have:=br.out;omega)
   clear fF B2 e7 bQ cb fK;rcases hd with hd|⟨rfl,hd⟩
   ·have cP:Hid (y.mQ x kd l ps=(pe,z,[])):=kD (by rw[cN.out,if_pos hd])
    have g9:(pe != 0)=true:=by simpa using hd
    have gB:(pe==0)=false:=by simpa using hd
    by_cases ha:k<D.length
    all_goals
     clear hd;go_wp2_with (first|(refine zlw l1 ?_)|(refine zsb aL ?_))
     refine bodyPost_ret (cu (cs:=O) rfl rfl rfl rfl b3 underlying50 (by rw[bt];kernel_rfl)) rfl ?_
     rw[cP.out];exact bG
   ·have cP:Hid (y.mQ x kd l ps=(0,z,D)):=kD (by rw[cN.out,if_neg (by decide)])
    subst hd;clear bG;go_wp2_with (first|(refine zlw l1 ?_)|(refine zsb aL ?_))
    refine bodyPost_ret (cu (cs:=O) rfl rfl rfl rfl b3 underlying50 (by rw[bt];kernel_rfl)) rfl ?_
    rw[cP.out];exact⟨O,A2,c4,rfl,bN.out.1,⟨bN.out.2.2,fun a e=>by have:=fT.out a e;have:=br.out;omega⟩,bN.out.2.1⟩
  obtain⟨h0,S⟩:=hE;have fD:k<ps.length:=by rw[<-bK.out k h0];exact S
  obtain⟨v,hv⟩:∃v,D[k]?=some v:=⟨_,kQ S⟩;obtain⟨p,hp⟩:∃p,ps[k]?=some p:=⟨_,kQ fD⟩;have bO:=kD (zbI (x:=x) (kd:=kd) h0 hv hp);have g0:=f0.out p (List.mem_of_getElem? hp);obtain⟨d1,cU⟩:=fW.out k;obtain⟨b,bn,rfl,gm,bw⟩:=bQ.reads.at_ (k:=k) (by simpa using S)
  rw[lf,(mf.1 hv).2]at bw;obtain⟨bp,bq,rfl,gs,bA⟩:=cb.reads.at_ (k:=k) (by simpa using fD)
  rw[lf,(mf.1 hp).2]at bA;have bL:Hid (∀W,Zr wr W->Blk W w.heap.size 50 O/\W.cell? ⟨b,bn+k,none⟩=some (.int .i64 v)/\W.cell? ⟨bp,bq+k,none⟩=some (.string p)):=kD fun W hW=>⟨hS.t.mD hW,(hW.cell (p:=⟨b,bn+k,none⟩) gm).trans bw,(hW.cell (p:=⟨bp,bq+k,none⟩) gs).trans bA⟩
  have H0:=kD h0;rw[h0];clear h0 hv hp bw bA;generalize pK f x kd D ps k=pk at *;obtain⟨pe,z⟩:=pk;obtain rfl:pe=0:=H0.out;clear H0;simp only at bO hS d1 cU
  have HS:=kD (And.intro hS (And.intro bQ cb));clear hS bQ cb;go_wp2_with fail
  have bw:=(bL.out _ (kF _ _).drew).2.1;refine zrm [.take 0,.take 1,.take 2,.take 3,.take 4,.take 5,.one 6,.take 7,.take 8,.take 9,.take 10,.take 11] 12 (fun W=>Blk W w.heap.size 50 O/\W.cell? ⟨b,bn+k,none⟩=some (.int .i64 v)/\W.cell? ⟨bp,bq+k,none⟩=some (.string p)) (bL.out _ (kF _ _).drew) ?_
  simp only[kR,kS,Ms.fill,kT,kV];refine ai (by rfl) (.agg O) (fun w' bD=>cr 50 _ rfl rfl (aN bD.1 bt)) ?_
  (try simp only[Act.put,kJ,kH,kI])
  iterate 5 refine ztk ?_
  refine ah (by rfl) fun K hK=>?_
  go_simp;refine(z5m (HS.out.1.q.below (kF wr.heap.size wr).drew) cT d1 cU kd v).mono ?_;rintro e w3 ⟨rfl,fo⟩;have ab:Zr wr w3:=(kF _ _).drew.trans fo;refine hK _ _ (fun _=>bL.out _ ab) ?_
  clear hK K bw fo;have U:=kD (And.intro (HS.out.1.below ab) (And.intro (HS.out.2.1.below ab) (HS.out.2.2.below ab)));have ao:=bL.out _ ab;have a2:Hid (∀W,Zr w3 W->Blk W w.heap.size 50 O/\W.cell? ⟨b,bn+k,none⟩=some (.int .i64 v)/\W.cell? ⟨bp,bq+k,none⟩=some (.string p)):=kD fun W hW=>bL.out W (ab.trans (hW.mono ab.size))
  clear HS bL;generalize z.part x kd v=Pp at *;obtain⟨pd,cp⟩:=Pp;simp only at bO |-
  iterate 5 refine ztk ?_
  refine ax ?_;have bA:=ao.2.2;clear ab ao;by_cases bc:cp=0/\pd=p
  ·as_aux_lemma=>
   obtain⟨rfl,rfl⟩:=bc;have HF:Hid (pK f x kd D ps (k+1)=(0,z)):=kD (by rw[bO.out,if_pos (show (0:Int)=0/\pd=pd from ⟨rfl,rfl⟩)])
   go_wp2_with fail
   go_roundw
   case rel=>exact⟨k+1,O,by omega,by go_num,by rw[HF.out],by rw[HF.out];exact U.out.1,U.out.2.1,U.out.2.2⟩
   case measure=>simp[RowKit.intOf];omega
  have HF:Hid (pK f x kd D ps (k+1)=z.write (dn z.s z.j z.i v) kd p):=kD (by rw[bO.out];exact if_neg bc)
  have hd:(cp==0)=false\/((cp==0)=true/\(pd.toList==p.toList)=false):=by
   by_cases h:cp=0
   ·exact .inr ⟨by simpa using h,z2s fun e=>bc ⟨h,e⟩⟩
   ·exact .inl (by simpa using h)
  clear bO bc;go_upto_region 26 with fail
  go_cut [132]from 123 to 131 (fun s132 wx=>s132=.bool false/\wx=w3)
  case first=>
   as_aux_lemma=>
   rcases hd with hd|⟨hd,gB⟩
   all_goals
    go_wp2_with fail
    go_meet
    case rel=>exact⟨rfl,rfl⟩
  case rest=>
  as_aux_lemma=>
  obtain⟨rfl,hwx⟩:=hcut;replace hwx:=hwx.symm;subst hwx;clear hd bA;go_upto_region 27 with fail
  have bw:=(a2.out _ (kF _ _).drew).2.1;have bA:=(a2.out _ (kF _ _).drew).2.2;refine dQ (Us.takes [0,1,2,3,4,5,7,8,9,10,11] (.one 6 (.one 12 (Us.nG [13,14,15] (.late 16 (.late 17 .done)))))) 16 (fun W=>Blk W w.heap.size 50 O/\W.cell? ⟨b,bn+k,none⟩=some (.int .i64 v)/\W.cell? ⟨bp,bq+k,none⟩=some (.string p)) (by kernel_rfl) (by kernel_rfl) (fun _ _ _ _ _ h=>h) (a2.out _ (kF _ _).drew) ?_
  simp only[Us.takes,Us.nG,Us.fill,kT,kV];refine dC (by rfl) (.agg O) (fun w' bD=>cr 50 _ rfl rfl (aN bD.1 bt)) ?_
  (try simp only[Act.put,kJ,kH,kI])
  refine dC (by rfl) (.agg O) (fun w' bD=>cr 50 _ rfl rfl (aN bD.1 bt)) ?_
  (try simp only[Act.put,kJ,kH,kI])
  iterate 9 refine zuk ?_
  refine du fun K hK=>?_
  go_simp;refine(z4f (U.out.1.q.below (kF w3.heap.size w3).drew) v).mono ?_;rintro e w4 ⟨rfl,fq⟩;have a6:Zr w3 w4:=(kF _ _).drew.trans fq;refine hK _ _ (a2.out _ a6) ?_;clear hK K fq bw bA;refine du fun K hK=>?_
  go_simp;refine(zaI (U.out.1.q.below a6) (fun b hb=>HN.out b (kO U.out.1.n (kO a6.size hb))) d1 cU (dn z.s z.j z.i v) kd p (by unfold maxLen;omega)).mono ?_
  rw[<-HF.out];rintro e w5 ⟨J,rfl,T,bu⟩;have M:Zr w3 w5:=a6.trans (bu.mono a6.size);refine hK _ _ (a2.out _ M) ?_;clear hK K a6;iterate 3 refine zup ?_
  have aL:=aR (a2.out _ M).1 bt T.size T.one;have cg:=U.out.1.put bM T M;have b8:=(U.out.2.1.below M).row (g:=w.heap.size) ⟨kE _,bM⟩ J;have ca:=(U.out.2.2.below M).row (g:=w.heap.size) (kE _) J;refine di fun K hK=>?_
  refine zob aL ?_;refine hK _ _ ?_;clear hK K aL T;(try simp only[Act.put,kJ,kH,kI])
  generalize w5.setRow w.heap.size J=W6 at *;refine di fun K hK=>?_
  go_simp;refine hK _ _ ?_;clear hK K;refine fI ?_;have H6:=kD (And.intro cg (And.intro b8 ca));clear cg b8 ca;go_wp2_with fail
  go_roundw
  case rel=>exact⟨k+1,J,by omega,by go_num,rfl,H6.out.1,H6.out.2.1,H6.out.2.2⟩
  case measure=>simp[RowKit.intOf];omega
end Go.Proofs.YtejmknghkbobnaaGreatDoor
