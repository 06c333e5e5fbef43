import Derived.Test.YtejmknghkbobnaaGreatDoorPart05
import Derived.Laws.BitsAllLaws
import Derived.Shelf.Spec.RuneCount
set_option linter.all false
set_option maxRecDepth 100000
set_option maxHeartbeats 0
namespace Go.Proofs.YtejmknghkbobnaaGreatDoor
open Go.Proofs.Tryz
open Go.RowKit Go.Maps
def DevS.added (x:DevS)(a:Int)(s:List Int):DevS:={ x with cache:=x.cache++[(a,s)],taken:=x.taken+1,power:=if 0<x.power then x.power - 1 else x.power }
def DevS.room (x:DevS):DevS:=if x.cache.length=400 then x.mX else x
def DevS.write (x:DevS)(a:Int)(s:List Int):Int × DevS:=
 if x.atE a≠0 then (x.atE a,x)
 else if x.power=0\/x.taken=1000000000000 then (13,{ x with off:=true })
 else (0,x.room.added a s)
theorem DevS.Ok.room {x:DevS}(h:x.Ok):x.room.Ok/\x.room.cache.length<400/\x.room.stable.length=x.stable.length/\x.room.taken=x.taken/\x.room.power=x.power/\x.room.off=x.off:=by
 unfold DevS.room;split
 ·exact⟨h.mX,by show 0<400;omega,aW _ _,rfl,rfl,rfl⟩
 ·have:=h.len
  exact⟨h,by omega,rfl,rfl,rfl,rfl⟩
theorem DevS.Ok.added {x:DevS}(h:x.Ok){a:Int}{s:List Int}(A:0<=a/\a<x.stable.length)(hs:s.length=128/\bj s)(D:x.cache.length<400)(I:x.taken<1000000000000):(x.added a s).Ok:=
 ⟨h.lo,h.hi,h.sec,fun p c=>by
  rcases lE.1 c with c|c
  ·exact h.cac p c
  ·simp at c;subst c;exact⟨A.1,A.2,hs⟩,by show (x.cache++_).length<=400;simp;omega,by have:=h.tk;show 0<=x.taken+1/\x.taken+1<=1000000000000;omega,by
  have:=h.pw
  show -1<=(if 0<x.power then x.power - 1 else x.power)/\(if 0<x.power then x.power - 1 else x.power)<=1000000000000
  split<;>omega⟩
theorem DevS.Ok.write {x:DevS}(h:x.Ok)(a:Int){s:List Int}(hs:s.length=128/\bj s):(x.write a s).2.Ok:=by
 unfold DevS.write;split
 ·exact h
 ·rename_i c
  have c:Go.Proofs.YtejmknghkbobnaaGreatDoor.atE x.off x.stable.length a=0:=Decidable.not_not.1 c;split
  ·exact⟨h.lo,h.hi,h.sec,h.cac,h.len,h.tk,h.pw⟩
  ·obtain⟨A,D,I,J,K,M⟩:=h.room;exact A.added (by rw[I];exact jb c) hs D (by have:=h.tk;omega)
theorem z58 (c r:List Int)(k:Nat)(A:k<=c.length):dr (c++r) k=dr c k:=by
 induction k with
 | zero=>rfl
 | succ k ih=>
  unfold dr;rw[ih (by omega),kN,mc (by omega),kN]
theorem z2P (c:List (Int × List Int))(a:Int)(s:List Int):dr (dw (c++[(a,s)])) (c.length+1)=(dr (dw c) c.length).put (.int .i64 a) (.lit (.int .i64 c.length)):=by
 have e:dw (c++[(a,s)])=dw c++[a]:=by unfold dw;simp
 rw[e];unfold dr;rw[z58 _ _ _ (by rw[em];exact kE _)]
 have:(dw c++[a]).getD c.length 0=a:=by
  rw[kN,ml (by rw[em];exact kE _),em]
  simp
 rw[this];cases c.length<;>rfl
theorem Tryz.qy:(prog.info? 130).map (fun i=>(i.zero,i.size,i.bytes))=some (some (.agg (#[.int .i64 0]++fill (.int .u8 0) 128)),129,136):=by kernel_rfl
theorem z0G {V:World}{D:Nat}{t:TypeId}{v0 c A v3 v4 v5:Value}(b:Blk V D t #[v0,c,A,v3,v4,v5])(u1 u2:Value):
  KeepEx V.heap.size [D] V ((V.setCell ⟨D,1,none⟩ u1).setCell ⟨D,2,none⟩ u2)/\Blk ((V.setCell ⟨D,1,none⟩ u1).setCell ⟨D,2,none⟩ u2) D t #[v0,u1,u2,v3,v4,v5]:=
 ⟨(KeepEx.setCell V (.inl (by simp)) u1).trans (KeepEx.setCell _ (.inl (by simp)) u2),(b.mG 1 u1).mG 2 u2⟩
theorem z6i {V:World}{D:Nat}{t:TypeId}{v0 c A v3 v4 v5:Value}(b:Blk V D t #[v0,c,A,v3,v4,v5])(u1 u2 u3:Value):
  KeepEx V.heap.size [D] V (((V.setCell ⟨D,1,none⟩ u1).setCell ⟨D,2,none⟩ u2).setCell ⟨D,3,none⟩ u3)/\Blk (((V.setCell ⟨D,1,none⟩ u1).setCell ⟨D,2,none⟩ u2).setCell ⟨D,3,none⟩ u3) D t #[v0,u1,u2,u3,v4,v5]:=
 ⟨(z0G b u1 u2).1.trans (KeepEx.setCell _ (.inl (by simp)) u3),(z0G b u1 u2).2.mG 3 u3⟩
theorem z9K {D S c M K I:Nat}{F:List Nat}{y:DevS}{a:Int}{s:List Int}{w V A V2:World}(W:World)(T:Value)(a7:Obj)(bb:(y.added a s).Ok)(mV:DevMem V D S c M T y)(hD:D∈F)(hS:S∈F)(hM:M∈F)
  (av:∀g,T.ownBlock=some g->g∈F) (J:∀b∈F,0<b/\b<V.heap.size) (aL:HalfAt V) (ao:Grow w F V F)
  (a8:A.ownsMap prog 3 (plainElem prog 3) M (y.cache.length+1) ((dr (dw y.cache) y.cache.length).put (.int .i64 a) (.lit (.int .i64 y.cache.length))))
  (U:V.drew.grownBy A (some M)) (O:(A.drew.alloc a7).grownBy V2 T.ownBlock)
  (Y:V2.ownsRow 0 130 129 (.slice (some ⟨K,0,none⟩) (y.cache.length+1) I) (y.cache.length+1) (y.cache.flatMap dwV++dwV (a,s)))
  (ab:(Value.slice (some ⟨K,0,none⟩) (y.cache.length+1) I).ownBlock=T.ownBlock\/(Value.slice (some ⟨K,0,none⟩) (y.cache.length+1) I).ownBlock=some (A.drew.alloc a7).heap.size)
  (hW:KeepEx V2.heap.size [D] V2 W) (bD:Blk W D 133 (fu S y.stable.length c (.slice (some ⟨K,0,none⟩) (y.cache.length+1) I) (y.taken+1) (if 0<y.power then y.power - 1 else y.power) y.off M)):
  ∃F',DevAt W D F' (y.added a s)/\Grow w F W F':=by
 obtain⟨n1,n2,n3,n4,n5,n6⟩:=mV.ne;have z0:=ao.keep.size;have z1:V.heap.size<=A.heap.size:=U.size;have z2:A.heap.size+1<=V2.heap.size:=by have:=O.size;simpa using this
 have z3:=hW.size;have a1:K<V2.heap.size:=(Y.lt K rfl).2;have a2:K∈F\/V.heap.size<=K:=by
  rcases ab with e|e
  ·exact .inl (av K e.symm)
  ·right
   simp only[Value.ownBlock,lx,World.size_alloc]at e;have:A.drew.heap.size=A.heap.size:=rfl
   omega
 have ba:K≠D:=by
  rintro rfl;rcases ab with e|e
  ·exact n4 e.symm
  ·simp only[Value.ownBlock,lx,World.size_alloc]at e;have:A.drew.heap.size=A.heap.size:=rfl
   have:=(J _ hD).2
   omega
 have a6:∀k,k<V.heap.size->k≠D->k≠M->T.ownBlock≠some k->W.heap[k]?=V.heap[k]?:=fun k hk h1 h2 h3=>by
  rw[hW.block k (by omega) (by simpa using h1),O.block k (by simp;have:A.drew.heap.size=A.heap.size:=rfl;omega) (fun e=>h3 e.symm),Below.heap_alloc A.drew _ k (by show k<A.heap.size;omega)]
  exact U.block k hk (by simpa using h2)
 have ac:KeepEx V.heap.size F V W:=⟨hW.os.trans (O.os.trans U.os),hW.tape.trans (O.tape.trans U.tape),hW.output.trans (O.output.trans U.output),by omega,fun k hk hn=>a6 k hk (fun e=>hn (e▸hD)) (fun e=>hn (e▸hM)) (fun e=>hn (av k e))⟩
 have an:Grow V F W (K::F):=⟨ac,fun b hb=>by
  rcases lp.1 hb with rfl|hb
  ·exact a2
  ·exact .inl hb⟩
 refine⟨K::F,⟨bb,an.half aL (fun hm=>by have:=(J 0 hm).1;omega),⟨S,c,M,.slice (some ⟨K,0,none⟩) (y.cache.length+1) I,⟨?_,?_,?_,?_⟩,ly _ hD,ly _ hS,ly _ hM,fun g e=>?_⟩,fun b hb=>?_⟩,ao.trans an⟩
 ·exact bD
 ·exact ar mV.sta fun g e=>by
   cases e;exact a6 S (J S hS).2 (fun e=>n1 e.symm) n3 n6
 ·have hl:(y.added a s).cache.length=y.cache.length+1:=by show (y.cache++[(a,s)]).length=_;simp
  rw[hl,show (y.added a s).cache.flatMap dwV=y.cache.flatMap dwV++dwV (a,s) by show (y.cache++[(a,s)]).flatMap dwV=_;simp]
  exact ar Y fun g e=>by
   cases e;exact hW.block K a1 (by simpa using ba)
 ·have hl:(y.added a s).cache.length=y.cache.length+1:=by show (y.cache++[(a,s)]).length=_;simp
  rw[hl];show W.ownsMap _ _ _ _ _ (dr (dw (y.cache++[(a,s)])) (y.cache.length+1))
  rw[z2P];refine aU a8 ?_;have bc:=(J M hM).2;rw[hW.block M (by omega) (by simpa using fun e=>n2 e.symm),O.block M (by simp;have:A.drew.heap.size=A.heap.size:=rfl;omega) (fun e=>n5 e.symm)]
  exact Below.heap_alloc A.drew _ M (by show M<A.heap.size;omega)
 ·simp only[Value.ownBlock,lx]at e;subst e;simp
 ·rcases lp.1 hb with rfl|hb
  ·refine⟨?_,by omega⟩
   rcases a2 with h|h
   ·exact(J _ h).1
   ·have:=aL.1;omega
  ·exact⟨(J b hb).1,by have:=(J b hb).2;omega⟩
theorem z4x (D:Nat)(F:List Nat)(x:DevS)(a:Int)(s:List Int)(hs:s.length=128/\bj s)(w:World)(h:DevAt w D F x):
    Calls prog 120 #[.pointer (some ⟨D,0,none⟩),.int .i64 a,.agg (ag s)] w fun e w'=>e=.returned (.int .i64 (x.write a s).1)/\∃F',DevAt w' D F' (x.write a s).2/\Grow w F w' F':=by
  have T:=h.ok.write a hs;unfold DevS.write at T |-;by_cases hE:x.atE a=0
  rotate_left
  · rw[if_pos hE]
    obtain⟨ok,hH,⟨S,c,M,cv,m,hD,hS,hM,hC⟩,lt⟩:=h;have I:=z5L D S x.stable.length c cv x.taken x.power x.off M a (w.alloc (.cells (ag s) 128)) (m.dev.alloc _);have h':DevAt w D F x:=⟨ok,hH,⟨S,c,M,cv,m,hD,hS,hM,hC⟩,lt⟩;obtain⟨E,bc⟩:=zxe (x.atE a);have I:Calls prog 184 #[.pointer (some ⟨D,0,none⟩),.int .i64 a] (w.alloc (.cells (ag s) 128)) fun e w'=>e=.returned (.int .i64 E)/\w'=w.alloc (.cells (ag s) 128):=by rw[<-bc];exact I
    rw[bc]at hE |-;have cK:(E != 0)=true:=by simpa using hE
    clear m bc hE;go_enter func120,ntmps120
    go_wp2_with fail
    refine I.mono ?_;rintro e w1 ⟨rfl,rfl⟩;go_wp2_with fail
    go_ret
    have J:Zr w (w.alloc (.cells (ag s) 128)):=(kF _ _).alloc (kE _) _;exact⟨rfl,F,h'.below J,Grow.of_below J F⟩
  rw[if_neg (by simpa using hE)]at T |-
  obtain⟨ok,hH,⟨S,c,M,cv,m,hD,hS,hM,hC⟩,lt⟩:=h;have h0:0∉F:=fun hm=>by have:=(lt 0 hm).1;omega
  have ha:=jb hE;have I:=z5L D S x.stable.length c cv x.taken x.power x.off M a (w.alloc (.cells (ag s) 128)) (m.dev.alloc _);have I:Calls prog 184 #[.pointer (some ⟨D,0,none⟩),.int .i64 a] (w.alloc (.cells (ag s) 128)) fun e w'=>e=.returned (.int .i64 0)/\w'=w.alloc (.cells (ag s) 128):=by
    rw[show Go.Proofs.YtejmknghkbobnaaGreatDoor.atE x.off x.stable.length a=0 from hE]at I;exact I
  clear hE;have J:Zr w (w.alloc (.cells (ag s) 128)):=(kF _ _).alloc (kE _) _;have bX:Blk (w.alloc (.cells (ag s) 128)) w.heap.size 128 (ag s):=Blk.new _ _ _;have mA:DevMem (w.alloc (.cells (ag s) 128)) D S c M cv x:=⟨m.dev.alloc _,aq m.sta J,aq m.cac J,m.map.alloc _⟩;have bS:∀b∈F,0<b/\b<(w.alloc (.cells (ag s) 128)).heap.size:=fun b hm=>⟨(lt b hm).1,by have:=(lt b hm).2;simp;omega⟩
  have bC:=hH.below J hH.1;have gA:=Grow.of_below J F;have nX:w.heap.size∉F:=fun hm=>by have:=(lt _ hm).2;omega
  obtain⟨W,hW⟩:=zex (w.alloc (.cells (ag s) 128));rw[<-hW]at I J bX mA bS bC gA;by_cases hp:x.power=0\/x.taken=1000000000000
  · rw[if_pos hp]at T |-
    have ci:(x.power==0)=true\/(x.power==0)=false/\(x.taken==1000000000000)=true:=by
      by_cases h:x.power=0
      · exact .inl (by simpa using h)
      · rcases hp with hp|hp
        · exact absurd hp h
        · exact .inr ⟨by simpa using h,by simpa using hp⟩
    have ao:Blk (W.setCell ⟨D,4,none⟩ (.bool true)) D 133 (fu S x.stable.length c cv x.taken x.power true M):=mA.dev.mG 4 _;obtain⟨n1,n2,n3,n4,n5,n6⟩:=mA.ne;have mB:DevMem (W.setCell ⟨D,4,none⟩ (.bool true)) D S c M cv { x with off:=true }:=
      ⟨ao,ar mA.sta fun g e=>by cases e;exact Below.heap_setCell _ _ _ _ (fun e=>n1 e.symm),ar mA.cac fun g e=>Below.heap_setCell _ _ _ _ (fun e'=>by subst e';exact n4 e),aU mA.map (Below.heap_setCell _ _ _ _ (fun e=>n2 e.symm))⟩
    have gB:Grow W F (W.setCell ⟨D,4,none⟩ (.bool true)) F:=⟨KeepEx.setCell _ (.inl hD) _,fun b J=>.inl J⟩
    have bD:=mA.dev;unfold fu at bD;have cD:=bD.cells;have fD:=bD.free;have lD:=bD.lt;have U:DevAt (W.setCell ⟨D,4,none⟩ (.bool true)) D F { x with off:=true }:=⟨T,gB.half bC h0,⟨S,c,M,cv,mB,hD,hS,hM,hC⟩,fun b J=>by simpa using bS b J⟩
    clear mA mB m ao hp;rcases ci with hp|⟨hp,hq⟩
    all_goals
      go_enter func120,ntmps120
      go_wp2_with fail
      rw[<-hW];clear hW;refine I.mono ?_;rintro e w1 ⟨rfl,rfl⟩;go_wp2_with fail
      go_ret
      exact⟨rfl,F,U,gA.trans gB⟩
  rw[if_neg hp]at T |-;have hp1:(x.power==0)=false:=by simpa using fun h=>hp (.inl h)
  have cN:(x.taken==1000000000000)=false:=by simpa using fun h=>hp (.inr h)
  have cP:x.taken<1000000000000:=by have:=ok.tk;omega
  clear hp m;obtain⟨bu,bk,ca,bQ,cc,cb⟩:=ok.room;have bP:0<=x.room.taken/\x.room.taken<1000000000000:=by have:=ok.tk;rw[bQ];omega
  clear ca bQ cc cb;have hL:=ok.len;have cM:=ok.hi;obtain⟨A0,b0,g0,bL,cC⟩:=z0S mA;subst bL;have bD:=mA.dev;unfold fu at bD;obtain⟨cD,lD⟩:=bD.zc;by_cases hf:x.cache.length=400
  focus
    have bp:((x.cache.length:Int)==400)=true:=by rw[hf];rfl
    have hr:x.room=x.mX:=if_pos hf;rw[hr]at bu bk bP T |-;have bO:=z2d D S c M _ x ok W mA;have HB:=kD J;have a6:=kD bX;go_enter func120,ntmps120
    go_wp2_with fail
    rw[<-hW];clear hW J gA bX;refine I.mono ?_;rintro e w1 ⟨rfl,rfl⟩;go_wp2_with fail
    refine bO.mono ?_;rintro e V ⟨⟨v,rfl⟩,mV,ab⟩;go_wp2_with fail
    have bw:Blk V w.heap.size 128 (ag s):=(ab.block _ a6.out.lt (by simp;exact⟨fun e=>nX (e▸hD),fun e=>nX (e▸hS),fun e=>nX (e▸hM)⟩)).trans a6.out
    have gV:Grow w1 F V F:=⟨⟨ab.os,ab.tape,ab.output,ab.size,fun k hk hn=>ab.block k hk (by simp;exact⟨fun e=>hn (e▸hD),fun e=>hn (e▸hS),fun e=>hn (e▸hM)⟩)⟩,fun b J=>.inl J⟩
    have ac:∀g,(Value.slice none 0 0).ownBlock=some g->g∈F:=fun g e=>by cases e
    generalize (Value.slice none 0 0)=b1 at mV ac;clear ab bO mA cD bD hr bp I;generalize bR:x.mX=y at *;have bT:=kD bR;clear bR;have a7:Grow w F V F:=(Grow.of_below HB.out F).trans gV;clear gV HB
  rotate_left;focus
    have bp:((x.cache.length:Int)==400)=false:=by simpa using (by omega:¬(x.cache.length:Int)=400)
    have hr:x.room=x:=if_neg hf;rw[hr]at bu bk bP T |-;have HB:=kD J;have a6:=kD bX;go_enter func120,ntmps120
    go_wp2_with fail
    rw[<-hW];clear hW J gA bX;refine I.mono ?_;rintro e V ⟨rfl,rfl⟩;go_wp2_with fail
    have mV:=mA;have bw:=a6.out;have gV:Grow V F V F:=Grow.refl _ _;have ac:=hC;generalize (Value.slice A0 x.cache.length b0)=b1 at mV ac;clear mA cD bD hr bp I;have a7:Grow w F V F:=(Grow.of_below HB.out F).trans gV;clear gV HB;rename DevS=>y
  all_goals
    have aL:∀b∈F,0<b/\b<V.heap.size:=fun b hm=>⟨(lt b hm).1,lh (lt b hm).2 a7.keep.size⟩
    have b3:=a7.half hH h0;have co:=(aL D hD).2;have cp:=(aL M hM).2;have bJ:=(aL S hS).2;obtain⟨A1,O,g1,bM,cF⟩:=z0S mV;subst bM;have wa:(Lit.int .i64 a).wf=true:=by simp[Lit.wf,IntKind.min,IntKind.max,IntKind.signed,IntKind.bits];omega
    have wl:(Lit.int .i64 (y.cache.length:Int)).wf=true:=by simp[Lit.wf,IntKind.min,IntKind.max,IntKind.signed,IntKind.bits];omega
    obtain⟨Y,br,b4,an⟩:=mV.map.drew.update gw underlying131 (by simp only[maxLen];omega) (keyOf_int_mk underlying3 wa) (plainElem_int underlying3 wl)
    have ba:=mV.dev;have ao:=ba.drew.grown an (by simp;exact fun e=>mV.ne.2.1 e)
    unfold fu at ba;have bZ:=ba.cells;refine wp_region_still_tail 11 (by kernel_rfl) (by kernel_rfl) ?_
    simp only[List.take_succ_cons,mm,List.drop_succ_cons,List.drop_zero];change wpStill _ _ V.drew _ _ _
    repeat still_step
    refine wpStill_nil ?_;change wpList _ _ _ _ _ V.drew
    go_wp2_with fail
    clear br bZ;have cT:=an.size;have b2:D<Y.heap.size:=by have:V.drew.heap.size=V.heap.size:=rfl;omega
    have bb:Blk Y w.heap.size 128 (ag s):=bw.drew.grown an (by simp;exact fun e=>nX (e▸hM))
    have cz:Y.ownsRow 0 128 128 (.slice (some ⟨S,0,none⟩) y.stable.length c) y.stable.length (y.stable.flatMap bd):=ar mV.sta fun g e=>by cases e;exact an.block S bJ (by simp;exact fun e=>mV.ne.2.2.1 e)
    have bA:Y.ownsRow 0 130 129 (.slice A1 y.cache.length O) y.cache.length (y.cache.flatMap dwV):=ar mV.cac fun g e=>an.block g (aL g (ac g e)).2 (by rw[<-e];exact mV.ne.2.2.2.2.1)
    obtain⟨iD,b6,b9,b8,b7⟩:=info_parts Tryz.qy;have ck:(dwV (a,s)).length=129:=by rw[dS,hs.1]
    have b5:Blk (Y.drew.alloc (.cells (dwV (a,s)).toArray 130)) Y.heap.size 130 (dwV (a,s)).toArray:=Blk.new _ _ _;obtain⟨v2,V2,a2,a1,bq,-,bK⟩:=run_append_own_at (P:=prog) (Y.drew.alloc (.cells (dwV (a,s)).toArray 130)) 0 32 32 130 iD _ 129 136 underlying32 b6 b9 b8 b7
      (by show (#[Value.int .i64 0]++fill (.int .u8 0) 128).size=129;rw[Array.size_append,z11];rfl) (by omega) _ _ _ (aq bA ((kF _ _).drew.alloc (kE _) _)) ⟨Y.heap.size,0,none⟩ 1 1 (dwV (a,s)) (by rw[ck]) (fun j u hu=>by rw[ep,ld,b5.cells];simpa using hu) (iP _) (by simp only[maxLen];omega) (by omega) (by omega)
    have cm:some D≠Value.ownBlock (.slice A1 y.cache.length O):=fun e=>mV.ne.2.2.2.1 e.symm
    have cn:some w.heap.size≠Value.ownBlock (.slice A1 y.cache.length O):=fun e=>nX (ac _ e.symm)
    have bW:Blk V2 w.heap.size 128 (ag s):=(bb.drew.alloc _).grown bq cn;have bU:=(ao.drew.alloc (.cells (dwV (a,s)).toArray 130)).grown bq cm;have av:=ao;have A:=bU;unfold fu at av A;have bF:Y.cell? ⟨D,1,none⟩=some (.slice A1 y.cache.length O)/\gz Y ⟨w.heap.size,0,none⟩ (bd s):=⟨by rw[av.cells];rfl,bb.at_ 0 _ (fun j u hu=>by rw[ld];simpa[bd,ag]using hu)⟩
    have bG:(Y.drew.alloc (.cells (dwV (a,s)).toArray 130)).cell? ⟨D,1,none⟩=some (.slice A1 y.cache.length O)/\gz (Y.drew.alloc (.cells (dwV (a,s)).toArray 130)) ⟨w.heap.size,0,none⟩ (bd s):=⟨by rw[(av.drew.alloc _).cells];rfl,(bb.drew.alloc _).at_ 0 _ (fun j u hu=>by rw[ld];simpa[bd,ag]using hu)⟩
    have bn:V2.cell? ⟨D,1,none⟩=some (.slice A1 y.cache.length O)/\gz V2 ⟨w.heap.size,0,none⟩ (bd s):=⟨by rw[A.cells];rfl,bW.at_ 0 _ (fun j u hu=>by rw[ld];simpa[bd,ag]using hu)⟩
    have cA:=A.cells;have cB:=A.free;have cU:=A.lt;refine z1D 9 (fun w'=>w'.cell? ⟨D,1,none⟩=some (.slice A1 y.cache.length O)/\gz w' ⟨w.heap.size,0,none⟩ (bd s)) (by kernel_rfl) (by kernel_rfl) (fun _ _ _ _ _ h=>h) bF ?_
    simp only[List.take_succ_cons,mm,List.drop_succ_cons,List.drop_zero];repeat (first
      | (refine z6Q rfl 128 _ rfl (.agg (bd s).toArray) (.pointer (some ⟨w.heap.size,0,none⟩)) rfl (fun w' bt=>eQ bt.2 (z83 _) (by rw[dy,hs.1];exact z1w _)) ?_)
      | (refine z4T rfl _ _ rfl [(0,.int .i64 a),(1,.agg (bd s).toArray)] rfl (.agg (dwV (a,s)).toArray) (z4h a s hs.1) ?_)
      | (
         refine kq rfl ?_ (fun w' bt=>?_) ?_
         rotate_left;focus
           obtain⟨cQ,-⟩:=bt;go_simp;(try with_reducible rfl)
         (try simp only[Act.put,kJ,kH,kI])))
    refine z8C ?_;refine z5y rfl 32 1 _ rfl [(0,.agg (dwV (a,s)).toArray)] rfl (.slice (some ⟨Y.heap.size,0,none⟩) 1 1) (gK (a,s) hs.1 _) (fun _=>bG) ?_
    refine z4p rfl _ _ 32 rfl (.slice A1 y.cache.length O) (.slice (some ⟨Y.heap.size,0,none⟩) 1 1) v2 rfl rfl a2 (fun _=>bn) ?_
    simp only[Act.put,kJ,kH,kI];obtain⟨g2,bB,rfl,-,cw⟩:=dA a1 (by omega)
    repeat (
      refine z2e fun K hK=>?_
      go_simp;refine hK _ _ (by first|(intro _;exact bn)|(intro h;exact absurd rfl h)) ?_
      clear hK K)
    show Exit.then _ _ _ _ _
    have cL:y.cache.length<400:=bk;have cS:IntKind.i64.wrap (y.taken+1)=y.taken+1:=by rw[kW];omega
    have cR:IntKind.i64.wrap (y.power - 1)=y.power - 1:=by have:=bu.pw;rw[kW];omega
    clear bF bG bn a2;have U:=@z9K D S c M g2 bB F y a s w V Y V2;have cJ:D<V2.heap.size:=by omega
    obtain⟨a8,bN,cg⟩:∃a8,(if 0<y.power then y.power - 1 else y.power)=a8/\(0<y.power/\y.power - 1=a8\/¬0<y.power/\y.power=a8):=by
      by_cases h:0<y.power
      · exact⟨_,if_pos h,.inl ⟨h,rfl⟩⟩
      · exact⟨_,if_neg h,.inr ⟨h,rfl⟩⟩
    rw[bN]at U;have HF:=kD U;clear U bN;rcases cg with ⟨cl,rfl⟩|⟨cl,rfl⟩
    all_goals
      go_wp2_with fail
      go_ret
      refine⟨rfl,?_⟩
      (try rw[bT.out])
      refine HF.out _ _ _ T mV hD hS hM ac aL b3 a7 b4 an bq a1 bK ?_ ?_
      · first
          | with_reducible exact(z6i A _ _ _).1
          | with_reducible exact(z0G A _ _).1
      · unfold fu
        first
          | with_reducible exact(z6i A _ _ _).2
          | with_reducible exact(z0G A _ _).2
theorem dM {xs:List Int}{i j:Nat}{v:Int}(h:i≠j):(xs.set i v).getD j 0=xs.getD j 0:=by
 rw[kN,kN,List.getElem?_set,if_neg h]
theorem gD {xs:List Int}{i:Nat}{v:Int}(h:i<xs.length):(xs.set i v).getD i 0=v:=by
 rw[kN,List.getElem?_set,if_pos rfl,if_pos h];rfl
theorem jh {xs:List Int}{a j:Nat}{n:Int}:∀ {k:Nat},j<a\/a+k<=j->(fx xs a n k).getD j 0=xs.getD j 0
 | 0,_=>rfl
 | k+1,h=>by
  show ((fx xs a n k).set (a+k) (nb n k)).getD j 0=_
  rw[dM (by omega),jh (by omega)]
theorem z9a {xs:List Int}{a:Nat}{n:Int}:∀ {k j:Nat},j<k->a+k<=xs.length->(fx xs a n k).getD (a+j) 0=nb n j
 | 0,j,h,_=>absurd h (by omega)
 | k+1,j,h,hl=>by
  show ((fx xs a n k).set (a+k) (nb n k)).getD (a+j) 0=_
  by_cases e:j=k
  ·subst e;exact gD (by rw[ip];omega)
  ·rw[dM (by omega),z9a (by omega) (by omega)]
theorem or32 (x y:Nat)(A:x<4294967296)(D:y<4294967296):bits .or .u32 (x:Int) (y:Int)=((x ||| y:Nat):Int):=by
 have h:bits .or .u32 (x:Int) (y:Int)=IntKind.u32.wrap ((BitVec.ofInt 32 (x:Int) ||| BitVec.ofInt 32 (y:Int)).toNat:Int):=rfl;have c:x ||| y<2 ^ 32:=Nat.or_lt_two_pow (by omega) (by omega)
 rw[h,BitVec.toNat_or,BitVec.ofInt_natCast,BitVec.ofInt_natCast,BitVec.toNat_ofNat,BitVec.toNat_ofNat,lY (by omega),lY (by omega),IntKind.wrap_u32']
 omega
theorem z31 (xs:List Int)(a:Nat)(n:Nat):∀k,k<=4->(∀j,j<k->xs.getD (a+j) 0=nb (n:Int) j)->fV xs a k=((n % 2 ^ (8*k):Nat):Int)
 | 0,_,_=>by simp[fV,Nat.mod_one]
 | k+1,hk,h=>by
  have ih:=z31 xs a n k (by omega) (fun j V=>h j (by omega))
  unfold fV;rw[ih,h k (by omega)]
  have J:nb (n:Int) k=((n / 2 ^ (8*k) % 256:Nat):Int):=by unfold nb;simp
  rw[J];have K:((n / 2 ^ (8*k) % 256:Nat):Int)*2 ^ (8*k) % 4294967296=((2 ^ (8*k)*(n / 2 ^ (8*k) % 256):Nat):Int):=by
   have O:2 ^ (8*k)*(n / 2 ^ (8*k) % 256)<4294967296:=by
    have D:n / 2 ^ (8*k) % 256<256:=Nat.mod_lt _ (by omega)
    have T:2 ^ (8*k)*(n / 2 ^ (8*k) % 256)<2 ^ (8*k)*256:=Nat.mul_lt_mul_of_pos_left D (Nat.two_pow_pos _);have U:2 ^ (8*k)*256<=2 ^ 32:=by
     have:2 ^ (8*k)*256=2 ^ (8*k+8):=by rw[Nat.pow_add]
     rw[this];exact Nat.pow_le_pow_right (by omega) (by omega)
    omega
   have S:((n / 2 ^ (8*k) % 256:Nat):Int)*2 ^ (8*k)=((2 ^ (8*k)*(n / 2 ^ (8*k) % 256):Nat):Int):=by
    generalize n / 2 ^ (8*k) % 256=y;rw[Int.natCast_mul,Int.mul_comm];congr 1
   rw[S];omega
  have D:n % 2 ^ (8*k)<2 ^ (8*k):=Nat.mod_lt _ (Nat.two_pow_pos _);have c:n / 2 ^ (8*k) % 256<256:=Nat.mod_lt _ (by omega)
  have A:2 ^ (8*k)*256=2 ^ (8*(k+1)):=by rw[show 8*(k+1)=8*k+8 by omega,Nat.pow_add]
  have M:2 ^ (8*(k+1))<=2 ^ 32:=Nat.pow_le_pow_right (by omega) (by omega)
  have I:2 ^ (8*k)*(n / 2 ^ (8*k) % 256)<2 ^ (8*k)*256:=Nat.mul_lt_mul_of_pos_left c (Nat.two_pow_pos _);rw[K,or32 _ _ (by omega) (by omega),Nat.or_comm,<-Nat.two_pow_add_eq_or_of_lt D]
  congr 1
  rw[<-A];rw[Nat.mod_mul];omega
theorem z1j {xs:List Int}{a:Nat}{n:Int}(D:0<=n/\n<4294967296)(A:a+4<=xs.length):aE (eT xs a n) a=n:=by
 obtain⟨m,rfl⟩:=lz D.1;show fV (eT xs a (m:Int)) a 4=_
 rw[z31 (eT xs a (m:Int)) a m 4 (by omega) (fun j c=>z9a (k:=4) c A)]
 omega
theorem z1i {xs c:List Int}{a:Nat}:∀k,(∀j,j<k->xs.getD (a+j) 0=c.getD (a+j) 0)->fV xs a k=fV c a k
 | 0,_=>rfl
 | k+1,h=>by
  unfold fV;rw[z1i k (fun j A=>h j (by omega)),h k (by omega)]
theorem jj {xs:List Int}{a b:Nat}{n:Int}(h:a+4<=b\/b+4<=a):aE (eT xs a n) b=aE xs b:=
 z1i 4 fun _ c=>jh (by omega)
theorem z6g {xs:List Int}{a:Nat}{n:Int}:∀k,(fx xs a n k).take a=xs.take a
 | 0=>rfl
 | k+1=>by
  show ((fx xs a n k).set (a+k) (nb n k)).take a=_
  rw[List.take_set_of_le (by omega),z6g k]
theorem z1K (s:ByteArray):strOfNums (cf s)=s:=strOfNums_bytes s
section
variable {a kind seq:Int}{s:ByteArray}(hs:s.size<=112)
include hs
theorem fh {j:Nat}(h:j<4\/8<=j/\j<120):(cq a kind seq s).getD j 0=(eF kind s).getD j 0:=by
 have _:=hs;unfold cq eG eT;rw[jh (by omega),jh (by omega),jh (by omega)]
theorem z0D {j:Nat}(h:j<8):(eF kind s).getD j 0=(eX kind s.size).getD j 0:=by
 have _:=hs;have c:=dO kind s.size;unfold eF;rw[kN,List.append_assoc,mc (by rw[kX];omega),mh,if_pos h,kN]
theorem z4i {j:Nat}(h:j<s.size):(eF kind s).getD (8+j) 0=(cf s).getD j 0:=by
 have _:=hs;have c:=dO kind s.size;have A:=dg s;unfold eF;rw[kN,List.append_assoc,ml (by rw[kX];omega),kX,show 8+j - min 8 (eX kind s.size).length=j by omega,mc (by omega),kN]
theorem z69 {j:Nat}(h:8+s.size<=j):(eF kind s).getD j 0=(eX kind s.size).getD j 0:=by
 have _:=hs;have c:=dO kind s.size;have A:=dg s;unfold eF;rw[kN,ml (by rw[kY,kX];omega),kY,kX,List.getElem?_drop,show 8+s.size+(j - (min 8 (eX kind s.size).length+(cf s).length))=j by omega,kN]
theorem z05 {j:Nat}(h:3<=j):(eX kind s.size).getD j 0=0:=by
 have _:=hs;unfold eX;rw[dM (by omega),dM (by omega),dM (by omega)]
 unfold zsec;rw[kN,List.getElem?_replicate];split<;>rfl
theorem z5s:(cq a kind seq s).getD 0 0=76:=by
 rw[fh hs (by omega),z0D hs (by omega)]
 unfold eX;rw[dM (by omega),dM (by omega),gD (by rw[am];omega)]
theorem z5t:(cq a kind seq s).getD 1 0=kind:=by
 rw[fh hs (by omega),z0D hs (by omega)]
 unfold eX;rw[dM (by omega),gD (by rw[List.length_set,am];omega)]
theorem z3d:(cq a kind seq s).getD 2 0=(s.size:Int):=by
 rw[fh hs (by omega),z0D hs (by omega)]
 unfold eX;rw[gD (by rw[List.length_set,List.length_set,am];omega)]
theorem z9t:(cq a kind seq s).getD 3 0=0:=by
 rw[fh hs (by omega),z0D hs (by omega),z05 hs (by omega)]
theorem z4j:(eG a kind seq s).length=128:=by
 unfold eG;rw[cG,cG];exact eV kind s hs
theorem z4l (c:0<=seq/\seq<4294967296):aE (cq a kind seq s) 4=seq:=by
 unfold cq;rw[jj (by omega)]
 unfold eG;rw[jj (by omega),z1j c (by rw[eV kind s hs];omega)]
theorem jm (c:0<=a/\a<4294967296):aE (cq a kind seq s) 120=a:=by
 unfold cq;rw[jj (by omega)]
 unfold eG;rw[z1j c (by rw[cG,eV kind s hs];omega)]
theorem z4m:aE (cq a kind seq s) 124=crc ((cq a kind seq s).take 124):=by
 have h:(cq a kind seq s).take 124=(eG a kind seq s).take 124:=by unfold cq;exact z6g 4
 rw[h];unfold cq;exact z1j (kj _) (by rw[z4j hs];omega)
theorem z9v:aP (cq a kind seq s)=s:=by
 have I:=dP a kind seq s hs;have J:=dg s;unfold aP;rw[z3d hs,lO];have:((cq a kind seq s).take (8+s.size)).drop 8=cf s:=by
  apply List.ext_getElem (by rw[ma,kX];omega)
  intro i D A;have c:=z4i (kind:=kind) hs (j:=i) (by omega)
  rw[<-fh (a:=a) (seq:=seq) hs (by omega)]at c
  rw[kN,kQ (by omega),kN,kQ A]at c
  rw[List.getElem_drop,List.getElem_take];exact c
 rw[this,z1K]
theorem z9u:jg (cq a kind seq s)=true:=by
 refine(z2V (z3d hs) (dP a kind seq s hs) hs).2 fun p c=>?_
 rw[fh hs (by omega),z69 hs (by omega),z05 hs (by omega)]
end
theorem iV {a kind:Int}{n:Nat}(c:bY a kind n=0):0<=a/\a<256/\1<=kind/\kind<=255/\n<=112:=by
 unfold bY at c;split at c
 ·omega
 ·split at c<;>omega
theorem z1f {a kind seq:Int}{s:ByteArray}(A:bY a kind s.size=0)(M:0<=seq/\seq<4294967296):cY a (cq a kind seq s)=0:=by
 obtain⟨D,I,J,K,hs⟩:=iV A;unfold cY;rw[if_neg (by omega),if_neg (fun h=>by
  have c:=z5s (a:=a) (kind:=kind) (seq:=seq) hs;rw[h]at c;revert c;decide),if_neg (by rw[z4m hs];simp),if_neg (by rw[z5s hs,z5t hs,z3d hs,z9t hs,jm hs (by omega)];omega),if_neg (by rw[z9u hs];simp),if_neg (by rw[jm hs (by omega)];simp)]
theorem z73 (c r:List Int)(a:Int)(k:Nat)(A:k<=c.length):dU (c++r) a k=dU c a k:=by
 induction k with
 | zero=>rfl
 | succ k ih=>
  unfold dU;rw[ih (by omega),kN,mc (by omega),kN]
theorem z57 (c:List Int)(a b:Int):dU (c++[a]) b (c.length+1)=if a=b then some c.length else dU c b c.length:=by
 show (if (c++[a]).getD c.length 0=b then some c.length else dU (c++[a]) b c.length)=_
 rw[z73 c [a] b c.length (kE _)];have:(c++[a]).getD c.length 0=a:=by
  rw[kN,ml (kE _)];simp
 rw[this]
theorem z4A (x:DevS)(a:Int)(s:List Int)(b:Int):(x.added a s).reads b=if b=a then s else x.reads b:=by
 have c:(x.added a s).idx b=if a=b then some x.cache.length else x.idx b:=by
  show dU (dw (x.cache++[(a,s)])) b (x.cache++[(a,s)]).length=_
  have e:dw (x.cache++[(a,s)])=dw x.cache++[a]:=by unfold dw;simp
  have h:=z57 (dw x.cache) a b;rw[em]at h;rw[e,kY];exact h
 have D:(x.added a s).reads b=match (x.added a s).idx b with|some i=>((x.cache++[(a,s)]).getD i (0,[])).2|none=>x.stable.getD b.toNat []:=rfl
 have I:x.reads b=match x.idx b with|some i=>(x.cache.getD i (0,[])).2|none=>x.stable.getD b.toNat []:=rfl
 rw[D,c,I];by_cases h:a=b
 ·subst h;simp
 ·rw[if_neg h,if_neg (fun e=>h e.symm)]
  cases hx:x.idx b with
  | none=>rfl
  | some i=>
   have A:=(jG hx).1;simp[kN,mc A]
theorem z1z (st:List (List Int))(c:List (Int × List Int))(b:Nat)(D:b<st.length)(I:∀p∈c,0<=p.1):∀k,k<=c.length->(dt st (c.take k)).getD b []=match dU (dw c) (b:Int) k with|some i=>(c.getD i (0,[])).2|none=>st.getD b []
 | 0,_=>rfl
 | k+1,hk=>by
  have A:k<c.length:=by omega
  have ih:=z1z st c b D I k (by omega)
  rw[iX A];have K:=I _ (li A);have J:(dw c).getD k 0=c[k].1:=by unfold dw;simp[A]
  show _=(match (if (dw c).getD k 0=(b:Int)then some k else dU (dw c) (b:Int) k)with|some i=>(c.getD i (0,[])).2|none=>st.getD b [])
  rw[J];by_cases e:c[k].1=(b:Int)
  ·rw[if_pos e,e,lO];simp[List.getElem?_set,A,aW,D]
  ·rw[if_neg e,<-ih,kN,List.getElem?_set,if_neg (by omega),kN]
theorem jV {x:DevS}(ok:x.Ok){b:Int}(A:0<=b/\b<x.stable.length):x.mX.reads b=x.reads b:=by
 have h:=z1z x.stable x.cache b.toNat (by omega) (fun p c=>(ok.cac p c).1) x.cache.length (kE _)
 rw[lj,show ((b.toNat:Nat):Int)=b by omega]at h
 exact h
theorem z7r {x:DevS}(ok:x.Ok){b:Int}(c:0<=b/\b<x.stable.length):x.room.reads b=x.reads b:=by
 unfold DevS.room;split
 ·exact jV ok c
 ·rfl
structure DevS.nO (x:DevS)(n:Nat):Prop where
 ok:x.Ok
 on:x.off=false
 pw:x.power=-1
 tk:x.taken+n<=1000000000000
theorem DevS.nO.mono {x:DevS}{n m:Nat}(h:x.nO n)(c:m<=n):x.nO m:=⟨h.ok,h.on,h.pw,by have:=h.tk;omega⟩
structure DevS.Like (x y:DevS):Prop where
 size:y.stable.length=x.stable.length
 reads:∀b:Int,0<=b->b<x.stable.length->y.reads b=x.reads b
theorem kc {x:DevS}(h:x.off=false){a:Int}(c:0<=a/\a<x.stable.length):x.atE a=0:=by
 show Go.Proofs.YtejmknghkbobnaaGreatDoor.atE x.off x.stable.length a=0
 unfold Go.Proofs.YtejmknghkbobnaaGreatDoor.atE;rw[h,if_neg (by simp),if_neg (by omega)]
theorem z2h {x:DevS}{n:Nat}(h:x.nO (n+1)){a:Int}(O:0<=a/\a<x.stable.length){s:List Int}(hs:s.length=128/\bj s):
  (x.write a s).1=0/\(x.write a s).2.nO n/\(x.write a s).2.stable.length=x.stable.length/\∀b:Int,0<=b->b<x.stable.length->(x.write a s).2.reads b=if b=a then s else x.reads b:=by
 have c:=h.ok.write a hs;have S:=h.tk;have T:=h.ok.tk;obtain⟨U,V,I,J,K,M⟩:=h.ok.room;unfold DevS.write at c |-;rw[if_neg (by rw[kc h.on O];simp),if_neg (by rw[h.pw];omega)]at c |-
 refine⟨rfl,⟨c,M.trans h.on,?_,?_⟩,I,?_⟩
 ·show (if 0<x.room.power then _ else x.room.power)=-1
  rw[K,h.pw];rfl
 ·show x.room.taken+1+_<=_
  rw[J];omega
 ·intro b A D;show (x.room.added a s).reads b=_
  rw[z4A,z7r h.ok ⟨A,D⟩]
theorem z6N {x:DevS}{n:Nat}(h:x.nO n):x.mX.nO n/\x.Like x.mX:=
 ⟨⟨h.ok.mX,h.on,h.pw,h.tk⟩,⟨aW _ _,fun _ c A=>jV h.ok ⟨c,A⟩⟩⟩
structure Fr where
 kind:Int
 seq:Int
 data:ByteArray
deriving DecidableEq,Inhabited
def noFr:Fr:=⟨0,0,⟨#[]⟩⟩
def DevS.ge (x:DevS)(a:Int):Int:=(x.get a).1
def DevS.fr (x:DevS)(a:Int):Fr:=if x.ge a=0 then ⟨(x.reads a).getD 1 0,aE (x.reads a) 4,aP (x.reads a)⟩else noFr
def frV (f:Fr):Array Value:=#[.int .i64 f.kind,.int .u32 f.seq,.string f.data]
theorem zb2 (x:DevS)(a:Int):x.get a=(x.ge a,frV (x.fr a)):=by
 unfold DevS.fr DevS.ge DevS.get ko getV jf;by_cases c:Go.Proofs.YtejmknghkbobnaaGreatDoor.atE x.off x.stable.length a=0
 ·rw[if_pos c,if_pos c];by_cases A:cY a (x.reads a)=0
  ·rw[A,if_pos rfl];rfl
  ·rw[if_neg A];simp only[if_neg A];rfl
 ·rw[if_neg c,if_neg c];simp only[if_neg c];rfl
def sameFr (x y:DevS)(b:Int):Prop:=y.ge b=x.ge b/\y.fr b=x.fr b
theorem z5q {x y:DevS}{b:Int}(I:y.off=x.off)(D:y.stable.length=x.stable.length)(A:y.reads b=x.reads b):sameFr x y b:=by
 have h:y.get b=x.get b:=by unfold DevS.get;rw[I,D,A]
 have c:y.ge b=x.ge b:=by unfold DevS.ge;rw[h]
 exact⟨c,by unfold DevS.fr;rw[c,A]⟩
def DevS.put (x:DevS)(a kind seq:Int)(s:ByteArray):Int × DevS:=if bY a kind s.size=0 then x.write a (cq a kind seq s)else (bY a kind s.size,x)
theorem z6P {x:DevS}{a kind seq:Int}{s:ByteArray}(M:x.off=false)(K:0<=a/\a<x.stable.length)(D:bY a kind s.size=0)(I:0<=seq/\seq<4294967296)(J:x.reads a=cq a kind seq s):
  x.ge a=0/\x.fr a=⟨kind,seq,s⟩:=by
 have c:Go.Proofs.YtejmknghkbobnaaGreatDoor.atE x.off x.stable.length a=0:=kc M K;obtain⟨-,-,-,-,hs⟩:=iV D;have A:x.ge a=0:=by
  show ko x.off x.stable.length a (x.reads a)=0
  unfold ko;rw[if_pos c,J];exact z1f D I
 refine⟨A,?_⟩
 unfold DevS.fr;rw[if_pos A,J,z5t hs,z4l hs I,z9v hs]
theorem z0E {a kind:Int}{n:Nat}(c:0<=a/\a<256)(A:1<=kind/\kind<=255)(D:n<=112):bY a kind n=0:=by
 unfold bY;rw[if_neg (by omega),if_neg (by omega)]
structure DevS.qN (x y:DevS)(n:Nat)(a:Int)(e:Int)(f:Fr):Prop where
 runs:y.nO n
 size:y.stable.length=x.stable.length
 new:y.ge a=e/\y.fr a=f
 old:∀b:Int,0<=b->b<x.stable.length->b≠a->sameFr x y b
theorem z0B {x:DevS}{n:Nat}(h:x.nO (n+1)){a kind seq:Int}{s:ByteArray}(c:0<=a/\a<x.stable.length)(U:1<=kind/\kind<=255)(S:s.size<=112)(V:0<=seq/\seq<4294967296):
  (x.put a kind seq s).1=0/\x.qN (x.put a kind seq s).2 n a 0 ⟨kind,seq,s⟩:=by
 have I:bY a kind s.size=0:=z0E (by have:=h.ok.hi;omega) U S
 unfold DevS.put;rw[if_pos I];obtain⟨T,A,D,O⟩:=z2h h c ⟨dP a kind seq s S,gp seq I⟩;refine⟨T,A,D,z6P A.on (by rw[D];exact c) I V (by rw[O a c.1 c.2,if_pos rfl]),fun b J K M=>?_⟩
 exact z5q (A.on.trans h.on.symm) D (by rw[O b J K,if_neg M])
theorem z6t {x:DevS}{n:Nat}(h:x.nO (n+1)){a:Int}(A:0<=a/\a<x.stable.length):
  (x.write a zsec).1=0/\x.qN (x.write a zsec).2 n a 70 noFr:=by
 obtain⟨T,D,I,O⟩:=z2h h A ⟨am,fi⟩;have S:=O a A.1 A.2;rw[if_pos rfl]at S;have c:(x.write a zsec).2.ge a=70:=by
  show ko _ _ a _=70
  unfold ko;have U:=h.ok.hi;rw[if_pos (show Go.Proofs.YtejmknghkbobnaaGreatDoor.atE _ _ a=0 from kc D.on (by rw[I];exact A)),S]
  unfold cY;rw[if_neg (by omega),if_pos rfl]
 refine⟨T,D,I,⟨c,by unfold DevS.fr;rw[c,if_neg (by decide)]⟩,fun b J K M=>?_⟩
 exact z5q (D.on.trans h.on.symm) I (by rw[O b J K,if_neg M])
theorem iR {x:DevS}{n:Nat}(h:x.nO n):x.mX.nO n/\x.mX.stable.length=x.stable.length/\∀b:Int,0<=b->b<x.stable.length->sameFr x x.mX b:=by
 obtain⟨I,c⟩:=z6N h;exact⟨I,c.size,fun b A D=>z5q (I.on.trans h.on.symm) c.size (c.reads b A D)⟩
structure Rec where
 at_:Int
 kind:Int
 data:ByteArray
deriving DecidableEq,Inhabited
def bE (r:Rec):List Value:=[.int .i64 r.at_,.int .i64 r.kind,.string r.data]
theorem z5h (r:Rec):(bE r).length=3:=rfl
def z5b:Rec:=⟨0,0,⟨#[]⟩⟩
def jS (l:List Int):ByteArray:=strOfNums l
def aO (F Z:Int):Int:=if Z<8\/96<Z\/F<0\/256 - Z<F then 7 else 0
def cx (F Z a:Int):Bool:=decide (F<=a/\a<F+Z)
def cj (Z:Int):Int:=min (Z - 2) 80
def aH (n:Int):ByteArray:=jS [n % 256,n / 256 % 256]
def DevS.flush (x:DevS):Int × DevS:=(kB x.off,if x.off then x else x.mX)
def DevS.blanks (x:DevS)(a:Int):Nat->Int × DevS
 | 0=>(0,x)
 | k+1=>if (x.blanks a k).1≠0 then x.blanks a k else (x.blanks a k).2.write (a+k) zsec
def DevS.nH (x:DevS)(F Z:Int):Int × DevS:=
 if aO F Z≠0 then (aO F Z,x)else
 if (x.put F 1 0 ⟨#[]⟩).1≠0 then x.put F 1 0 ⟨#[]⟩else
 if ((x.put F 1 0 ⟨#[]⟩).2.blanks (F+1) (Z - 1).toNat).1≠0 then (x.put F 1 0 ⟨#[]⟩).2.blanks (F+1) (Z - 1).toNat else
 ((x.put F 1 0 ⟨#[]⟩).2.blanks (F+1) (Z - 1).toNat).2.flush
def DevS.head (x:DevS)(F Z:Int):Int × Int:=
 if aO F Z≠0 then (aO F Z,0)else if x.ge F≠0 then (x.ge F,0)else if (x.fr F).kind≠1\/(x.fr F).data≠⟨#[]⟩then (6,0)else (0,(x.fr F).seq)
def im (n F Z:Int)(l:List Rec)(r:Rec):Int:=
 if F<=r.at_/\r.at_<F+Z then 2 else if r.at_<0\/n<=r.at_\/r.kind<1\/255<r.kind then 7 else if 96<r.data.size then 3 else if r.at_∈l.map (·.at_)then 8 else 0
def cd (n F Z:Int)(l:List Rec):Nat->Int
 | 0=>0
 | k+1=>if cd n F Z l k≠0 then cd n F Z l k else im n F Z (l.take k) (l.getD k default)
def cV (n F Z:Int)(l:List Rec):Int:=if cj Z<l.length then 12 else cd n F Z l l.length
def DevS.puts (x:DevS)(l:List (Int × Fr)):Nat->Int × DevS
 | 0=>(0,x)
 | k+1=>if (x.puts l k).1≠0 then x.puts l k else (x.puts l k).2.put (l.getD k default).1 (l.getD k default).2.kind (l.getD k default).2.seq (l.getD k default).2.data
def gE (r:Rec):ByteArray:=⟨(aH r.at_).data++(jS [r.kind % 256]).data++r.data.data⟩
def ef (F q:Int)(l:List Rec):List (Int × Fr):=l.zipIdx.map fun p=>(F+1+p.2,⟨2,q,gE p.1⟩)
def ik (q:Int)(l:List Rec):List (Int × Fr):=l.map fun r=>(r.at_,⟨r.kind,q,r.data⟩)
def aD (q:Int):Int:=(q+1) % 4294967296
def DevS.done (p:Int × DevS):Int × DevS:=if p.1≠0 then p else p.2.flush
def DevS.log (x:DevS)(F Z:Int)(l:List Rec):Int × DevS:=
 if (x.head F Z).1≠0 then ((x.head F Z).1,x)else
 if cV x.stable.length F Z l≠0 then (cV x.stable.length F Z l,x)else
 if (x.puts (ef F (aD (x.head F Z).2) l) l.length).1≠0 then x.puts (ef F (aD (x.head F Z).2) l) l.length else
 DevS.done ((x.puts (ef F (aD (x.head F Z).2) l) l.length).2.put (F+1+l.length) 3 (aD (x.head F Z).2) (aH l.length))
def aB (f:Fr):Rec:=if f.kind≠2\/f.data.size<3\/99<f.data.size then z5b else ⟨bits .or .i64 ((cf f.data).getD 0 0) ((cf f.data).getD 1 0*256),(cf f.data).getD 2 0,f.data.extract 3 f.data.size⟩
def dp (n F Z:Int)(f:Fr):Bool:=if f.kind≠2\/f.data.size<3\/99<f.data.size then false else decide ((aB f).at_<n)&&!cx F Z (aB f).at_&&decide (0<(aB f).kind)
def dI (e:Int):Bool:=e==1||e==13||e==7
structure Look where
 stop:Bool
 e:Int
 run:List Rec
 whole:Bool
deriving Inhabited
def DevS.mM (x:DevS)(F Z q:Int):Nat->Look
 | 0=>⟨false,0,[],false⟩
 | k+1=>if (x.mM F Z q k).stop then x.mM F Z q k else
  if dI (x.ge (F+1+k))then ⟨true,x.ge (F+1+k),[],false⟩else
  if !(x.ge (F+1+k)==0&&(x.fr (F+1+k)).seq==aD q)||!dp x.stable.length F Z (x.fr (F+1+k))||decide ((aB (x.fr (F+1+k))).at_∈(x.mM F Z q k).run.map (·.at_))||decide (((x.mM F Z q k).run.length:Int)=cj Z)then
   ⟨true,0,(x.mM F Z q k).run,(x.ge (F+1+k)==0&&(x.fr (F+1+k)).seq==aD q)&&(x.fr (F+1+k)).kind==3&&decide ((x.fr (F+1+k)).data=aH (x.mM F Z q k).run.length)⟩else
  ⟨false,0,(x.mM F Z q k).run++[aB (x.fr (F+1+k))],false⟩
def DevS.look (x:DevS)(F Z:Int):Int × Int × List Rec × Bool:=
 if (x.head F Z).1≠0 then ((x.head F Z).1,0,[],false)else
 if (x.mM F Z (x.head F Z).2 (Z - 1).toNat).e≠0 then ((x.mM F Z (x.head F Z).2 (Z - 1).toNat).e,0,[],false)else
 (0,(x.head F Z).2,(x.mM F Z (x.head F Z).2 (Z - 1).toNat).run,(x.mM F Z (x.head F Z).2 (Z - 1).toNat).whole)
def DevS.applies (x:DevS)(q:Int)(l:List Rec):Int × DevS:=DevS.done (x.puts (ik (aD q) l) l.length)
def DevS.apply (x:DevS)(F Z:Int):Int × Int × DevS:=
 if (x.look F Z).1≠0 then (0,(x.look F Z).1,x)else if (x.look F Z).2.2.2=false then (0,9,x)else
 if (x.applies (x.look F Z).2.1 (x.look F Z).2.2.1).1≠0 then (0,x.applies (x.look F Z).2.1 (x.look F Z).2.2.1)else ((x.look F Z).2.2.1.length,x.applies (x.look F Z).2.1 (x.look F Z).2.2.1)
def DevS.clear (x:DevS)(F Z:Int):Int × DevS:=if (x.head F Z).1≠0 then ((x.head F Z).1,x)else DevS.done (x.put F 1 (aD (x.head F Z).2) ⟨#[]⟩)
def DevS.ny (x:DevS)(F Z:Int)(l:List Rec):Int × DevS:=
 if (x.log F Z l).1≠0 then x.log F Z l else
 if ((x.log F Z l).2.apply F Z).2.1≠0 then ((x.log F Z l).2.apply F Z).2 else
 ((x.log F Z l).2.apply F Z).2.2.clear F Z
end Go.Proofs.YtejmknghkbobnaaGreatDoor
