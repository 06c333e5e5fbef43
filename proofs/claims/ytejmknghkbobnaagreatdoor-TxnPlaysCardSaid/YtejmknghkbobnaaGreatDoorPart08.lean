import Derived.Test.YtejmknghkbobnaaGreatDoorPart00
import Derived.Test.YtejmknghkbobnaaGreatDoorPart07
import Derived.Test.YtejmknghkbobnaaGreatDoorPart04
set_option linter.unusedVariables false
set_option linter.unusedSimpArgs false
set_option maxRecDepth 100000
set_option maxHeartbeats 8000000
namespace Go.Proofs.YtejmknghkbobnaaGreatDoor
open Go.Proofs.Tryz
open Go.RowKit Go.Maps
def DevS.added (x:DevS)(a:Int)(s:List Int):DevS:={ x with cache:=x.cache++[(a,s)],taken:=x.taken+1,power:=if 0<x.power then x.power - 1 else x.power }
def DevS.room (x:DevS):DevS:=if x.cache.length=400 then x.flushed else x
def DevS.write (x:DevS)(a:Int)(s:List Int):Int × DevS:=
 if x.atE a≠0 then (x.atE a,x)
 else if x.power=0∨x.taken=1000000000000 then (13,{ x with off:=true })
 else (0,x.room.added a s)
theorem DevS.Ok.room {x:DevS}(h:x.Ok):x.room.Ok∧x.room.cache.length<400∧x.room.stable.length=x.stable.length∧x.room.taken=x.taken∧x.room.power=x.power∧x.room.off=x.off:=by
 unfold DevS.room;split
 ·exact⟨h.flushed,by show 0<400;omega,z0e _ _,rfl,rfl,rfl⟩
 ·have:=h.len
  exact⟨h,by omega,rfl,rfl,rfl,rfl⟩
theorem DevS.Ok.added {x:DevS}(h:x.Ok){a:Int}{s:List Int}(ha:0≤a∧a<x.stable.length)(hs:s.length=128∧z0V s)(hL:x.cache.length<400)(ht:x.taken<1000000000000):(x.added a s).Ok:=
 ⟨h.lo,h.hi,h.sec,fun p hp=>by
  rcases zi0.1 hp with hp|hp
  ·exact h.cac p hp
  ·simp at hp;subst hp;exact⟨ha.1,ha.2,hs⟩,by show (x.cache++_).length≤400;simp;omega,by have:=h.tk;show 0≤x.taken+1∧x.taken+1≤1000000000000;omega,by
  have:=h.pw
  show -1≤(if 0<x.power then x.power - 1 else x.power)∧(if 0<x.power then x.power - 1 else x.power)≤1000000000000
  split<;>omega⟩
theorem DevS.Ok.write {x:DevS}(h:x.Ok)(a:Int){s:List Int}(hs:s.length=128∧z0V s):(x.write a s).2.Ok:=by
 unfold DevS.write;split
 ·exact h
 ·rename_i hE
  have hE:Go.Proofs.YtejmknghkbobnaaGreatDoor.atE x.off x.stable.length a=0:=Decidable.not_not.1 hE;split
  ·exact⟨h.lo,h.hi,h.sec,h.cac,h.len,h.tk,h.pw⟩
  ·obtain⟨h1,h2,h3,h4,h5,h6⟩:=h.room;exact h1.added (by rw[h3];exact z4m hE) hs h2 (by have:=h.tk;omega)
theorem z9t (c r:List Int)(k:Nat)(hk:k≤c.length):z1t (c++r) k=z1t c k:=by
 induction k with
 | zero=>rfl
 | succ k ih=>
  unfold z1t;rw[ih (by omega),zhw,zhA (by omega),zhw]
theorem z7N (c:List (Int × List Int))(a:Int)(s:List Int):z1t (z1H (c++[(a,s)])) (c.length+1)=(z1t (z1H c) c.length).put (.int .i64 a) (.lit (.int .i64 c.length)):=by
 have e:z1H (c++[(a,s)])=z1H c++[a]:=by unfold z1H;simp
 rw[e];unfold z1t;rw[z9t _ _ _ (by rw[z1y];exact zhT _)]
 have:(z1H c++[a]).getD c.length 0=a:=by
  rw[zhw,zhB (by rw[z1y];exact zhT _),z1y]
  simp
 rw[this];cases c.length<;>rfl
theorem Tryz.infoDvW3:(prog.info? 130).map (fun i=>(i.zero,i.size,i.bytes))=some (some (.agg (#[.int .i64 0]++fill (.int .u8 0) 128)),129,136):=by kernel_rfl
theorem z5J {V:World}{D:Nat}{t:TypeId}{v0 v1 v2 v3 v4 v5:Value}(b:Blk V D t #[v0,v1,v2,v3,v4,v5])(u1 u2:Value):
  KeepEx V.heap.size [D] V ((V.setCell ⟨D,1,none⟩ u1).setCell ⟨D,2,none⟩ u2)∧Blk ((V.setCell ⟨D,1,none⟩ u1).setCell ⟨D,2,none⟩ u2) D t #[v0,u1,u2,v3,v4,v5]:=
 ⟨(KeepEx.setCell V (.inl (by simp)) u1).trans (KeepEx.setCell _ (.inl (by simp)) u2),(b.set_ 1 u1).set_ 2 u2⟩
theorem zb4 {V:World}{D:Nat}{t:TypeId}{v0 v1 v2 v3 v4 v5:Value}(b:Blk V D t #[v0,v1,v2,v3,v4,v5])(u1 u2 u3:Value):
  KeepEx V.heap.size [D] V (((V.setCell ⟨D,1,none⟩ u1).setCell ⟨D,2,none⟩ u2).setCell ⟨D,3,none⟩ u3)∧Blk (((V.setCell ⟨D,1,none⟩ u1).setCell ⟨D,2,none⟩ u2).setCell ⟨D,3,none⟩ u3) D t #[v0,u1,u2,u3,v4,v5]:=
 ⟨(z5J b u1 u2).1.trans (KeepEx.setCell _ (.inl (by simp)) u3),(z5J b u1 u2).2.set_ 3 u3⟩
theorem zdf {D S c M g2 cap2:Nat}{F:List Nat}{y:DevS}{a:Int}{s:List Int}{w V V1 V2:World}(W:World)(cv1:Value)(tmp:Obj)(okA:(y.added a s).Ok)(mV:DevMem V D S c M cv1 y)(hD:D∈F)(hS:S∈F)(hM:M∈F)
  (hCV:∀g,cv1.ownBlock=some g→g∈F) (hLt:∀b∈F,0<b∧b<V.heap.size) (hHV:HalfAt V) (gWV:Grow w F V F)
  (hM1:V1.ownsMap prog 3 (plainElem prog 3) M (y.cache.length+1) ((z1t (z1H y.cache) y.cache.length).put (.int .i64 a) (.lit (.int .i64 y.cache.length))))
  (hg1:V.drew.grownBy V1 (some M)) (hg2:(V1.drew.alloc tmp).grownBy V2 cv1.ownBlock)
  (hown2:V2.ownsRow 0 130 129 (.slice (some ⟨g2,0,none⟩) (y.cache.length+1) cap2) (y.cache.length+1) (y.cache.flatMap dwV++dwV (a,s)))
  (hat2:(Value.slice (some ⟨g2,0,none⟩) (y.cache.length+1) cap2).ownBlock=cv1.ownBlock∨(Value.slice (some ⟨g2,0,none⟩) (y.cache.length+1) cap2).ownBlock=some (V1.drew.alloc tmp).heap.size)
  (hW:KeepEx V2.heap.size [D] V2 W) (bD:Blk W D 133 (devC S y.stable.length c (.slice (some ⟨g2,0,none⟩) (y.cache.length+1) cap2) (y.taken+1) (if 0<y.power then y.power - 1 else y.power) y.off M)):
  ∃F',DevAt W D F' (y.added a s)∧Grow w F W F':=by
 obtain⟨n1,n2,n3,n4,n5,n6⟩:=mV.ne;have z0:=gWV.keep.size;have z1:V.heap.size≤V1.heap.size:=hg1.size;have z2:V1.heap.size+1≤V2.heap.size:=by have:=hg2.size;simpa using this
 have z3:=hW.size;have hg2l:g2<V2.heap.size:=(hown2.lt g2 rfl).2;have hgF:g2∈F∨V.heap.size≤g2:=by
  rcases hat2 with e|e
  ·exact .inl (hCV g2 e.symm)
  ·right
   simp only[Value.ownBlock,Option.some.injEq,World.size_alloc]at e;have:V1.drew.heap.size=V1.heap.size:=rfl
   omega
 have hgD:g2≠D:=by
  rintro rfl;rcases hat2 with e|e
  ·exact n4 e.symm
  ·simp only[Value.ownBlock,Option.some.injEq,World.size_alloc]at e;have:V1.drew.heap.size=V1.heap.size:=rfl
   have:=(hLt _ hD).2
   omega
 have key:∀k,k<V.heap.size→k≠D→k≠M→cv1.ownBlock≠some k→W.heap[k]?=V.heap[k]?:=fun k hk h1 h2 h3=>by
  rw[hW.block k (by omega) (by simpa using h1),hg2.block k (by simp;have:V1.drew.heap.size=V1.heap.size:=rfl;omega) (fun e=>h3 e.symm),Below.heap_alloc V1.drew _ k (by show k<V1.heap.size;omega)]
  exact hg1.block k hk (by simpa using h2)
 have keepV:KeepEx V.heap.size F V W:=⟨hW.os.trans (hg2.os.trans hg1.os),hW.tape.trans (hg2.tape.trans hg1.tape),hW.output.trans (hg2.output.trans hg1.output),by omega,fun k hk hn=>key k hk (fun e=>hn (e▸hD)) (fun e=>hn (e▸hM)) (fun e=>hn (hCV k e))⟩
 have g2w:Grow V F W (g2::F):=⟨keepV,fun b hb=>by
  rcases List.mem_cons.1 hb with rfl|hb
  ·exact hgF
  ·exact .inl hb⟩
 refine⟨g2::F,⟨okA,g2w.half hHV (fun hm=>by have:=(hLt 0 hm).1;omega),⟨S,c,M,.slice (some ⟨g2,0,none⟩) (y.cache.length+1) cap2,⟨?_,?_,?_,?_⟩,zhJ _ hD,zhJ _ hS,zhJ _ hM,fun g e=>?_⟩,fun b hb=>?_⟩,gWV.trans g2w⟩
 ·exact bD
 ·exact z0c mV.sta fun g e=>by
   cases e;exact key S (hLt S hS).2 (fun e=>n1 e.symm) n3 n6
 ·have hl:(y.added a s).cache.length=y.cache.length+1:=by show (y.cache++[(a,s)]).length=_;simp
  rw[hl,show (y.added a s).cache.flatMap dwV=y.cache.flatMap dwV++dwV (a,s) by show (y.cache++[(a,s)]).flatMap dwV=_;simp]
  exact z0c hown2 fun g e=>by
   cases e;exact hW.block g2 hg2l (by simpa using hgD)
 ·have hl:(y.added a s).cache.length=y.cache.length+1:=by show (y.cache++[(a,s)]).length=_;simp
  rw[hl];show W.ownsMap _ _ _ _ _ (z1t (z1H (y.cache++[(a,s)])) (y.cache.length+1))
  rw[z7N];refine z0j hM1 ?_;have hMl:=(hLt M hM).2;rw[hW.block M (by omega) (by simpa using fun e=>n2 e.symm),hg2.block M (by simp;have:V1.drew.heap.size=V1.heap.size:=rfl;omega) (fun e=>n5 e.symm)]
  exact Below.heap_alloc V1.drew _ M (by show M<V1.heap.size;omega)
 ·simp only[Value.ownBlock,Option.some.injEq]at e;subst e;simp
 ·rcases List.mem_cons.1 hb with rfl|hb
  ·refine⟨?_,by omega⟩
   rcases hgF with h|h
   ·exact(hLt _ h).1
   ·have:=hHV.1;omega
  ·exact⟨(hLt b hb).1,by have:=(hLt b hb).2;omega⟩
theorem z9j (D:Nat)(F:List Nat)(x:DevS)(a:Int)(s:List Int)(hs:s.length=128∧z0V s)(w:World)(h:DevAt w D F x):
    Calls prog 120 #[.pointer (some ⟨D,0,none⟩),.int .i64 a,.agg (z03 s)] w fun e w'=>e=.returned (.int .i64 (x.write a s).1)∧∃F',DevAt w' D F' (x.write a s).2∧Grow w F w' F':=by
  have hOk:=h.ok.write a hs;unfold DevS.write at hOk ⊢;by_cases hE:x.atE a=0
  rotate_left
  · rw[if_pos hE]
    obtain⟨ok,hH,⟨S,c,M,cv,m,hD,hS,hM,hC⟩,lt⟩:=h;have hat:=zaH D S x.stable.length c cv x.taken x.power x.off M a (w.alloc (.cells (z03 s) 128)) (m.dev.alloc _);have h':DevAt w D F x:=⟨ok,hH,⟨S,c,M,cv,m,hD,hS,hM,hC⟩,lt⟩;obtain⟨E,hEq⟩:∃E,x.atE a=E:=⟨_,rfl⟩;have hat:Calls prog 184 #[.pointer (some ⟨D,0,none⟩),.int .i64 a] (w.alloc (.cells (z03 s) 128)) fun e w'=>e=.returned (.int .i64 E)∧w'=w.alloc (.cells (z03 s) 128):=by rw[←hEq];exact hat
    rw[hEq]at hE ⊢;have hE':(E != 0)=true:=by simpa using hE
    clear m hEq hE;go_enter func120,ntmps120
    go_wp2_with fail
    refine hat.mono ?_;rintro e w1 ⟨rfl,rfl⟩;go_wp2_with fail
    go_ret
    have hb:Below w.heap.size w (w.alloc (.cells (z03 s) 128)):=(zho _ _).alloc (zhT _) _;exact⟨rfl,F,h'.below hb,Grow.of_below hb F⟩
  rw[if_neg (by simpa using hE)]at hOk ⊢
  obtain⟨ok,hH,⟨S,c,M,cv,m,hD,hS,hM,hC⟩,lt⟩:=h;have h0:0∉F:=fun hm=>by have:=(lt 0 hm).1;omega
  have ha:=z4m hE;have hat:=zaH D S x.stable.length c cv x.taken x.power x.off M a (w.alloc (.cells (z03 s) 128)) (m.dev.alloc _);have hat:Calls prog 184 #[.pointer (some ⟨D,0,none⟩),.int .i64 a] (w.alloc (.cells (z03 s) 128)) fun e w'=>e=.returned (.int .i64 0)∧w'=w.alloc (.cells (z03 s) 128):=by
    rw[show Go.Proofs.YtejmknghkbobnaaGreatDoor.atE x.off x.stable.length a=0 from hE]at hat;exact hat
  clear hE;have hb:Below w.heap.size w (w.alloc (.cells (z03 s) 128)):=(zho _ _).alloc (zhT _) _;have bX:Blk (w.alloc (.cells (z03 s) 128)) w.heap.size 128 (z03 s):=Blk.new _ _ _;have mA:DevMem (w.alloc (.cells (z03 s) 128)) D S c M cv x:=⟨m.dev.alloc _,z0a m.sta hb,z0a m.cac hb,m.map.alloc _⟩;have ltA:∀b∈F,0<b∧b<(w.alloc (.cells (z03 s) 128)).heap.size:=fun b hm=>⟨(lt b hm).1,by have:=(lt b hm).2;simp;omega⟩
  have hHA:=hH.below hb hH.1;have gA:=Grow.of_below hb F;have nX:w.heap.size∉F:=fun hm=>by have:=(lt _ hm).2;omega
  obtain⟨W,hW⟩:∃W,W=w.alloc (.cells (z03 s) 128):=⟨_,rfl⟩;rw[←hW]at hat hb bX mA ltA hHA gA;by_cases hp:x.power=0∨x.taken=1000000000000
  · rw[if_pos hp]at hOk ⊢
    have hpd:(x.power==0)=true∨(x.power==0)=false∧(x.taken==1000000000000)=true:=by
      by_cases h:x.power=0
      · exact .inl (by simpa using h)
      · rcases hp with hp|hp
        · exact absurd hp h
        · exact .inr ⟨by simpa using h,by simpa using hp⟩
    have bD1:Blk (W.setCell ⟨D,4,none⟩ (.bool true)) D 133 (devC S x.stable.length c cv x.taken x.power true M):=mA.dev.set_ 4 _;obtain⟨n1,n2,n3,n4,n5,n6⟩:=mA.ne;have mB:DevMem (W.setCell ⟨D,4,none⟩ (.bool true)) D S c M cv { x with off:=true }:=
      ⟨bD1,z0c mA.sta fun g e=>by cases e;exact Below.heap_setCell _ _ _ _ (fun e=>n1 e.symm),z0c mA.cac fun g e=>Below.heap_setCell _ _ _ _ (fun e'=>by subst e';exact n4 e),z0j mA.map (Below.heap_setCell _ _ _ _ (fun e=>n2 e.symm))⟩
    have gB:Grow W F (W.setCell ⟨D,4,none⟩ (.bool true)) F:=⟨KeepEx.setCell _ (.inl hD) _,fun b hb=>.inl hb⟩
    have bD:=mA.dev;unfold devC at bD;have cD:=bD.cells;have fD:=bD.free;have lD:=bD.lt;have hfin:DevAt (W.setCell ⟨D,4,none⟩ (.bool true)) D F { x with off:=true }:=⟨hOk,gB.half hHA h0,⟨S,c,M,cv,mB,hD,hS,hM,hC⟩,fun b hb=>by simpa using ltA b hb⟩
    clear mA mB m bD1 hp;rcases hpd with hp|⟨hp,hq⟩
    all_goals
      go_enter func120,ntmps120
      go_wp2_with fail
      rw[←hW];clear hW;refine hat.mono ?_;rintro e w1 ⟨rfl,rfl⟩;go_wp2_with fail
      go_ret
      exact⟨rfl,F,hfin,gA.trans gB⟩
  rw[if_neg hp]at hOk ⊢;have hp1:(x.power==0)=false:=by simpa using fun h=>hp (.inl h)
  have hp2:(x.taken==1000000000000)=false:=by simpa using fun h=>hp (.inr h)
  have hp3:x.taken<1000000000000:=by have:=ok.tk;omega
  clear hp m;obtain⟨okY,hLy,hnY,htY,hpY,hoY⟩:=ok.room;have ht1:0≤x.room.taken∧x.room.taken<1000000000000:=by have:=ok.tk;rw[htY];omega
  clear hnY htY hpY hoY;have hL:=ok.len;have hL3:=ok.hi;obtain⟨A0,cc0,g0,hcv0,hA0⟩:=z4W mA;subst hcv0;have bD:=mA.dev;unfold devC at bD;have cD:=bD.cells;have lD:=bD.lt;by_cases hf:x.cache.length=400
  focus
    have hfd:((x.cache.length:Int)==400)=true:=by rw[hf];rfl
    have hr:x.room=x.flushed:=if_pos hf;rw[hr]at okY hLy ht1 hOk ⊢;have hst:=z7s D S c M _ x ok W mA;have HB:=zhs hb;have HBX:=zhs bX;go_enter func120,ntmps120
    go_wp2_with fail
    rw[←hW];clear hW hb gA bX;refine hat.mono ?_;rintro e w1 ⟨rfl,rfl⟩;go_wp2_with fail
    refine hst.mono ?_;rintro e V ⟨⟨v,rfl⟩,mV,hxV⟩;go_wp2_with fail
    have bXV:Blk V w.heap.size 128 (z03 s):=(hxV.block _ HBX.out.lt (by simp;exact⟨fun e=>nX (e▸hD),fun e=>nX (e▸hS),fun e=>nX (e▸hM)⟩)).trans HBX.out
    have gV:Grow w1 F V F:=⟨⟨hxV.os,hxV.tape,hxV.output,hxV.size,fun k hk hn=>hxV.block k hk (by simp;exact⟨fun e=>hn (e▸hD),fun e=>hn (e▸hS),fun e=>hn (e▸hM)⟩)⟩,fun b hb=>.inl hb⟩
    have hCV:∀g,(Value.slice none 0 0).ownBlock=some g→g∈F:=fun g e=>by cases e
    generalize (Value.slice none 0 0)=cvV at mV hCV;clear hxV hst mA cD bD hr hfd hat;generalize hyx:x.flushed=y at *;have HYX:=zhs hyx;clear hyx;have gWV:Grow w F V F:=(Grow.of_below HB.out F).trans gV;clear gV HB
  rotate_left;focus
    have hfd:((x.cache.length:Int)==400)=false:=by simpa using (by omega:¬(x.cache.length:Int)=400)
    have hr:x.room=x:=if_neg hf;rw[hr]at okY hLy ht1 hOk ⊢;have HB:=zhs hb;have HBX:=zhs bX;go_enter func120,ntmps120
    go_wp2_with fail
    rw[←hW];clear hW hb gA bX;refine hat.mono ?_;rintro e V ⟨rfl,rfl⟩;go_wp2_with fail
    have mV:=mA;have bXV:=HBX.out;have gV:Grow V F V F:=Grow.refl _ _;have hCV:=hC;generalize (Value.slice A0 x.cache.length cc0)=cvV at mV hCV;clear mA cD bD hr hfd hat;have gWV:Grow w F V F:=(Grow.of_below HB.out F).trans gV;clear gV HB;rename DevS=>y
  all_goals
    have hLt:∀b∈F,0<b∧b<V.heap.size:=fun b hm=>⟨(lt b hm).1,zhR (lt b hm).2 gWV.keep.size⟩
    have hHV:=gWV.half hH h0;have hDlV:=(hLt D hD).2;have hMlV:=(hLt M hM).2;have hSlV:=(hLt S hS).2;obtain⟨A1,cc1,g1,hcv1,hA1⟩:=z4W mV;subst hcv1;have wa:(Lit.int .i64 a).wf=true:=by simp[Lit.wf,IntKind.min,IntKind.max,IntKind.signed,IntKind.bits];omega
    have wl:(Lit.int .i64 (y.cache.length:Int)).wf=true:=by simp[Lit.wf,IntKind.min,IntKind.max,IntKind.signed,IntKind.bits];omega
    obtain⟨V1,hrun1,hM1,hg1⟩:=mV.map.drew.update z3i underlying131 (by simp only[maxLen];omega) (keyOf_int_mk underlying3 wa) (plainElem_int underlying3 wl)
    have bDV:=mV.dev;have bD1:=bDV.drew.grown hg1 (by simp;exact fun e=>mV.ne.2.1 e)
    unfold devC at bDV;have cDV:=bDV.cells;refine wp_region_still_tail 11 (by kernel_rfl) (by kernel_rfl) ?_
    simp only[List.take_succ_cons,zi2,List.drop_succ_cons,List.drop_zero];change wpStill _ _ V.drew _ _ _
    repeat still_step
    refine wpStill_nil ?_;change wpList _ _ _ _ _ V.drew
    go_wp2_with fail
    clear hrun1 cDV;have hz1:=hg1.size;have hDlt1:D<V1.heap.size:=by have:V.drew.heap.size=V.heap.size:=rfl;omega
    have bX1:Blk V1 w.heap.size 128 (z03 s):=bXV.drew.grown hg1 (by simp;exact fun e=>nX (e▸hM))
    have sta1:V1.ownsRow 0 128 128 (.slice (some ⟨S,0,none⟩) y.stable.length c) y.stable.length (y.stable.flatMap secV):=z0c mV.sta fun g e=>by cases e;exact hg1.block S hSlV (by simp;exact fun e=>mV.ne.2.2.1 e)
    have cac1:V1.ownsRow 0 130 129 (.slice A1 y.cache.length cc1) y.cache.length (y.cache.flatMap dwV):=z0c mV.cac fun g e=>hg1.block g (hLt g (hCV g e)).2 (by rw[←e];exact mV.ne.2.2.2.2.1)
    obtain⟨iD,hiD,hiz,his,hib⟩:=info_parts Tryz.infoDvW3;have hpl:(dwV (a,s)).length=129:=by rw[z0I,hs.1]
    have hbA:Blk (V1.drew.alloc (.cells (dwV (a,s)).toArray 130)) V1.heap.size 130 (dwV (a,s)).toArray:=Blk.new _ _ _;obtain⟨v2,V2,hrun2,hown2,hg2,-,hat2⟩:=run_append_own_at (P:=prog) (V1.drew.alloc (.cells (dwV (a,s)).toArray 130)) 0 32 32 130 iD _ 129 136 underlying32 hiD hiz his hib
      (by show (#[Value.int .i64 0]++fill (.int .u8 0) 128).size=129;rw[Array.size_append,z6H];rfl) (by omega) _ _ _ (z0a cac1 ((zho _ _).drew.alloc (zhT _) _)) ⟨V1.heap.size,0,none⟩ 1 1 (dwV (a,s)) (by rw[hpl]) (fun j u hu=>by rw[z1P,zi8,hbA.cells];simpa using hu) (z3o _) (by simp only[maxLen];omega) (by omega) (by omega)
    have nD2:some D≠Value.ownBlock (.slice A1 y.cache.length cc1):=fun e=>mV.ne.2.2.2.1 e.symm
    have nX2:some w.heap.size≠Value.ownBlock (.slice A1 y.cache.length cc1):=fun e=>nX (hCV _ e.symm)
    have bX2:Blk V2 w.heap.size 128 (z03 s):=(bX1.drew.alloc _).grown hg2 nX2;have bD2:=(bD1.drew.alloc (.cells (dwV (a,s)).toArray 130)).grown hg2 nD2;have bD1c:=bD1;have bD2c:=bD2;unfold devC at bD1c bD2c;have hS1:V1.cell? ⟨D,1,none⟩=some (.slice A1 y.cache.length cc1)∧z2S V1 ⟨w.heap.size,0,none⟩ (secV s):=⟨by rw[bD1c.cells];rfl,bX1.at_ 0 _ (fun j u hu=>by rw[zi8];simpa[secV,z03]using hu)⟩
    have hSA:(V1.drew.alloc (.cells (dwV (a,s)).toArray 130)).cell? ⟨D,1,none⟩=some (.slice A1 y.cache.length cc1)∧z2S (V1.drew.alloc (.cells (dwV (a,s)).toArray 130)) ⟨w.heap.size,0,none⟩ (secV s):=⟨by rw[(bD1c.drew.alloc _).cells];rfl,(bX1.drew.alloc _).at_ 0 _ (fun j u hu=>by rw[zi8];simpa[secV,z03]using hu)⟩
    have hS2:V2.cell? ⟨D,1,none⟩=some (.slice A1 y.cache.length cc1)∧z2S V2 ⟨w.heap.size,0,none⟩ (secV s):=⟨by rw[bD2c.cells];rfl,bX2.at_ 0 _ (fun j u hu=>by rw[zi8];simpa[secV,z03]using hu)⟩
    have cD2:=bD2c.cells;have fD2:=bD2c.free;have lD2:=bD2c.lt;refine z6e 9 (fun w'=>w'.cell? ⟨D,1,none⟩=some (.slice A1 y.cache.length cc1)∧z2S w' ⟨w.heap.size,0,none⟩ (secV s)) (by kernel_rfl) (by kernel_rfl) (fun _ _ _ _ _ h=>h) hS1 ?_
    simp only[List.take_succ_cons,zi2,List.drop_succ_cons,List.drop_zero];repeat (first
      | (refine zc5 rfl 128 _ rfl (.agg (secV s).toArray) (.pointer (some ⟨w.heap.size,0,none⟩)) rfl (fun w' hw'=>z0P hw'.2 (z9g _) (by rw[z0T,hs.1];exact z3r _)) ?_)
      | (refine zap rfl _ _ rfl [(0,.int .i64 a),(1,.agg (secV s).toArray)] rfl (.agg (dwV (a,s)).toArray) (z9b a s hs.1) ?_)
      | (
         refine z4H rfl ?_ (fun w' hw'=>?_) ?_
         rotate_left;focus
           obtain⟨hw1,-⟩:=hw';go_simp;(try with_reducible rfl)
         (try simp only[Act.put,zht,zhu,zhv])))
    refine zd4 ?_;refine za6 rfl 32 1 _ rfl [(0,.agg (dwV (a,s)).toArray)] rfl (.slice (some ⟨V1.heap.size,0,none⟩) 1 1) (z2N (a,s) hs.1 _) (fun _=>hSA) ?_
    refine z8R rfl _ _ 32 rfl (.slice A1 y.cache.length cc1) (.slice (some ⟨V1.heap.size,0,none⟩) 1 1) v2 rfl rfl hrun2 (fun _=>hS2) ?_
    simp only[Act.put,zht,zhu,zhv];obtain⟨g2,cap2,rfl,-,hg2l⟩:=z2f hown2 (by omega)
    repeat (
      refine z7k fun K hK=>?_
      go_simp;refine hK _ _ (by first|(intro _;exact hS2)|(intro h;exact absurd rfl h)) ?_
      clear hK K)
    show Exit.then _ _ _ _ _
    have hL1:y.cache.length<400:=hLy;have hwt:IntKind.i64.wrap (y.taken+1)=y.taken+1:=by rw[IntKind.wrap_i64];omega
    have hwp:IntKind.i64.wrap (y.power - 1)=y.power - 1:=by have:=okY.pw;rw[IntKind.wrap_i64];omega
    clear hS1 hSA hS2 hrun2;have hfin:=@zdf D S c M g2 cap2 F y a s w V V1 V2;have hDl:D<V2.heap.size:=by omega
    obtain⟨pw',hpe,hpc⟩:∃pw',(if 0<y.power then y.power - 1 else y.power)=pw'∧(0<y.power∧y.power - 1=pw'∨¬0<y.power∧y.power=pw'):=by
      by_cases h:0<y.power
      · exact⟨_,if_pos h,.inl ⟨h,rfl⟩⟩
      · exact⟨_,if_neg h,.inr ⟨h,rfl⟩⟩
    rw[hpe]at hfin;have HF:=zhs hfin;clear hfin hpe;rcases hpc with ⟨hpw,rfl⟩|⟨hpw,rfl⟩
    all_goals
      go_wp2_with fail
      go_ret
      refine⟨rfl,?_⟩
      (try rw[HYX.out])
      refine HF.out _ _ _ hOk mV hD hS hM hCV hLt hHV gWV hM1 hg1 hg2 hown2 hat2 ?_ ?_
      · first
          | with_reducible exact(zb4 bD2c _ _ _).1
          | with_reducible exact(z5J bD2c _ _).1
      · unfold devC
        first
          | with_reducible exact(zb4 bD2c _ _ _).2
          | with_reducible exact(z5J bD2c _ _).2
end Go.Proofs.YtejmknghkbobnaaGreatDoor
