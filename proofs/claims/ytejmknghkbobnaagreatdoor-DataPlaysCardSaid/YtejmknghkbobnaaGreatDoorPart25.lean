import Derived.Test.YtejmknghkbobnaaGreatDoorPart24
set_option linter.all false
set_option maxRecDepth 100000
set_option maxHeartbeats 0
namespace Go.Proofs.YtejmknghkbobnaaGreatDoor
open Go.Proofs.Tryz
open Go.RowKit Go.Maps
def RBox (w:World)(P:Nat->Prop)(g:Nat)(x:DevS):Prop:=∃A c C d,Blk w g 34 (ap (.slice A x.stable.length c) (.slice C x.cache.length d) x.taken x.power x.off)/\RSt w P A C x
theorem ia {P:Program}{o:Oper}{a:Act}{w w':World}{K:Act->World->Prop}{Q:Exit->Act->World->Prop}(t:TypeId)(n:Nat)(c:Array (Nat × Operand))(I:o.op=.buildSlice t n c)(vs:List (Nat × Value))(D:c.toList.map (fun p=>(p.1,a.eval p.2))=vs)(v:Value)
  (A:(Instr.buildSlice t n vs.toArray).run P w=.ok v w') (h:K (a.put o.dst v) w'):o.wp P a w K Q:=by
 have e:(c.map fun (i,x)=>(i,a.eval x))=vs.toArray:=by rw[<-D];apply Array.toList_inj.1;simp
 unfold Oper.wp execOp;simp only[I,e,Sem.run_bind,A,Result.andThen_ok,Sem.run_pure];exact h
theorem ek {P:Program}{w w':World}{o:Oper}{a:Act}{K:Act->World->Prop}{Q:Exit->Act->World->Prop}(s x:Operand)(t:TypeId)
  (D:o.op=.call { callee:=.builtin .append,args:=#[s,x],argTypes:=#[t,t] }) (v X A:Value) (I:a.eval s=v) (J:a.eval x=X)
  (c:(Builtin.append_ #[t,t] o.type #[v,X]).run P w=.ok A w') (h:K (a.put o.dst A) w'):o.wp P a w K Q:=by
 unfold Oper.wp execOp;simp only[D,resolve,invoke,builtin,Sem.run_bind,Sem.run_pure,Result.andThen_ok,List.map_toArray,kR,kS,I,J,c];exact h
theorem z2f {P:Program}{D:Array Oper}{Q:Exit->Act->World->Prop}{S:World->Prop}{o:Oper}{r:Tf}{a:Act}{w:World}(t:TypeId)(A:Array (Nat × Operand))(K:o.op=.build t A)(M:Region.wanted o (yielded D a.tmps)=true)(c:Array Value)
  (J:P.built t (A.toList.map fun p=>(p.1,a.eval p.2))=some c) (h:gy P D Q S r (a.put o.dst (.agg c)) w):gy P D Q S (.take o r) a w:=
 gh M (.agg c) (fun w' _=>by
  have I:P.built t (A.map fun (i,x)=>(i,a.eval x)).toList=some c:=by rw[Array.toList_map];exact J
  unfold execOp;simp only[K,Sem.run_bind,run_build w' t _ c I,Result.andThen_ok];rfl) h
theorem z0n (w:World):(Instr.buildSlice 32 0 #[]).run prog w=.ok (.slice (some ⟨w.heap.size,0,none⟩) 0 0) (w.alloc (.cells #[] 130)):=by
 obtain⟨A,c⟩:∃A,prog.info? 130=some A:=by
  have:=Tryz.oP
  cases h:prog.info? 130 with
  | none=>rw[h]at this;cases this
  | some A=>exact⟨A,rfl⟩
 have D:=Tryz.oP;rw[c]at D;simp only[Option.map_some,lx,Prod.mk.injEq]at D;simp[Instr.buildSlice,run_underlying underlying32,sizeOf,typeInfo,c,Instr.fill,newRow,show Array.range 0=#[]from by simp]
theorem z5X (w:World):(w.alloc (.cells #[] 130)).ownsRow w.heap.size 130 129 (.slice (some ⟨w.heap.size,0,none⟩) 0 0) 0 []:=World.ownsRow_made w #[] 0 (kE _) (by simp) rfl
theorem z1l (w:World)(p:Int × List Int):Reads (w.alloc (.cells (dwV p).toArray 130)) (some ⟨w.heap.size,0,none⟩) (dwV p):=by
 have:=Blk.new w 130 (dwV p).toArray
 exact .inr ⟨_,0,rfl,this.lt,fun k u c=>by rw[ld];exact(this.cells k).trans (by simpa using c)⟩
theorem z7w (P:Nat->Prop)(A C:Option Addr)(c d:Nat)(x:DevS)(a:Int)(s:List Int)(hs:s.length=128/\bj s)(w:World)(hP:∀b,w.heap.size<=b->P b)(hq:RSt w P A C x):
  Calls prog 106 #[stV A c C d x,.int .i64 a,.agg (ag s)] w (RGot w P (x.write a s)):=by
 have bt:=hs.1;have b6:=hq.ok.write a hs;have hz:=cy;obtain⟨w0,J⟩:=zex (((w.alloc (.cells (ap (.slice A x.stable.length c) (.slice C x.cache.length d) x.taken x.power x.off) 34)).alloc (.cells (ag s) 128)).alloc (.cells (ap (.slice none 0 0) (.slice none 0 0) 0 0 false) 34));have bD:Blk w0 w.heap.size 34 (ap (.slice A x.stable.length c) (.slice C x.cache.length d) x.taken x.power x.off):=by rw[J];exact zbn
 have bS:Blk w0 (w.heap.size+1) 128 (ag s):=by rw[J];exact zbn
 have bR:Blk w0 (w.heap.size+1+1) 34 (ap (.slice none 0 0) (.slice none 0 0) 0 0 false):=by rw[J];exact zbn
 have B0:Zr w w0:=by rw[J];exact zgr
 have z0:=kD (show w0.heap.size=w.heap.size+1+1+1 by rw[J];simp)
 have HQ:=kD hq;have bT:=kD (hq.below B0);have bu:=kD b6;have HP:=kD hP;have HS:=kD hs;have ez:=hq.ok.tk;have ey:=hq.ok.pw;have ev:=hq.ok.hi;have es:=hq.ok.len;have br:Hid (x.write a s=if x.atE a≠0 then (x.atE a,x)else if x.power=0\/x.taken=1000000000000 then (13,{ x with off:=true })else (0,x.room.added a s)):=kD rfl
 have bw:Hid (x.atE a=if x.off then 13 else if a<0\/(x.stable.length:Int)<=a then 7 else 0):=kD rfl
 have D:=aT (ty:=34) (vs:=ap (.slice A x.stable.length c) (.slice C x.cache.length d) x.taken x.power x.off) bR rfl (by simp[ap,Value.oneCell']) (by kernel_rfl)
 have bq:=bR.setRow (cs':=ap (.slice A x.stable.length c) (.slice C x.cache.length d) x.taken x.power x.off);have B1:=Below.setRow B0 (g:=w.heap.size+1+1) (by omega) (ap (.slice A x.stable.length c) (.slice C x.cache.length d) x.taken x.power x.off)
 have bJ:∀E:Int,x.write a s=(E,x)->RGot w P (x.write a s) (.returned (.tuple #[stV A c C d x,.int .i64 E])) (w0.setRow (w.heap.size+1+1) (ap (.slice A x.stable.length c) (.slice C x.cache.length d) x.taken x.power x.off)):=fun E h=>by
  rw[h];exact⟨A,c,C,d,rfl,hq.below B1,B1⟩
 have cc:=kD bJ;clear bJ b6 hP hq hs;by_cases hE:x.atE a=0
 rotate_left
 ·as_aux_lemma=>
  have ba:=cc.out (x.atE a) (by rw[br.out,if_pos hE])
  rw[bw.out]at ba hE;clear cc br bu HP HQ bw;obtain⟨bU,b5⟩:=bq.zc;unfold stV ap at *;cases ho:x.off
  ·rw[ho]at J bD D bq bU b5 ba hE;rw[if_neg (by simp)]at ba hE
   by_cases ha:a<0\/(x.stable.length:Int)<=a
   rotate_left
   ·rw[if_neg ha]at hE;exact absurd rfl hE
   rw[if_pos ha]at ba;clear hE;have hd:a<0\/(¬a<0/\(x.stable.length:Int)<=a):=by omega
   clear ha;rcases hd with hd|⟨hd,cP⟩
   all_goals
    go_enter func106,ntmps106
    go_upto_region 1 with fail
    rw[<-J];clear J;obtain⟨cD,lD⟩:=bD.zc;go_wp2_with (refine zsb D ?_)
    refine bodyPost_ret (v:=.tuple #[.agg #[.slice A x.stable.length c,.slice C x.cache.length d,.int .i64 x.taken,.int .i64 x.power,.bool false],.int .i64 7]) (by simp[results,results106,go_sem,bU,b5]) rfl ba
  ·rw[ho]at J bD D bq bU b5 ba hE;rw[if_pos rfl]at ba;go_enter func106,ntmps106
   go_upto_region 1 with fail
   rw[<-J];clear J;obtain⟨cD,lD⟩:=bD.zc;go_wp2_with (refine zsb D ?_)
   refine bodyPost_ret (v:=.tuple #[.agg #[.slice A x.stable.length c,.slice C x.cache.length d,.int .i64 x.taken,.int .i64 x.power,.bool true],.int .i64 13]) (by simp[results,results106,go_sem,bU,b5]) rfl ba
 clear D bq B1 cc;have Y:x.off=false:=by
  rw[bw.out]at hE;cases ho:x.off
  ·rfl
  ·rw[ho]at hE;exact absurd hE (by simp)
 have d3:¬a<0/\¬(x.stable.length:Int)<=a:=by
  rw[bw.out,Y]at hE;by_cases ha:a<0\/(x.stable.length:Int)<=a
  ·rw[if_neg (by simp),if_pos ha]at hE;exact absurd hE (by decide)
  ·omega
 obtain⟨ej,en⟩:=d3;have HE:=kD hE;clear hE bw;by_cases bG:x.power=0\/x.taken=1000000000000
 ·as_aux_lemma=>
  have hw:x.write a s=(13,{ x with off:=true }):=by rw[br.out,if_neg (by rw[HE.out];simp),if_pos bG]
  have bC:({ x with off:=true }:DevS).Ok:=by have:=bu.out;rw[hw]at this;exact this
  have av:Blk (w0.setCell ⟨w.heap.size,4,none⟩ (.bool true)) w.heap.size 34 (ap (.slice A x.stable.length c) (.slice C x.cache.length d) x.taken x.power true):=bD.mG 4 (.bool true);have a2:Blk (w0.setCell ⟨w.heap.size,4,none⟩ (.bool true)) (w.heap.size+1+1) 34 (ap (.slice none 0 0) (.slice none 0 0) 0 0 false):=(Below.heap_setCell w0 ⟨w.heap.size,4,none⟩ _ (w.heap.size+1+1) (by simp;omega)).trans bR
  have B2:Zr w (w0.setCell ⟨w.heap.size,4,none⟩ (.bool true)):=kG B0 (kE _) _;have D:=aT (ty:=34) (vs:=ap (.slice A x.stable.length c) (.slice C x.cache.length d) x.taken x.power true) a2 rfl (by simp[ap,Value.oneCell']) (by kernel_rfl)
  have bb:=a2.setRow (cs':=ap (.slice A x.stable.length c) (.slice C x.cache.length d) x.taken x.power true);have B3:=Below.setRow B2 (g:=w.heap.size+1+1) (by omega) (ap (.slice A x.stable.length c) (.slice C x.cache.length d) x.taken x.power true)
  have a6:RGot w P (x.write a s) (.returned (.tuple #[.agg (ap (.slice A x.stable.length c) (.slice C x.cache.length d) x.taken x.power true),.int .i64 13])) ((w0.setCell ⟨w.heap.size,4,none⟩ (.bool true)).setRow (w.heap.size+1+1) (ap (.slice A x.stable.length c) (.slice C x.cache.length d) x.taken x.power true)):=by
   rw[hw];have h:=HQ.out.below B3;exact⟨A,c,C,d,rfl,⟨bC,h.sta,h.cac,h.la,h.lc⟩,B3⟩
  obtain⟨ds,ea⟩:=bb.zc;clear HQ bT bu HP br B2 B3 hw bC;unfold stV ap at *;rw[Y]at bD J |-;obtain⟨cn,cB⟩:=av.zc;have hd:(x.power==0)=true\/((x.power==0)=false/\1000000000000<=x.taken):=by
   by_cases h:x.power=0
   ·exact .inl (by simpa using h)
   ·exact .inr ⟨by simpa using h,by omega⟩
  clear bG;rcases hd with hd|⟨hd,cP⟩
  all_goals
   go_enter func106,ntmps106
   go_upto_region 1 with fail
   rw[<-J];clear J;obtain⟨cD,lD⟩:=bD.zc;have fD:=bD.free;go_wp2_with (refine zsb D ?_)
   refine bodyPost_ret (v:=.tuple #[.agg #[.slice A x.stable.length c,.slice C x.cache.length d,.int .i64 x.taken,.int .i64 x.power,.bool true],.int .i64 13]) (by simp[results,results106,go_sem,ds,ea]) rfl a6
 have hw:x.write a s=(0,x.room.added a s):=by rw[br.out,if_neg (by rw[HE.out];simp),if_neg bG]
 have ex:(x.power==0)=false:=by rw[beq_eq_false_iff_ne];exact fun h=>bG (.inl h)
 have eg:x.taken<1000000000000:=by omega
 have cP:¬(1000000000000:Int)<=x.taken:=by omega
 have b9:(x.room.added a s).Ok:=by have:=bu.out;rw[hw]at this;exact this
 have cR:=HQ.out.ok.room;have HW:=kD hw;have cJ:=kD b9;obtain⟨P',bA⟩:=zex (Apt_ P w.heap.size w0.heap.size);have cw:RSt w0 P' A C x:=by rw[bA];exact HQ.out.apt B0 _
 have HN:=kD (show ∀b,w0.heap.size<=b->P' b by rw[bA];exact Apt_.new HP.out B0.size)
 have HA:=kD (show ∀g,w.heap.size<=g->g<w0.heap.size->∀b,P' b->b≠g by rw[bA];exact fun g h1 h2=>Apt_.ne h1 h2)
 have HU:=kD (show ∀b,P' b->P b by rw[bA];exact fun b h=>h.1)
 clear hw bG b9 bu br HE bA bT;have bT:=kD cw;obtain⟨y,hy⟩:=zex x.room;have HY:=kD hy;rw[<-hy]at cR;obtain⟨cb,d7,cS,bO,bN,bc⟩:=cR;have cK:=kD cS;have an:=z1u P' A C c d x w0 cw;unfold stV at an |-;unfold ap at bD bR J an |-;rw[Y]at bD J an |-;clear hy cS cw;go_enter func106,ntmps106
 go_upto_region 1 with fail
 rw[<-J];clear J;obtain⟨cD,lD⟩:=bD.zc;go_upto_if 34 with fail
 go_cut []from 34 to 36 (fun wx=>RBox wx P' w.heap.size y/\Blk wx (w.heap.size+1) 128 (ag s)/\Blk wx (w.heap.size+1+1) 34 #[.slice none 0 0,.slice none 0 0,.int .i64 0,.int .i64 0,.bool false]/\Zr w wx)
 case first=>
  as_aux_lemma=>
   by_cases hc:x.cache.length=400
   ·have bM:y=x.mX:=by rw[HY.out];unfold DevS.room;rw[if_pos hc]
    have dv:(400:Int)<=x.cache.length:=by omega
    have cg:=kD bM;clear hc bM;go_wp2_with fail
    refine an.mono ?_;rintro e w1 ⟨sv,rfl,bP,bQ⟩;obtain⟨a1,U,rfl⟩:=aw bP;have cL:=bD.mD bQ;have c8:=bS.mD bQ;have bq:=bR.mD bQ;have B1:=B0.trans (bQ.mono B0.size);have D:=aT (ty:=34) (vs:=#[.slice a1 x.stable.length U,.slice none 0 0,.int .i64 x.taken,.int .i64 x.power,.bool false]) cL rfl (by simp[Value.oneCell']) (by kernel_rfl)
    have av:=cL.setRow (cs':=#[.slice a1 x.stable.length U,.slice none 0 0,.int .i64 x.taken,.int .i64 x.power,.bool false]);have c9:=c8.mO (cs':=#[.slice a1 x.stable.length U,.slice none 0 0,.int .i64 x.taken,.int .i64 x.power,.bool false]) (show w.heap.size+1≠w.heap.size by omega)
    have a2:=bq.mO (cs':=#[.slice a1 x.stable.length U,.slice none 0 0,.int .i64 x.taken,.int .i64 x.power,.bool false]) (show w.heap.size+1+1≠w.heap.size by omega)
    have hz:=z0.out;have ao:(w1.setRow w.heap.size #[.slice a1 x.stable.length U,.slice none 0 0,.int .i64 x.taken,.int .i64 x.power,.bool false]).ownsRow w0.heap.size 128 128 (.slice a1 x.stable.length U) x.stable.length (x.mX.stable.flatMap bd):=
     ar bP fun q hq=>ak _ _ _ _ (by have:=(bP.lt q hq).1;omega)
    have B2:=Below.setRow B1 (g:=w.heap.size) (kE _) #[.slice a1 x.stable.length U,.slice none 0 0,.int .i64 x.taken,.int .i64 x.power,.bool false];have hl:x.mX.stable.length=x.stable.length:=aW _ _;clear hz;go_wp2_with (refine zsb D ?_)
    go_meet
    case rel=>
     have hf:=HQ.out.ok.mX;rw[cg.out];refine⟨⟨a1,U,none,0,?_,⟨hf,eU ao (by rw[gP fun s hs=>(hf.sec s hs).1,hl]),.inl rfl,gl ao HN.out,.inl rfl⟩⟩,c9,a2,B2⟩
     unfold ap;show Blk _ _ _ #[.slice a1 x.mX.stable.length U,.slice none 0 0,.int .i64 x.taken,.int .i64 x.power,.bool x.off]
     rw[hl,Y];exact av
   ·have bM:y=x:=by rw[HY.out];unfold DevS.room;rw[if_neg hc]
    have dv:¬(400:Int)<=x.cache.length:=by omega
    have cg:=kD bM;clear hc bM;go_wp2_with fail
    go_meet
    case rel=>
     rw[cg.out];exact⟨⟨A,c,C,d,by unfold ap;rw[Y];exact bD,bT.out⟩,bS,bR,B0⟩
 case rest=>
  as_aux_lemma=>
   obtain⟨⟨A1,U,C1,d1,bp,cz⟩,cM,cm,Bc⟩:=hcut;rw[cK.out,bO,bN,bc,Y]at bp;unfold ap at bp;have zc:w.heap.size+1+1<wc.heap.size:=cm.lt;have hm:=d7;have hz:=z0.out;have cU:=kD cz;obtain⟨m,bZ⟩:=zxe y.cache.length;obtain⟨xs,bL⟩:=zxe (y.cache.flatMap dwV);have bX:xs.length=m*129:=by rw[<-bL,<-bZ];exact z0x fun q hq=>(cb.cac q hq).2.2.1
   have b4:=cz.cac;have cp:∀u∈xs,u.oneCell'=true:=by rw[<-bL];exact z8Y
   have ci:=kD (And.intro bO (And.intro bN bc));have cT:=kD bZ;have cX:=kD bL;rw[bL]at b4;rw[bZ]at bp hm;have b0:(dwV (a,s)).length=1*129:=by rw[dS,bt]
   have hS:∀W,Zr wc W->W.cell? ⟨w.heap.size,1,none⟩=some (.slice C1 m d1)/\SecAt W ⟨w.heap.size+1,0,none⟩ s/\w.heap.size<W.heap.size:=fun W hW=>by
    have b:=bp.mD hW;have b2:=cM.mD hW;exact⟨(b.cells 1).trans rfl,⟨bt,rfl,fun j hj=>by
     show W.cell? ⟨w.heap.size+1,0+j,none⟩=_
     rw[ld];have d4:j<s.length:=by omega
     exact(b2.cells j).trans (by simp[ag,d4,kN])⟩,b.lt⟩
   have T:=kD hS;have bk:Hid (∀W v,Zr wc W->W.ownsRow wc.heap.size 130 129 v (m+1) (xs++dwV (a,s))->∃O S,v=.slice O (m+1) S/\(Instr.storeAt 32 (.pointer (some ⟨w.heap.size,1,none⟩)) v).run prog W=.ok () (W.setCell ⟨w.heap.size,1,none⟩ v)/\(W.setCell ⟨w.heap.size,1,none⟩ v).ownsRow wc.heap.size 130 129 v (m+1) (xs++dwV (a,s))/\Blk (W.setCell ⟨w.heap.size,1,none⟩ v) w.heap.size 34 #[.slice A1 x.stable.length U,v,.int .i64 x.taken,.int .i64 x.power,.bool false]/\Blk (W.setCell ⟨w.heap.size,1,none⟩ v) (w.heap.size+1+1) 34 #[.slice none 0 0,.slice none 0 0,.int .i64 0,.int .i64 0,.bool false]/\Zr w (W.setCell ⟨w.heap.size,1,none⟩ v)/\RSt (W.setCell ⟨w.heap.size,1,none⟩ v) P' A1 C1 y):=kD fun W v hW bF=>by
    obtain⟨O,S,rfl⟩:=aw bF;have bW:=bp.mD hW;have cW:=(bW.cells 1).trans (show _=some (Value.slice C1 m d1)from rfl)
    have lW:=bW.lt;have fW:=bW.free;refine⟨O,S,rfl,by go_simp,ar bF fun q hq=>Below.heap_setCell W _ _ q (by have:=(bF.lt q hq).1;show q≠w.heap.size;omega),bW.mG 1 _,(Below.heap_setCell W ⟨w.heap.size,1,none⟩ _ (w.heap.size+1+1) (by show w.heap.size+1+1≠w.heap.size;omega)).trans (cm.mD hW),kG (Bc.trans (hW.mono Bc.size)) (kE _) _,(cU.out.below hW).cell (HA.out _ (kE _) (by omega)) _⟩
   have cF:w0.heap.size<=wc.heap.size:=by omega
   clear hS cz bZ bL cb bO bN bc cD lD bD bS bR cm an hz;go_upto_region 10 with fail
   go_cut []from 37 to 46 (fun wx=>∃O S,wx.ownsRow w0.heap.size 130 129 (.slice O (m+1) S) (m+1) (xs++dwV (a,s))/\Blk wx w.heap.size 34 #[.slice A1 x.stable.length U,.slice O (m+1) S,.int .i64 x.taken,.int .i64 x.power,.bool false]/\Blk wx (w.heap.size+1+1) 34 #[.slice none 0 0,.slice none 0 0,.int .i64 0,.int .i64 0,.bool false]/\Zr w wx/\RSt wx P' A1 C1 y)
   case first=>
    as_aux_lemma=>
     have Hh:∀W,Zr wc W->(W.drew).heap.size=W.heap.size:=fun _ _=>rfl
     refine j6 (Tr.takes [1,2,4,5,6] (.fork 0 7 (.fork 3 7 (.one 7 (.one 8 (.take 9 (.last 10)))) (.one 3 (.one 8 (.take 9 (.last 10))))) (.one 0 (.one 3 (.one 8 (.take 9 (.last 10))))))) 10 (fun W=>W.cell? ⟨w.heap.size,1,none⟩=some (.slice C1 m d1)/\SecAt W ⟨w.heap.size+1,0,none⟩ s/\w.heap.size<W.heap.size) (by kernel_rfl) (by kernel_rfl) (fun _ _ _ _ _ h=>h) (T.out _ (kF _ _).drew) ?_
     simp only[Tr.takes,Tr.fill,kT,kV];iterate 3 (refine gh (by rfl) ?_ (fun w' bK=>?_) ?_;rotate_left;(focus (go_simp;(try with_reducible rfl)));(try simp only[Act.put,kJ,kH,kI]))
     refine gh (by rfl) (.agg (ag s)) (fun w' bK=>z3R _ rfl rfl bK.2.1) ?_
     try simp only[Act.put,kJ,kH,kI]
     refine z2f 130 _ rfl (by rfl) (dwV (a,s)).toArray (z3G a s bt) ?_
     try simp only[Act.put,kJ,kH,kI]
     refine z4s (fun K I=>?_) (fun K I=>?_)
     ·refine ia _ _ _ rfl [] rfl _ (z0n wc.drew) ?_;obtain⟨w1,V⟩:=zex (wc.drew.alloc (.cells #[] 130));have o1:w1.ownsRow wc.drew.heap.size 130 129 (.slice (some ⟨wc.drew.heap.size,0,none⟩) 0 0) 0 []:=by rw[V];exact z5X wc.drew
      have a7:wc.heap.size<=wc.drew.heap.size:=(kF wc.heap.size wc).drew.size;have b1:Zr wc w1:=by rw[V];exact(kF wc.heap.size wc).drew.alloc a7 _
      have k1:Below wc.drew.heap.size wc.drew w1:=by rw[V];exact(kF _ _).alloc (kE _) _
      have s1:w1.heap.size=wc.drew.heap.size+1:=by rw[V];simp
      replace o1:=be o1 a7;rw[<-V];clear V;refine I _ _ (T.out _ b1) ?_;clear I K;try simp only[Act.put,kJ,kH,kI]
      refine z4s (fun K I=>?_) (fun K I=>?_)
      ·obtain⟨v3,w3,ab,o3,k3,n3⟩:=jw o1 b1.size C1 m d1 xs bX (by omega) (b4.below b1) cp
       have b3:=b1.trans k3;refine ek _ _ _ rfl _ _ _ rfl rfl ab ?_;refine I _ _ (T.out _ b3) ?_;clear I K;try simp only[Act.put,kJ,kH,kI]
       refine gu fun K I=>?_
       refine ia _ _ _ rfl [(0,.agg (dwV (a,s)).toArray)] rfl _ (gK (a,s) bt w3) ?_;obtain⟨w7,M⟩:=zex (w3.alloc (.cells (dwV (a,s)).toArray 130));have r7:Reads w7 (some ⟨w3.heap.size,0,none⟩) (dwV (a,s)):=by rw[M];exact z1l w3 (a,s)
       have a8:wc.heap.size<=w3.heap.size:=b3.size;have b7:Zr wc w7:=by rw[M];exact b3.alloc a8 _
       have k7:Zr w3 w7:=by rw[M];exact(kF _ _).alloc (kE _) _
       rw[<-M];clear M;refine I _ _ (T.out _ b7) ?_;clear I K;try simp only[Act.put,kJ,kH,kI]
       obtain⟨v8,w8,ac,o8,k8,-⟩:=jw (aq o3 k7) b7.size (some ⟨w3.heap.size,0,none⟩) 1 1 (dwV (a,s)) b0 (by omega) (r7) (iP _)
       have b8:=b7.trans k8;refine gu fun K I=>?_
       refine ek _ _ _ rfl _ _ _ rfl rfl ac ?_;refine I _ _ (T.out _ b8) ?_;clear I K;try simp only[Act.put,kJ,kH,kI]
       obtain⟨O,S,rfl,D,h1,h2,h3,h4,h5⟩:=bk.out w8 v8 b8 (by simpa using o8)
       refine gh (by rfl) ?_ (fun w' bK=>?_) ?_;rotate_left;(focus (go_simp;(try with_reducible rfl)))
       try simp only[Act.put,kJ,kH,kI]
       refine jP fun K I=>?_
       refine zob D ?_;refine I _ _ ?_;clear I K D;try simp only[Act.put,kJ,kH,kI]
       have HF:=kD (And.intro h1 (And.intro h2 (And.intro h3 (And.intro h4 h5))));generalize w8.setCell ⟨w.heap.size,1,none⟩ (.slice O (m+1) S)=WX at *;clear h1 h2 h3 h4 h5;go_wp2_with fail
       go_meet
       case rel=>exact⟨O,S,be HF.out.1 cF,HF.out.2⟩
      ·refine ia _ _ _ rfl [(0,.agg (dwV (a,s)).toArray)] rfl _ (gK (a,s) bt w1) ?_;obtain⟨w7,M⟩:=zex (w1.alloc (.cells (dwV (a,s)).toArray 130));have r7:Reads w7 (some ⟨w1.heap.size,0,none⟩) (dwV (a,s)):=by rw[M];exact z1l w1 (a,s)
       have a8:wc.heap.size<=w1.heap.size:=b1.size;have b7:Zr wc w7:=by rw[M];exact b1.alloc a8 _
       have k7:Zr w1 w7:=by rw[M];exact(kF _ _).alloc (kE _) _
       rw[<-M];clear M;refine I _ _ (T.out _ b7) ?_;clear I K;try simp only[Act.put,kJ,kH,kI]
       refine gu fun K I=>?_
       obtain⟨v3,w3,ab,o3,k3,n3⟩:=jw (aq o1 k7) b7.size C1 m d1 xs bX (by omega) (b4.below b7) cp
       have b3:=b7.trans k3;refine ek _ _ _ rfl _ _ _ rfl rfl ab ?_;refine I _ _ (T.out _ b3) ?_;clear I K;try simp only[Act.put,kJ,kH,kI]
       obtain⟨v8,w8,ac,o8,k8,-⟩:=jw (o3) b3.size (some ⟨w1.heap.size,0,none⟩) 1 1 (dwV (a,s)) b0 (by omega) (r7.frame (fun ad e hl=>n3 _ hl (by cases e;simp only[Value.ownBlock,ne_eq,lx];omega)) k3.size) (iP _)
       have b8:=b3.trans k8;refine gu fun K I=>?_
       refine ek _ _ _ rfl _ _ _ rfl rfl ac ?_;refine I _ _ (T.out _ b8) ?_;clear I K;try simp only[Act.put,kJ,kH,kI]
       obtain⟨O,S,rfl,D,h1,h2,h3,h4,h5⟩:=bk.out w8 v8 b8 (by simpa using o8)
       refine gh (by rfl) ?_ (fun w' bK=>?_) ?_;rotate_left;(focus (go_simp;(try with_reducible rfl)))
       try simp only[Act.put,kJ,kH,kI]
       refine jP fun K I=>?_
       refine zob D ?_;refine I _ _ ?_;clear I K D;try simp only[Act.put,kJ,kH,kI]
       have HF:=kD (And.intro h1 (And.intro h2 (And.intro h3 (And.intro h4 h5))));generalize w8.setCell ⟨w.heap.size,1,none⟩ (.slice O (m+1) S)=WX at *;clear h1 h2 h3 h4 h5;go_wp2_with fail
       go_meet
       case rel=>exact⟨O,S,be HF.out.1 cF,HF.out.2⟩
     ·refine ia _ _ _ rfl [(0,.agg (dwV (a,s)).toArray)] rfl _ (gK (a,s) bt wc.drew) ?_;obtain⟨w7,M⟩:=zex (wc.drew.alloc (.cells (dwV (a,s)).toArray 130));have r7:Reads w7 (some ⟨wc.drew.heap.size,0,none⟩) (dwV (a,s)):=by rw[M];exact z1l wc.drew (a,s)
      have a8:wc.heap.size<=wc.drew.heap.size:=(kF wc.heap.size wc).drew.size;have b7:Zr wc w7:=by rw[M];exact(kF wc.heap.size wc).drew.alloc a8 _
      have k7:Below wc.drew.heap.size wc.drew w7:=by rw[M];exact(kF _ _).alloc (kE _) _
      have s7:w7.heap.size=wc.drew.heap.size+1:=by rw[M];simp
      rw[<-M];clear M;refine I _ _ (T.out _ b7) ?_;clear I K;try simp only[Act.put,kJ,kH,kI]
      refine gu fun K I=>?_
      refine ia _ _ _ rfl [] rfl _ (z0n w7) ?_;obtain⟨w1,V⟩:=zex (w7.alloc (.cells #[] 130));have o1:w1.ownsRow w7.heap.size 130 129 (.slice (some ⟨w7.heap.size,0,none⟩) 0 0) 0 []:=by rw[V];exact z5X w7
      have a7:wc.heap.size<=w7.heap.size:=b7.size;have b1:Zr wc w1:=by rw[V];exact b7.alloc a7 _
      have k1:Zr w7 w1:=by rw[V];exact(kF _ _).alloc (kE _) _
      replace o1:=be o1 a7;rw[<-V];clear V;refine I _ _ (T.out _ b1) ?_;clear I K;try simp only[Act.put,kJ,kH,kI]
      refine gu fun K I=>?_
      obtain⟨v3,w3,ab,o3,k3,n3⟩:=jw o1 b1.size C1 m d1 xs bX (by omega) (b4.below b1) cp
      have b3:=b1.trans k3;refine ek _ _ _ rfl _ _ _ rfl rfl ab ?_;refine I _ _ (T.out _ b3) ?_;clear I K;try simp only[Act.put,kJ,kH,kI]
      obtain⟨v8,w8,ac,o8,k8,-⟩:=jw (o3) b3.size (some ⟨wc.drew.heap.size,0,none⟩) 1 1 (dwV (a,s)) b0 (by omega) ((r7.below k1).frame (fun ad e hl=>n3 _ hl (by cases e;simp only[Value.ownBlock,ne_eq,lx];omega)) k3.size) (iP _)
      have b8:=b3.trans k8;refine gu fun K I=>?_
      refine ek _ _ _ rfl _ _ _ rfl rfl ac ?_;refine I _ _ (T.out _ b8) ?_;clear I K;try simp only[Act.put,kJ,kH,kI]
      obtain⟨O,S,rfl,D,h1,h2,h3,h4,h5⟩:=bk.out w8 v8 b8 (by simpa using o8)
      refine gh (by rfl) ?_ (fun w' bK=>?_) ?_;rotate_left;(focus (go_simp;(try with_reducible rfl)))
      try simp only[Act.put,kJ,kH,kI]
      refine jP fun K I=>?_
      refine zob D ?_;refine I _ _ ?_;clear I K D;try simp only[Act.put,kJ,kH,kI]
      have HF:=kD (And.intro h1 (And.intro h2 (And.intro h3 (And.intro h4 h5))));generalize w8.setCell ⟨w.heap.size,1,none⟩ (.slice O (m+1) S)=WX at *;clear h1 h2 h3 h4 h5;go_wp2_with fail
      go_meet
      case rel=>exact⟨O,S,be HF.out.1 cF,HF.out.2⟩
   case rest=>
    as_aux_lemma=>
     obtain⟨O,S,ao,av,a2,B2,cQ⟩:=hcut;have eN:=z0.out;have aL:Hid (∀W,(∀b,b≠w.heap.size->b≠w.heap.size+1+1->W.heap[b]?=wc.heap[b]?)->wc.heap.size<=W.heap.size->Zr w W->RGot w P (x.write a s) (.returned (.tuple #[.agg #[.slice A1 x.stable.length U,.slice O (m+1) S,.int .i64 (x.taken+1),.int .i64 (if 0<x.power then x.power - 1 else x.power),.bool false],.int .i64 0])) W):=kD fun W hW d6 hB=>by
      have dT:(y.cache++[(a,s)]).flatMap dwV=xs++dwV (a,s):=by rw[List.flatMap_append,cX.out];simp
      have d5:(y.cache++[(a,s)]).length=m+1:=by rw[kY,cT.out];rfl
      have ho:W.ownsRow w0.heap.size 130 129 (.slice O (m+1) S) (m+1) (xs++dwV (a,s)):=ar ao fun q hq=>hW q (by have:=(ao.lt q hq).1;omega) (by have:=(ao.lt q hq).1;omega)
      have hr:=cQ.frame (w':=W) (fun b hb _=>hW b (HA.out _ (kE _) (by omega) b hb) (HA.out _ (by omega) (by omega) b hb)) d6
      rw[HW.out];have bC:=cJ.out;rw[<-HY.out]at bC |-;have hp:=gl ho HN.out;refine⟨A1,U,O,S,?_,⟨bC,hr.sta,?_,hr.la.mono HU.out,.inr (hp.mono HU.out)⟩,hB⟩
      ·have e:stV A1 U O S (y.added a s)=.agg #[.slice A1 y.stable.length U,.slice O (y.cache++[(a,s)]).length S,.int .i64 (y.taken+1),.int .i64 (if 0<y.power then y.power - 1 else y.power),.bool y.off]:=rfl
       rw[e,d5,cK.out,ci.out.1,ci.out.2.1,ci.out.2.2,Y]
      ·show Reads W O ((y.cache++[(a,s)]).flatMap dwV)
       rw[dT];exact eU ho (by rw[kY,bX,b0];omega)
     clear ao cQ bk T bp cM;obtain⟨cn,cB⟩:=av.zc;have cN:=av.free;have bn:∀u,(wc.setCell ⟨w.heap.size,2,none⟩ u).heap[w.heap.size+1+1]?=wc.heap[w.heap.size+1+1]?:=fun u=>Below.heap_setCell wc _ u _ (by show w.heap.size+1+1≠w.heap.size;omega)
     by_cases ca:0<x.power
     ·rw[if_pos ca]at aL;have ck:=(av.mG 2 (.int .i64 (x.taken+1))).mG 3 (.int .i64 (x.power - 1));have bb:Blk ((wc.setCell ⟨w.heap.size,2,none⟩ (.int .i64 (x.taken+1))).setCell ⟨w.heap.size,3,none⟩ (.int .i64 (x.power - 1))) (w.heap.size+1+1) 34 #[.slice none 0 0,.slice none 0 0,.int .i64 0,.int .i64 0,.bool false]:=(Below.heap_setCell _ _ _ _ (by show w.heap.size+1+1≠w.heap.size;omega)).trans ((bn _).trans a2)
      have B3:Zr w ((wc.setCell ⟨w.heap.size,2,none⟩ (.int .i64 (x.taken+1))).setCell ⟨w.heap.size,3,none⟩ (.int .i64 (x.power - 1))):=kG (kG B2 (kE _) _) (kE _) _;have bB:∀b,b≠w.heap.size->((wc.setCell ⟨w.heap.size,2,none⟩ (.int .i64 (x.taken+1))).setCell ⟨w.heap.size,3,none⟩ (.int .i64 (x.power - 1))).heap[b]?=wc.heap[b]?:=fun b hb=>(Below.heap_setCell _ _ _ _ hb).trans (Below.heap_setCell _ _ _ _ hb)
      have cA:((wc.setCell ⟨w.heap.size,2,none⟩ (.int .i64 (x.taken+1))).setCell ⟨w.heap.size,3,none⟩ (.int .i64 (x.power - 1))).heap.size=wc.heap.size:=by simp
      go_upto_region 14 with fail
      generalize (wc.setCell ⟨w.heap.size,2,none⟩ (.int .i64 (x.taken+1))).setCell ⟨w.heap.size,3,none⟩ (.int .i64 (x.power - 1))=W3 at *;clear cn cB cN av a2 B2 bn;obtain⟨db,d8⟩:=ck.zc;have D:=aT (ty:=34) (vs:=#[.slice A1 x.stable.length U,.slice O (m+1) S,.int .i64 (x.taken+1),.int .i64 (x.power - 1),.bool false]) bb rfl (by simp[Value.oneCell']) (by kernel_rfl)
      have cl:=bb.setRow (cs':=#[.slice A1 x.stable.length U,.slice O (m+1) S,.int .i64 (x.taken+1),.int .i64 (x.power - 1),.bool false]);obtain⟨co,cC⟩:=cl.zc;have B4:=Below.setRow B3 (g:=w.heap.size+1+1) (by omega) #[.slice A1 x.stable.length U,.slice O (m+1) S,.int .i64 (x.taken+1),.int .i64 (x.power - 1),.bool false]
      have a6:=aL.out _ (fun b h1 h2=>(ak W3 (w.heap.size+1+1) b #[.slice A1 x.stable.length U,.slice O (m+1) S,.int .i64 (x.taken+1),.int .i64 (x.power - 1),.bool false] h2).trans (bB b h1)) (by simp;omega) B4
      clear aL bB cA B3 B4;go_wp2_with (refine zsb D ?_)
      refine bodyPost_ret (v:=.tuple #[.agg #[.slice A1 x.stable.length U,.slice O (m+1) S,.int .i64 (x.taken+1),.int .i64 (x.power - 1),.bool false],.int .i64 0]) (by simp[results,results106,go_sem,co,cC]) rfl a6
     ·rw[if_neg ca]at aL;have ck:=av.mG 2 (.int .i64 (x.taken+1));have bb:Blk (wc.setCell ⟨w.heap.size,2,none⟩ (.int .i64 (x.taken+1))) (w.heap.size+1+1) 34 #[.slice none 0 0,.slice none 0 0,.int .i64 0,.int .i64 0,.bool false]:=(bn _).trans a2;have B3:Zr w (wc.setCell ⟨w.heap.size,2,none⟩ (.int .i64 (x.taken+1))):=kG B2 (kE _) _;have bB:∀b,b≠w.heap.size->(wc.setCell ⟨w.heap.size,2,none⟩ (.int .i64 (x.taken+1))).heap[b]?=wc.heap[b]?:=fun b hb=>Below.heap_setCell _ _ _ _ hb
      have cA:(wc.setCell ⟨w.heap.size,2,none⟩ (.int .i64 (x.taken+1))).heap.size=wc.heap.size:=by simp
      go_upto_region 12 with fail
      generalize wc.setCell ⟨w.heap.size,2,none⟩ (.int .i64 (x.taken+1))=W3 at *;clear cn cB cN av a2 B2 bn;obtain⟨db,d8⟩:=ck.zc;have D:=aT (ty:=34) (vs:=#[.slice A1 x.stable.length U,.slice O (m+1) S,.int .i64 (x.taken+1),.int .i64 x.power,.bool false]) bb rfl (by simp[Value.oneCell']) (by kernel_rfl)
      have cl:=bb.setRow (cs':=#[.slice A1 x.stable.length U,.slice O (m+1) S,.int .i64 (x.taken+1),.int .i64 x.power,.bool false]);obtain⟨co,cC⟩:=cl.zc;have B4:=Below.setRow B3 (g:=w.heap.size+1+1) (by omega) #[.slice A1 x.stable.length U,.slice O (m+1) S,.int .i64 (x.taken+1),.int .i64 x.power,.bool false]
      have a6:=aL.out _ (fun b h1 h2=>(ak W3 (w.heap.size+1+1) b #[.slice A1 x.stable.length U,.slice O (m+1) S,.int .i64 (x.taken+1),.int .i64 x.power,.bool false] h2).trans (bB b h1)) (by simp;omega) B4
      clear aL bB cA B3 B4;go_wp2_with (refine zsb D ?_)
      refine bodyPost_ret (v:=.tuple #[.agg #[.slice A1 x.stable.length U,.slice O (m+1) S,.int .i64 (x.taken+1),.int .i64 x.power,.bool false],.int .i64 0]) (by simp[results,results106,go_sem,co,cC]) rfl a6
def RSv (w:World)(P:Nat->Prop)(x:DevS)(sv:Array Value):Prop:=∃A c C d,sv=ap (.slice A x.stable.length c) (.slice C x.cache.length d) x.taken x.power x.off/\RSt w P A C x
section
variable {w w':World}{P Q:Nat->Prop}{x:DevS}{sv:Array Value}
theorem RSv.ok (h:RSv w P x sv):x.Ok:=by obtain⟨A,c,C,d,rfl,h⟩:=h;exact h.ok
theorem RSv.size (h:RSv w P x sv):sv.size=5:=by obtain⟨A,c,C,d,rfl,h⟩:=h;rfl
theorem RSv.one (h:RSv w P x sv):sv.all (·.oneCell')=true:=by obtain⟨A,c,C,d,rfl,h⟩:=h;simp[ap,Value.oneCell']
theorem RSv.below (h:RSv w P x sv)(D:Zr w w'):RSv w' P x sv:=by obtain⟨A,c,C,d,e,h⟩:=h;exact⟨A,c,C,d,e,h.below D⟩
theorem RSv.mono (h:RSv w P x sv)(k:∀b,P b->b<w.heap.size->Q b):RSv w Q x sv:=by obtain⟨A,c,C,d,e,h⟩:=h;exact⟨A,c,C,d,e,h.mono k⟩
theorem RSv.row (h:RSv w P x sv){g:Nat}(D:∀b,P b->b≠g)(cs:Array Value):RSv (w.setRow g cs) P x sv:=by obtain⟨A,c,C,d,e,h⟩:=h;exact⟨A,c,C,d,e,h.row D cs⟩
theorem RSv.apt {D:World}(h:RSv w P x sv)(I:Zr w D)(E:Nat):RSv D (Apt_ P w.heap.size E) x sv:=by obtain⟨A,c,C,d,e,h⟩:=h;exact⟨A,c,C,d,e,h.apt I E⟩
theorem RSv.oD {B E:Nat}(h:RSv w (Apt_ P B E) x sv):RSv w P x sv:=h.mono fun _ c _=>c.1
end
theorem af {P:Program}{c:Array Oper}{rest:List Oper}{o:Oper}{a:Act}{w:World}{Q:Exit->Act->World->Prop}(J:Region.wanted o (yielded c a.tmps)=true)(ty:TypeId)(x:Operand)(I:o.op=.load ty x)(v p:Value)
  (M:a.eval x=p) (A:(Instr.loadAt ty p).run P w=.ok v w) (h:wpList P c Q rest (a.put o.dst v) w):wpList P c Q (o::rest) a w:=
 wpList_step fun K D=>by
  rw[if_pos J];unfold Oper.wp execOp;simp only[I,M,Sem.run_bind,Sem.run_pure,Result.andThen_ok,A];exact D _ _ h
theorem zlw {P:Program}{c:Array Oper}{rest:List Oper}{o:Oper}{a:Act}{w:World}{Q:Exit->Act->World->Prop}{ty:TypeId}{x:Operand}{v p:Value}(D:(Instr.loadAt ty p).run P w=.ok v w)(h:wpList P c Q rest (a.put o.dst v) w)(I:Region.wanted o (yielded c a.tmps)=true:=by rfl)(A:o.op=.load ty x:=by rfl)(J:a.eval x=p:=by rfl):wpList P c Q (o::rest) a w:=af I ty x A v p J D h
theorem cI {W:World}{D:Nat}{t:TypeId}{sv:Array Value}(b:Blk W D t sv)(h:sv.size=5):(Instr.loadAt 34 (.pointer (some ⟨D,0,none⟩))).run prog W=.ok (.agg sv) W:=by
 simp only[Instr.loadAt,Instr.sureAddr,Sem.run_bind,Sem.run_pure,Result.andThen];exact run_loadVar_row W D t 34 sv (0,0) _ b underlying34 rfl (by rw[h];kernel_rfl)
theorem aX {W:World}{R:Nat}{t:TypeId}{cs sv:Array Value}(b:Blk W R t cs)(c:cs.size=5)(h:sv.size=5)(A:sv.all (·.oneCell')=true):(Instr.storeAt 34 (.pointer (some ⟨R,0,none⟩)) (.agg sv)).run prog W=.ok () (W.setRow R sv):=
 aT (ty:=34) (vs:=sv) b (by rw[c,h]) A (by rw[h];kernel_rfl)
def RGv (w:World)(P:Nat->Prop)(p:Int × DevS)(e:Ending)(w':World):Prop:=
 ∃sv,e=.returned (.tuple #[.agg sv,.int .i64 p.1])/\RSv w' P p.2 sv/\Zr w w'
theorem RGot.v {w w':World}{P:Nat->Prop}{p:Int × DevS}{e:Ending}(h:RGot w P p e w'):RGv w P p e w':=by
 obtain⟨A,c,C,d,rfl,D,I⟩:=h;exact⟨_,rfl,⟨A,c,C,d,rfl,D⟩,I⟩
theorem z9q {w:World}{P:Nat->Prop}{x:DevS}{sv:Array Value}(I:RSv w P x sv)(D:∀b,w.heap.size<=b->P b)(a:Int)(s:List Int)(J:s.length=128/\bj s):
  Calls prog 106 #[.agg sv,.int .i64 a,.agg (ag s)] w (RGv w P (x.write a s)):=by
 obtain⟨A,c,C,d,rfl,h⟩:=I;exact(z7w P A C c d x a s J w D h).mono fun e w'=>RGot.v
theorem z36 {w:World}{P:Nat->Prop}{x:DevS}{sv:Array Value}(I:RSv w P x sv)(D:∀b,w.heap.size<=b->P b):
  Calls prog 107 #[.agg sv] w (RGv w P x.flush):=by
 obtain⟨A,c,C,d,rfl,h⟩:=I;exact(z7p P A C c d x w D h).mono fun e w'=>RGot.v
theorem zbX {w:World}{P:Nat->Prop}{x:DevS}{sv:Array Value}(D:RSv w P x sv)(I:x.Calm)(a:Int):
  Calls prog 132 #[.agg sv,.int .i64 a] w (gj x a w):=by
 obtain⟨A,c,C,d,rfl,h⟩:=D;exact z4c P A C c d x a w h I
def svZ:Array Value:=#[.slice none 0 0,.slice none 0 0,.int .i64 0,.int .i64 0,.bool false]
theorem RGv.mk {w W:World}{P:Nat->Prop}{c R:Nat}{z:DevS}{sv:Array Value}(e:Int)(J:RSv W (Apt_ P w.heap.size c) z sv)(I:Zr w W)(A:w.heap.size<=R)(D:R<c):RGv w P (e,z) (.returned (.tuple #[.agg sv,.int .i64 e])) (W.setRow R sv):=
 ⟨sv,rfl,(J.row (Apt_.ne A D) sv).oD,Below.setRow I A sv⟩
theorem z9m {w:World}{P:Nat->Prop}{x:DevS}{sv:Array Value}(hq:RSv w P x sv)(hP:∀b,w.heap.size<=b->P b)(a kind q:Int)(bk:0<=q/\q<4294967296)(s:ByteArray)(bn:s.size<=maxLen):
  Calls prog 105 #[.agg sv,.int .i64 a,.int .i64 kind,.int .u32 q,.string s] w (RGv w P (x.put a kind q s)):=by
 have hz:=cy;obtain⟨w0,K⟩:=zex ((w.alloc (.cells sv 34)).alloc (.cells svZ 34));have bD:Blk w0 w.heap.size 34 sv:=by rw[K];exact zbn
 have bR:Blk w0 (w.heap.size+1) 34 svZ:=by rw[K];exact zbn
 have V:Zr w w0:=by rw[K];exact zgr
 have U:=hq.size;have a6:=hq.one;have HP:=kD hP;have HQ:=kD hq;have a7:=z4e a kind q s bn bk w0;have M:=kD (show x.put a kind q s=if bY a kind s.size=0 then x.write a (cq a kind q s)else (bY a kind s.size,x)from rfl)
 clear hq hP;unfold svZ at K;go_enter func105,ntmps105
 go_upto_region 1 with fail
 rw[<-K];clear K;go_wp2_with fail
 refine a7.mono ?_;rintro e I ⟨c,rfl⟩;clear a7;by_cases S:bY a kind s.size=0
 ·rw[if_pos S,S];have an:(cq a kind q s).length=128/\bj (cq a kind q s):=⟨dP a kind q s (by have:=iV S;omega),gp q S⟩
  have HE:=kD S;clear S;have HL:=kD an;generalize cq a kind q s=L at *;have hl:=an.1;clear an;have bT:Blk (I.alloc (.cells (ag zsec) 128)) I.heap.size 128 (ag zsec):=Blk.new _ _ _;go_upto_region 2 with (refine aA rfl _ _ rfl I.heap.size L rfl rfl bT am hl ?_)
  obtain⟨Y,D⟩:=zex (World.setRow (I.alloc (.cells (ag zsec) 128)) I.heap.size (ag L));rw[<-D];have A:Zr I Y:=by rw[D];exact Below.setRow ((kF _ _).alloc (kE _) _) (kE _) _
  have aL:Blk Y I.heap.size 128 (ag L):=by rw[D];exact Blk.setRow bT
  have ab:=(bD.mD c).mD A;have J:=(bR.mD c).mD A;have B2:Zr w Y:=V.trans ((c.mono V.size).trans (A.mono (kO V.size c.size)));have a1:=HQ.out.apt B2 Y.heap.size;have a8:=z9q a1 (Apt_.new HP.out B2.size) a L HL.out;have zR:=J.lt;clear D A bT bD bR c V a1;have l1:=cI ab U;go_wp2_with (first|(refine zlw l1 ?_)|(refine aY rfl _ rfl I.heap.size rfl aL hl ?_))
  refine a8.mono ?_;rintro e w3 ⟨ba,rfl,T,a2⟩;have av:=J.mD a2;have B3:=B2.trans (a2.mono B2.size);have ao:=aX av rfl T.size T.one;have ac:=av.setRow (cs':=ba);have O:=RGv.mk (R:=w.heap.size+1) (x.write a L).1 T B3 (by omega) zR
  have bc:=T.size;clear a8 l1 aL;go_wp2_with (refine zsb ao ?_)
  refine bodyPost_ret (au (cs:=ba) rfl rfl rfl ac underlying34 (by rw[bc];kernel_rfl)) rfl ?_
  rw[M.out,if_pos HE.out];exact O
 ·rw[if_neg S];have hd:(bY a kind s.size != 0)=true:=by simpa using S
  have bb:Hid (x.put a kind q s=(bY a kind s.size,x)):=kD (by rw[M.out,if_neg S])
  clear M S;generalize bY a kind s.size=E at *;have bT:Blk (I.alloc (.cells (ag zsec) 128)) I.heap.size 128 (ag zsec):=Blk.new _ _ _;go_upto_region 2 with (refine aA rfl _ _ rfl I.heap.size zsec rfl rfl bT am am ?_)
  obtain⟨Y,D⟩:=zex (World.setRow (I.alloc (.cells (ag zsec) 128)) I.heap.size (ag zsec));rw[<-D];have A:Zr I Y:=by rw[D];exact Below.setRow ((kF _ _).alloc (kE _) _) (kE _) _
  have ab:=(bD.mD c).mD A;have J:=(bR.mD c).mD A;have B2:Zr w Y:=V.trans ((c.mono V.size).trans (A.mono (kO V.size c.size)));have O:=RGv.mk (R:=w.heap.size+1) E (HQ.out.apt B2 Y.heap.size) B2 (by omega) J.lt
  have ao:=aX J rfl U a6;have ac:=J.setRow (cs':=sv);have l1:=cI ab U;clear D A bT bD bR c V;go_wp2_with (first|(refine zlw l1 ?_)|(refine zsb ao ?_))
  refine bodyPost_ret (au (cs:=sv) rfl rfl rfl ac underlying34 (by rw[U];kernel_rfl)) rfl ?_
  rw[bb.out];exact O
end Go.Proofs.YtejmknghkbobnaaGreatDoor
