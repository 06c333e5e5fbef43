import Derived.Test.YtejmknghkbobnaaGreatDoorPart00
import Derived.Test.YtejmknghkbobnaaGreatDoorPart24
import Derived.Deep.CutRange
import Derived.Deep.CutBlock
set_option linter.unusedVariables false
set_option linter.unusedSimpArgs false
set_option maxRecDepth 100000
set_option maxHeartbeats 8000000
namespace Go.Proofs.YtejmknghkbobnaaGreatDoor
open Go.Proofs.Tryz
open Go.RowKit Go.Maps
def RBox (w:World)(P:Nat→Prop)(g:Nat)(x:DevS):Prop:=∃A c C d,Blk w g 34 (z09 (.slice A x.stable.length c) (.slice C x.cache.length d) x.taken x.power x.off)∧RSt w P A C x
theorem z38 {P:Program}{o:Oper}{a:Act}{w w':World}{K:Act→World→Prop}{Q:Exit→Act→World→Prop}(t:TypeId)(n:Nat)(parts:Array (Nat × Operand))(ho:o.op=.buildSlice t n parts)(vs:List (Nat × Value))(hvs:parts.toList.map (fun p=>(p.1,a.eval p.2))=vs)(v:Value)
  (hrun:(Instr.buildSlice t n vs.toArray).run P w=.ok v w') (h:K (a.put o.dst v) w'):o.wp P a w K Q:=by
 have e:(parts.map fun (i,x)=>(i,a.eval x))=vs.toArray:=by rw[←hvs];apply Array.toList_inj.1;simp
 unfold Oper.wp execOp;simp only[ho,e,Sem.run_bind,hrun,Result.andThen_ok,Sem.run_pure];exact h
theorem z1A {P:Program}{w w':World}{o:Oper}{a:Act}{K:Act→World→Prop}{Q:Exit→Act→World→Prop}(s x:Operand)(t:TypeId)
  (ho:o.op=.call { callee:=.builtin .append,args:=#[s,x],argTypes:=#[t,t] }) (v X v':Value) (hs:a.eval s=v) (hx:a.eval x=X)
  (hrun:(Builtin.append_ #[t,t] o.type #[v,X]).run P w=.ok v' w') (h:K (a.put o.dst v') w'):o.wp P a w K Q:=by
 unfold Oper.wp execOp;simp only[ho,resolve,invoke,builtin,Sem.run_bind,Sem.run_pure,Result.andThen_ok,List.map_toArray,zhY,zhZ,hs,hx,hrun];exact h
theorem z7e {P:Program}{ops:Array Oper}{Q:Exit→Act→World→Prop}{S:World→Prop}{o:Oper}{r:Tf}{a:Act}{w:World}(t:TypeId)(parts:Array (Nat × Operand))(ho:o.op=.build t parts)(hw:Region.wanted o (yielded ops a.tmps)=true)(cells:Array Value)
  (hf:P.built t (parts.toList.map fun p=>(p.1,a.eval p.2))=some cells) (h:z3Q P ops Q S r (a.put o.dst (.agg cells)) w):z3Q P ops Q S (.take o r) a w:=
 z2v hw (.agg cells) (fun w' _=>by
  have hf':P.built t (parts.map fun (i,x)=>(i,a.eval x)).toList=some cells:=by rw[Array.toList_map];exact hf
  unfold execOp;simp only[ho,Sem.run_bind,run_build w' t _ cells hf',Result.andThen_ok];rfl) h
theorem z5q (w:World):(Instr.buildSlice 32 0 #[]).run prog w=.ok (.slice (some ⟨w.heap.size,0,none⟩) 0 0) (w.alloc (.cells #[] 130)):=by
 obtain⟨ie,hie⟩:∃ie,prog.info? 130=some ie:=by
  have:=Tryz.infoDvW
  cases h:prog.info? 130 with
  | none=>rw[h]at this;cases this
  | some ie=>exact⟨ie,rfl⟩
 have h2:=Tryz.infoDvW;rw[hie]at h2;simp only[Option.map_some,Option.some.injEq,Prod.mk.injEq]at h2;simp[Instr.buildSlice,run_underlying underlying32,sizeOf,typeInfo,hie,Instr.fill,newRow,show Array.range 0=#[]from by simp]
theorem zaw (w:World):(w.alloc (.cells #[] 130)).ownsRow w.heap.size 130 129 (.slice (some ⟨w.heap.size,0,none⟩) 0 0) 0 []:=World.ownsRow_made w #[] 0 (zhT _) (by simp) rfl
theorem z6k (w:World)(p:Int × List Int):Reads (w.alloc (.cells (dwV p).toArray 130)) (some ⟨w.heap.size,0,none⟩) (dwV p):=by
 have:=Blk.new w 130 (dwV p).toArray
 exact .inr ⟨_,0,rfl,this.lt,fun k u hu=>by rw[zi8];exact(this.cells k).trans (by simpa using hu)⟩
theorem zbF (P:Nat→Prop)(A C:Option Addr)(c d:Nat)(x:DevS)(a:Int)(s:List Int)(hs:s.length=128∧z0V s)(w:World)(hP:∀b,w.heap.size≤b→P b)(hq:RSt w P A C x):
  Calls prog 106 #[stV A c C d x,.int .i64 a,.agg (z03 s)] w (RGot w P (x.write a s)):=by
 have hsl:=hs.1;have hOkW:=hq.ok.write a hs;have hz:=z0S;obtain⟨w0,hw0⟩:∃w0,w0=((w.alloc (.cells (z09 (.slice A x.stable.length c) (.slice C x.cache.length d) x.taken x.power x.off) 34)).alloc (.cells (z03 s) 128)).alloc (.cells (z09 (.slice none 0 0) (.slice none 0 0) 0 0 false) 34):=⟨_,rfl⟩;have bD:Blk w0 w.heap.size 34 (z09 (.slice A x.stable.length c) (.slice C x.cache.length d) x.taken x.power x.off):=by rw[hw0];exact((Blk.new _ _ _).alloc _).alloc _
 have bS:Blk w0 (w.heap.size+1) 128 (z03 s):=by rw[hw0];exact(Blk.new' (by simp)).alloc _
 have bR:Blk w0 (w.heap.size+1+1) 34 (z09 (.slice none 0 0) (.slice none 0 0) 0 0 false):=by rw[hw0];exact Blk.new' (by simp)
 have B0:Below w.heap.size w w0:=by rw[hw0];(repeat' (first|with_reducible (first|exact zho _ _|assumption|refine zhp ?_ ?_ _|refine zhq ?_|refine z00 ?_ _|refine zhr ?_ ?_ _|exact zhT _)|omega|(simp;done)|(simp;omega)))
 have z0:=zhs (show w0.heap.size=w.heap.size+1+1+1 by rw[hw0];simp)
 have HQ:=zhs hq;have HQ0:=zhs (hq.below B0);have HOK:=zhs hOkW;have HP:=zhs hP;have HS:=zhs hs;have htk:=hq.ok.tk;have hpw:=hq.ok.pw;have hhi:=hq.ok.hi;have hcl:=hq.ok.len;have hWE:Hid (x.write a s=if x.atE a≠0 then (x.atE a,x)else if x.power=0∨x.taken=1000000000000 then (13,{ x with off:=true })else (0,x.room.added a s)):=zhs rfl
 have hAT:Hid (x.atE a=if x.off then 13 else if a<0∨(x.stable.length:Int)≤a then 7 else 0):=zhs rfl
 have hst:=z0q (ty:=34) (vs:=z09 (.slice A x.stable.length c) (.slice C x.cache.length d) x.taken x.power x.off) bR rfl (by simp[z09,Value.oneCell']) (by kernel_rfl)
 have bR1:=bR.setRow (cs':=z09 (.slice A x.stable.length c) (.slice C x.cache.length d) x.taken x.power x.off);have B1:=Below.setRow B0 (g:=w.heap.size+1+1) (by omega) (z09 (.slice A x.stable.length c) (.slice C x.cache.length d) x.taken x.power x.off)
 have hsame:∀E:Int,x.write a s=(E,x)→RGot w P (x.write a s) (.returned (.tuple #[stV A c C d x,.int .i64 E])) (w0.setRow (w.heap.size+1+1) (z09 (.slice A x.stable.length c) (.slice C x.cache.length d) x.taken x.power x.off)):=fun E h=>by
  rw[h];exact⟨A,c,C,d,rfl,hq.below B1,B1⟩
 have HSM:=zhs hsame;clear hsame hOkW hP hq hs;by_cases hE:x.atE a=0
 rotate_left
 ·as_aux_lemma=>
  have hsm:=HSM.out (x.atE a) (by rw[hWE.out,if_pos hE])
  rw[hAT.out]at hsm hE;clear HSM hWE HOK HP HQ hAT;have cR1:=bR1.cells;have lR1:=bR1.lt;unfold stV z09 at *;cases ho:x.off
  ·rw[ho]at hw0 bD hst bR1 cR1 lR1 hsm hE;rw[if_neg (by simp)]at hsm hE
   by_cases ha:a<0∨(x.stable.length:Int)≤a
   rotate_left
   ·rw[if_neg ha]at hE;exact absurd rfl hE
   rw[if_pos ha]at hsm;clear hE;have hd:a<0∨(¬a<0∧(x.stable.length:Int)≤a):=by omega
   clear ha;rcases hd with hd|⟨hd,hd2⟩
   all_goals
    go_enter func106,ntmps106
    go_upto_region 1 with fail
    rw[←hw0];clear hw0;have cD:=bD.cells;have lD:=bD.lt;go_wp2_with (refine z01 rfl _ _ _ rfl _ _ rfl rfl hst ?_)
    refine bodyPost_ret (v:=.tuple #[.agg #[.slice A x.stable.length c,.slice C x.cache.length d,.int .i64 x.taken,.int .i64 x.power,.bool false],.int .i64 7]) (by simp[results,results106,go_sem,cR1,lR1]) rfl hsm
  ·rw[ho]at hw0 bD hst bR1 cR1 lR1 hsm hE;rw[if_pos rfl]at hsm;go_enter func106,ntmps106
   go_upto_region 1 with fail
   rw[←hw0];clear hw0;have cD:=bD.cells;have lD:=bD.lt;go_wp2_with (refine z01 rfl _ _ _ rfl _ _ rfl rfl hst ?_)
   refine bodyPost_ret (v:=.tuple #[.agg #[.slice A x.stable.length c,.slice C x.cache.length d,.int .i64 x.taken,.int .i64 x.power,.bool true],.int .i64 13]) (by simp[results,results106,go_sem,cR1,lR1]) rfl hsm
 clear hst bR1 B1 HSM;have hoff:x.off=false:=by
  rw[hAT.out]at hE;cases ho:x.off
  ·rfl
  ·rw[ho]at hE;exact absurd hE (by simp)
 have hin:¬a<0∧¬(x.stable.length:Int)≤a:=by
  rw[hAT.out,hoff]at hE;by_cases ha:a<0∨(x.stable.length:Int)≤a
  ·rw[if_neg (by simp),if_pos ha]at hE;exact absurd hE (by decide)
  ·omega
 obtain⟨ha1,ha2⟩:=hin;have HE:=zhs hE;clear hE hAT;by_cases hpo:x.power=0∨x.taken=1000000000000
 ·as_aux_lemma=>
  have hw:x.write a s=(13,{ x with off:=true }):=by rw[hWE.out,if_neg (by rw[HE.out];simp),if_pos hpo]
  have hok:({ x with off:=true }:DevS).Ok:=by have:=HOK.out;rw[hw]at this;exact this
  have bD2:Blk (w0.setCell ⟨w.heap.size,4,none⟩ (.bool true)) w.heap.size 34 (z09 (.slice A x.stable.length c) (.slice C x.cache.length d) x.taken x.power true):=bD.set_ 4 (.bool true);have bR2:Blk (w0.setCell ⟨w.heap.size,4,none⟩ (.bool true)) (w.heap.size+1+1) 34 (z09 (.slice none 0 0) (.slice none 0 0) 0 0 false):=(Below.heap_setCell w0 ⟨w.heap.size,4,none⟩ _ (w.heap.size+1+1) (by simp;omega)).trans bR
  have B2:Below w.heap.size w (w0.setCell ⟨w.heap.size,4,none⟩ (.bool true)):=zhr B0 (zhT _) _;have hst:=z0q (ty:=34) (vs:=z09 (.slice A x.stable.length c) (.slice C x.cache.length d) x.taken x.power true) bR2 rfl (by simp[z09,Value.oneCell']) (by kernel_rfl)
  have bR3:=bR2.setRow (cs':=z09 (.slice A x.stable.length c) (.slice C x.cache.length d) x.taken x.power true);have B3:=Below.setRow B2 (g:=w.heap.size+1+1) (by omega) (z09 (.slice A x.stable.length c) (.slice C x.cache.length d) x.taken x.power true)
  have hfin:RGot w P (x.write a s) (.returned (.tuple #[.agg (z09 (.slice A x.stable.length c) (.slice C x.cache.length d) x.taken x.power true),.int .i64 13])) ((w0.setCell ⟨w.heap.size,4,none⟩ (.bool true)).setRow (w.heap.size+1+1) (z09 (.slice A x.stable.length c) (.slice C x.cache.length d) x.taken x.power true)):=by
   rw[hw];have h:=HQ.out.below B3;exact⟨A,c,C,d,rfl,⟨hok,h.sta,h.cac,h.la,h.lc⟩,B3⟩
  have cR3:=bR3.cells;have lR3:=bR3.lt;clear HQ HQ0 HOK HP hWE B2 B3 hw hok;unfold stV z09 at *;rw[hoff]at bD hw0 ⊢;have cD2:=bD2.cells;have lD2:=bD2.lt;have hd:(x.power==0)=true∨((x.power==0)=false∧1000000000000≤x.taken):=by
   by_cases h:x.power=0
   ·exact .inl (by simpa using h)
   ·exact .inr ⟨by simpa using h,by omega⟩
  clear hpo;rcases hd with hd|⟨hd,hd2⟩
  all_goals
   go_enter func106,ntmps106
   go_upto_region 1 with fail
   rw[←hw0];clear hw0;have cD:=bD.cells;have lD:=bD.lt;have fD:=bD.free;go_wp2_with (refine z01 rfl _ _ _ rfl _ _ rfl rfl hst ?_)
   refine bodyPost_ret (v:=.tuple #[.agg #[.slice A x.stable.length c,.slice C x.cache.length d,.int .i64 x.taken,.int .i64 x.power,.bool true],.int .i64 13]) (by simp[results,results106,go_sem,cR3,lR3]) rfl hfin
 have hw:x.write a s=(0,x.room.added a s):=by rw[hWE.out,if_neg (by rw[HE.out];simp),if_neg hpo]
 have hp0:(x.power==0)=false:=by rw[beq_eq_false_iff_ne];exact fun h=>hpo (.inl h)
 have htk2:x.taken<1000000000000:=by omega
 have hd2:¬(1000000000000:Int)≤x.taken:=by omega
 have hokA:(x.room.added a s).Ok:=by have:=HOK.out;rw[hw]at this;exact this
 have hrm:=HQ.out.ok.room;have HW:=zhs hw;have HOKA:=zhs hokA;obtain⟨P',hP'⟩:∃P',P'=Apt_ P w.heap.size w0.heap.size:=⟨_,rfl⟩;have hQ0:RSt w0 P' A C x:=by rw[hP'];exact HQ.out.apt B0 _
 have HN:=zhs (show ∀b,w0.heap.size≤b→P' b by rw[hP'];exact Apt_.new HP.out B0.size)
 have HA:=zhs (show ∀g,w.heap.size≤g→g<w0.heap.size→∀b,P' b→b≠g by rw[hP'];exact fun g h1 h2=>Apt_.ne h1 h2)
 have HU:=zhs (show ∀b,P' b→P b by rw[hP'];exact fun b h=>h.1)
 clear hw hpo hokA HOK hWE HE hP' HQ0;have HQ0:=zhs hQ0;obtain⟨y,hy⟩:∃y,y=x.room:=⟨_,rfl⟩;have HY:=zhs hy;rw[←hy]at hrm;obtain⟨hyok,hyl,hyn,hytk,hypw,hyoff⟩:=hrm;have HYN:=zhs hyn;have hstab:=z6A P' A C c d x w0 hQ0;unfold stV at hstab ⊢;unfold z09 at bD bR hw0 hstab ⊢;rw[hoff]at bD hw0 hstab ⊢;clear hy hyn hQ0;go_enter func106,ntmps106
 go_upto_region 1 with fail
 rw[←hw0];clear hw0;have cD:=bD.cells;have lD:=bD.lt;go_upto_if 34 with fail
 go_cut []from 34 to 36 (fun wx=>RBox wx P' w.heap.size y∧Blk wx (w.heap.size+1) 128 (z03 s)∧Blk wx (w.heap.size+1+1) 34 #[.slice none 0 0,.slice none 0 0,.int .i64 0,.int .i64 0,.bool false]∧Below w.heap.size w wx)
 case first=>
  as_aux_lemma=>
   by_cases hc:x.cache.length=400
   ·have hyf:y=x.flushed:=by rw[HY.out];unfold DevS.room;rw[if_pos hc]
    have hc2:(400:Int)≤x.cache.length:=by omega
    have HYF:=zhs hyf;clear hc hyf;go_wp2_with fail
    refine hstab.mono ?_;rintro e w1 ⟨sv,rfl,own1,B01⟩;obtain⟨a1,c1,rfl⟩:=z0G own1;have bD1:=bD.belowAll B01;have bS1:=bS.belowAll B01;have bR1:=bR.belowAll B01;have B1:=B0.trans (B01.mono B0.size);have hst:=z0q (ty:=34) (vs:=#[.slice a1 x.stable.length c1,.slice none 0 0,.int .i64 x.taken,.int .i64 x.power,.bool false]) bD1 rfl (by simp[Value.oneCell']) (by kernel_rfl)
    have bD2:=bD1.setRow (cs':=#[.slice a1 x.stable.length c1,.slice none 0 0,.int .i64 x.taken,.int .i64 x.power,.bool false]);have bS2:=bS1.rowFar (cs':=#[.slice a1 x.stable.length c1,.slice none 0 0,.int .i64 x.taken,.int .i64 x.power,.bool false]) (show w.heap.size+1≠w.heap.size by omega)
    have bR2:=bR1.rowFar (cs':=#[.slice a1 x.stable.length c1,.slice none 0 0,.int .i64 x.taken,.int .i64 x.power,.bool false]) (show w.heap.size+1+1≠w.heap.size by omega)
    have hz:=z0.out;have own2:(w1.setRow w.heap.size #[.slice a1 x.stable.length c1,.slice none 0 0,.int .i64 x.taken,.int .i64 x.power,.bool false]).ownsRow w0.heap.size 128 128 (.slice a1 x.stable.length c1) x.stable.length (x.flushed.stable.flatMap secV):=
     z0c own1 fun q hq=>z0b _ _ _ _ (by have:=(own1.lt q hq).1;omega)
    have B2:=Below.setRow B1 (g:=w.heap.size) (zhT _) #[.slice a1 x.stable.length c1,.slice none 0 0,.int .i64 x.taken,.int .i64 x.power,.bool false];have hl:x.flushed.stable.length=x.stable.length:=z0e _ _;clear hz;go_wp2_with (refine z01 rfl _ _ _ rfl _ _ rfl rfl hst ?_)
    go_meet
    case rel=>
     have hf:=HQ.out.ok.flushed;rw[HYF.out];refine⟨⟨a1,c1,none,0,?_,⟨hf,z1z own2 (by rw[z2B fun s hs=>(hf.sec s hs).1,hl]),.inl rfl,z2m own2 HN.out,.inl rfl⟩⟩,bS2,bR2,B2⟩
     unfold z09;show Blk _ _ _ #[.slice a1 x.flushed.stable.length c1,.slice none 0 0,.int .i64 x.taken,.int .i64 x.power,.bool x.off]
     rw[hl,hoff];exact bD2
   ·have hyf:y=x:=by rw[HY.out];unfold DevS.room;rw[if_neg hc]
    have hc2:¬(400:Int)≤x.cache.length:=by omega
    have HYF:=zhs hyf;clear hc hyf;go_wp2_with fail
    go_meet
    case rel=>
     rw[HYF.out];exact⟨⟨A,c,C,d,by unfold z09;rw[hoff];exact bD,HQ0.out⟩,bS,bR,B0⟩
 case rest=>
  as_aux_lemma=>
   obtain⟨⟨A1,c1,C1,d1,bDc,hqy⟩,bSc,bRc,Bc⟩:=hcut;rw[HYN.out,hytk,hypw,hyoff,hoff]at bDc;unfold z09 at bDc;have zc:w.heap.size+1+1<wc.heap.size:=bRc.lt;have hm:=hyl;have hz:=z0.out;have HQY:=zhs hqy;obtain⟨m,hmm⟩:∃m,y.cache.length=m:=⟨_,rfl⟩;obtain⟨xs,hxs⟩:∃xs,y.cache.flatMap dwV=xs:=⟨_,rfl⟩;have hml:xs.length=m*129:=by rw[←hxs,←hmm];exact z5A fun q hq=>(hyok.cac q hq).2.2.1
   have hrd:=hqy.cac;have h1y:∀u∈xs,u.oneCell'=true:=by rw[←hxs];exact zdM
   have HYT:=zhs (And.intro hytk (And.intro hypw hyoff));have HMM:=zhs hmm;have HXS:=zhs hxs;rw[hxs]at hrd;rw[hmm]at bDc hm;have hpl:(dwV (a,s)).length=1*129:=by rw[z0I,hsl]
   have hS:∀W,Below wc.heap.size wc W→W.cell? ⟨w.heap.size,1,none⟩=some (.slice C1 m d1)∧SecAt W ⟨w.heap.size+1,0,none⟩ s∧w.heap.size<W.heap.size:=fun W hW=>by
    have b:=bDc.belowAll hW;have b2:=bSc.belowAll hW;exact⟨(b.cells 1).trans rfl,⟨hsl,rfl,fun j hj=>by
     show W.cell? ⟨w.heap.size+1,0+j,none⟩=_
     rw[zi8];have hj2:j<s.length:=by omega
     exact(b2.cells j).trans (by simp[z03,hj2,zhw])⟩,b.lt⟩
   have HSS:=zhs hS;have HFIN:Hid (∀W v,Below wc.heap.size wc W→W.ownsRow wc.heap.size 130 129 v (m+1) (xs++dwV (a,s))→∃C2 d2,v=.slice C2 (m+1) d2∧(Instr.storeAt 32 (.pointer (some ⟨w.heap.size,1,none⟩)) v).run prog W=.ok () (W.setCell ⟨w.heap.size,1,none⟩ v)∧(W.setCell ⟨w.heap.size,1,none⟩ v).ownsRow wc.heap.size 130 129 v (m+1) (xs++dwV (a,s))∧Blk (W.setCell ⟨w.heap.size,1,none⟩ v) w.heap.size 34 #[.slice A1 x.stable.length c1,v,.int .i64 x.taken,.int .i64 x.power,.bool false]∧Blk (W.setCell ⟨w.heap.size,1,none⟩ v) (w.heap.size+1+1) 34 #[.slice none 0 0,.slice none 0 0,.int .i64 0,.int .i64 0,.bool false]∧Below w.heap.size w (W.setCell ⟨w.heap.size,1,none⟩ v)∧RSt (W.setCell ⟨w.heap.size,1,none⟩ v) P' A1 C1 y):=zhs fun W v hW hown=>by
    obtain⟨C2,d2,rfl⟩:=z0G hown;have bW:=bDc.belowAll hW;have cW:=(bW.cells 1).trans (show _=some (Value.slice C1 m d1)from rfl)
    have lW:=bW.lt;have fW:=bW.free;refine⟨C2,d2,rfl,by go_simp,z0c hown fun q hq=>Below.heap_setCell W _ _ q (by have:=(hown.lt q hq).1;show q≠w.heap.size;omega),bW.set_ 1 _,(Below.heap_setCell W ⟨w.heap.size,1,none⟩ _ (w.heap.size+1+1) (by show w.heap.size+1+1≠w.heap.size;omega)).trans (bRc.belowAll hW),zhr (Bc.trans (hW.mono Bc.size)) (zhT _) _,(HQY.out.below hW).cell (HA.out _ (zhT _) (by omega)) _⟩
   have zwc:w0.heap.size≤wc.heap.size:=by omega
   clear hS hqy hmm hxs hyok hytk hypw hyoff cD lD bD bS bR bRc hstab hz;go_upto_region 10 with fail
   go_cut []from 37 to 46 (fun wx=>∃C2 d2,wx.ownsRow w0.heap.size 130 129 (.slice C2 (m+1) d2) (m+1) (xs++dwV (a,s))∧Blk wx w.heap.size 34 #[.slice A1 x.stable.length c1,.slice C2 (m+1) d2,.int .i64 x.taken,.int .i64 x.power,.bool false]∧Blk wx (w.heap.size+1+1) 34 #[.slice none 0 0,.slice none 0 0,.int .i64 0,.int .i64 0,.bool false]∧Below w.heap.size w wx∧RSt wx P' A1 C1 y)
   case first=>
    as_aux_lemma=>
     have Hh:∀W,Below wc.heap.size wc W→(W.drew).heap.size=W.heap.size:=fun _ _=>rfl
     refine z3y (Tr.takes [1,2,4,5,6] (.fork 0 7 (.fork 3 7 (.one 7 (.one 8 (.take 9 (.last 10)))) (.one 3 (.one 8 (.take 9 (.last 10))))) (.one 0 (.one 3 (.one 8 (.take 9 (.last 10))))))) 10 (fun W=>W.cell? ⟨w.heap.size,1,none⟩=some (.slice C1 m d1)∧SecAt W ⟨w.heap.size+1,0,none⟩ s∧w.heap.size<W.heap.size) (by kernel_rfl) (by kernel_rfl) (fun _ _ _ _ _ h=>h) (HSS.out _ (zho _ _).drew) ?_
     simp only[Tr.takes,Tr.fill,zhy,zhz];iterate 3 (refine z2v (by rfl) ?_ (fun w' hw'=>?_) ?_;rotate_left;(focus (go_simp;(try with_reducible rfl)));(try simp only[Act.put,zht,zhu,zhv]))
     refine z2v (by rfl) (.agg (z03 s)) (fun w' hw'=>z3n _ rfl rfl hw'.2.1) ?_
     try simp only[Act.put,zht,zhu,zhv]
     refine z7e 130 _ rfl (by rfl) (dwV (a,s)).toArray (z8I a s hsl) ?_
     try simp only[Act.put,zht,zhu,zhv]
     refine z8Y (fun K hK=>?_) (fun K hK=>?_)
     ·refine z38 _ _ _ rfl [] rfl _ (z5q wc.drew) ?_;obtain⟨w1,hw1⟩:∃w1,w1=wc.drew.alloc (.cells #[] 130):=⟨_,rfl⟩;have o1:w1.ownsRow wc.drew.heap.size 130 129 (.slice (some ⟨wc.drew.heap.size,0,none⟩) 0 0) 0 []:=by rw[hw1];exact zaw wc.drew
      have hle1:wc.heap.size≤wc.drew.heap.size:=(zho wc.heap.size wc).drew.size;have b1:Below wc.heap.size wc w1:=by rw[hw1];exact(zho wc.heap.size wc).drew.alloc hle1 _
      have k1:Below wc.drew.heap.size wc.drew w1:=by rw[hw1];exact(zho _ _).alloc (zhT _) _
      have s1:w1.heap.size=wc.drew.heap.size+1:=by rw[hw1];simp
      replace o1:=z0y o1 hle1;rw[←hw1];clear hw1;refine hK _ _ (HSS.out _ b1) ?_;clear hK K;try simp only[Act.put,zht,zhu,zhv]
      refine z8Y (fun K hK=>?_) (fun K hK=>?_)
      ·obtain⟨v3,w3,hrun3,o3,k3,n3⟩:=z4Z o1 b1.size C1 m d1 xs hml (by omega) (hrd.below b1) h1y
       have b3:=b1.trans k3;refine z1A _ _ _ rfl _ _ _ rfl rfl hrun3 ?_;refine hK _ _ (HSS.out _ b3) ?_;clear hK K;try simp only[Act.put,zht,zhu,zhv]
       refine z2P fun K hK=>?_
       refine z38 _ _ _ rfl [(0,.agg (dwV (a,s)).toArray)] rfl _ (z2N (a,s) hsl w3) ?_;obtain⟨w7,hw7⟩:∃w7,w7=w3.alloc (.cells (dwV (a,s)).toArray 130):=⟨_,rfl⟩;have r7:Reads w7 (some ⟨w3.heap.size,0,none⟩) (dwV (a,s)):=by rw[hw7];exact z6k w3 (a,s)
       have hle7:wc.heap.size≤w3.heap.size:=b3.size;have b7:Below wc.heap.size wc w7:=by rw[hw7];exact b3.alloc hle7 _
       have k7:Below w3.heap.size w3 w7:=by rw[hw7];exact(zho _ _).alloc (zhT _) _
       rw[←hw7];clear hw7;refine hK _ _ (HSS.out _ b7) ?_;clear hK K;try simp only[Act.put,zht,zhu,zhv]
       obtain⟨v8,w8,hrun8,o8,k8,-⟩:=z4Z (z0a o3 k7) b7.size (some ⟨w3.heap.size,0,none⟩) 1 1 (dwV (a,s)) hpl (by omega) (r7) (z3o _)
       have b8:=b7.trans k8;refine z2P fun K hK=>?_
       refine z1A _ _ _ rfl _ _ _ rfl rfl hrun8 ?_;refine hK _ _ (HSS.out _ b8) ?_;clear hK K;try simp only[Act.put,zht,zhu,zhv]
       obtain⟨C2,d2,rfl,hst,h1,h2,h3,h4,h5⟩:=HFIN.out w8 v8 b8 (by simpa using o8)
       refine z2v (by rfl) ?_ (fun w' hw'=>?_) ?_;rotate_left;(focus (go_simp;(try with_reducible rfl)))
       try simp only[Act.put,zht,zhu,zhv]
       refine z4z fun K hK=>?_
       refine z0h _ _ _ rfl _ _ rfl rfl hst ?_;refine hK _ _ ?_;clear hK K hst;try simp only[Act.put,zht,zhu,zhv]
       have HF:=zhs (And.intro h1 (And.intro h2 (And.intro h3 (And.intro h4 h5))));generalize w8.setCell ⟨w.heap.size,1,none⟩ (.slice C2 (m+1) d2)=WX at *;clear h1 h2 h3 h4 h5;go_wp2_with fail
       go_meet
       case rel=>exact⟨C2,d2,z0y HF.out.1 zwc,HF.out.2⟩
      ·refine z38 _ _ _ rfl [(0,.agg (dwV (a,s)).toArray)] rfl _ (z2N (a,s) hsl w1) ?_;obtain⟨w7,hw7⟩:∃w7,w7=w1.alloc (.cells (dwV (a,s)).toArray 130):=⟨_,rfl⟩;have r7:Reads w7 (some ⟨w1.heap.size,0,none⟩) (dwV (a,s)):=by rw[hw7];exact z6k w1 (a,s)
       have hle7:wc.heap.size≤w1.heap.size:=b1.size;have b7:Below wc.heap.size wc w7:=by rw[hw7];exact b1.alloc hle7 _
       have k7:Below w1.heap.size w1 w7:=by rw[hw7];exact(zho _ _).alloc (zhT _) _
       rw[←hw7];clear hw7;refine hK _ _ (HSS.out _ b7) ?_;clear hK K;try simp only[Act.put,zht,zhu,zhv]
       refine z2P fun K hK=>?_
       obtain⟨v3,w3,hrun3,o3,k3,n3⟩:=z4Z (z0a o1 k7) b7.size C1 m d1 xs hml (by omega) (hrd.below b7) h1y
       have b3:=b7.trans k3;refine z1A _ _ _ rfl _ _ _ rfl rfl hrun3 ?_;refine hK _ _ (HSS.out _ b3) ?_;clear hK K;try simp only[Act.put,zht,zhu,zhv]
       obtain⟨v8,w8,hrun8,o8,k8,-⟩:=z4Z (o3) b3.size (some ⟨w1.heap.size,0,none⟩) 1 1 (dwV (a,s)) hpl (by omega) (r7.frame (fun ad e hl=>n3 _ hl (by cases e;simp only[Value.ownBlock,ne_eq,Option.some.injEq];omega)) k3.size) (z3o _)
       have b8:=b3.trans k8;refine z2P fun K hK=>?_
       refine z1A _ _ _ rfl _ _ _ rfl rfl hrun8 ?_;refine hK _ _ (HSS.out _ b8) ?_;clear hK K;try simp only[Act.put,zht,zhu,zhv]
       obtain⟨C2,d2,rfl,hst,h1,h2,h3,h4,h5⟩:=HFIN.out w8 v8 b8 (by simpa using o8)
       refine z2v (by rfl) ?_ (fun w' hw'=>?_) ?_;rotate_left;(focus (go_simp;(try with_reducible rfl)))
       try simp only[Act.put,zht,zhu,zhv]
       refine z4z fun K hK=>?_
       refine z0h _ _ _ rfl _ _ rfl rfl hst ?_;refine hK _ _ ?_;clear hK K hst;try simp only[Act.put,zht,zhu,zhv]
       have HF:=zhs (And.intro h1 (And.intro h2 (And.intro h3 (And.intro h4 h5))));generalize w8.setCell ⟨w.heap.size,1,none⟩ (.slice C2 (m+1) d2)=WX at *;clear h1 h2 h3 h4 h5;go_wp2_with fail
       go_meet
       case rel=>exact⟨C2,d2,z0y HF.out.1 zwc,HF.out.2⟩
     ·refine z38 _ _ _ rfl [(0,.agg (dwV (a,s)).toArray)] rfl _ (z2N (a,s) hsl wc.drew) ?_;obtain⟨w7,hw7⟩:∃w7,w7=wc.drew.alloc (.cells (dwV (a,s)).toArray 130):=⟨_,rfl⟩;have r7:Reads w7 (some ⟨wc.drew.heap.size,0,none⟩) (dwV (a,s)):=by rw[hw7];exact z6k wc.drew (a,s)
      have hle7:wc.heap.size≤wc.drew.heap.size:=(zho wc.heap.size wc).drew.size;have b7:Below wc.heap.size wc w7:=by rw[hw7];exact(zho wc.heap.size wc).drew.alloc hle7 _
      have k7:Below wc.drew.heap.size wc.drew w7:=by rw[hw7];exact(zho _ _).alloc (zhT _) _
      have s7:w7.heap.size=wc.drew.heap.size+1:=by rw[hw7];simp
      rw[←hw7];clear hw7;refine hK _ _ (HSS.out _ b7) ?_;clear hK K;try simp only[Act.put,zht,zhu,zhv]
      refine z2P fun K hK=>?_
      refine z38 _ _ _ rfl [] rfl _ (z5q w7) ?_;obtain⟨w1,hw1⟩:∃w1,w1=w7.alloc (.cells #[] 130):=⟨_,rfl⟩;have o1:w1.ownsRow w7.heap.size 130 129 (.slice (some ⟨w7.heap.size,0,none⟩) 0 0) 0 []:=by rw[hw1];exact zaw w7
      have hle1:wc.heap.size≤w7.heap.size:=b7.size;have b1:Below wc.heap.size wc w1:=by rw[hw1];exact b7.alloc hle1 _
      have k1:Below w7.heap.size w7 w1:=by rw[hw1];exact(zho _ _).alloc (zhT _) _
      replace o1:=z0y o1 hle1;rw[←hw1];clear hw1;refine hK _ _ (HSS.out _ b1) ?_;clear hK K;try simp only[Act.put,zht,zhu,zhv]
      refine z2P fun K hK=>?_
      obtain⟨v3,w3,hrun3,o3,k3,n3⟩:=z4Z o1 b1.size C1 m d1 xs hml (by omega) (hrd.below b1) h1y
      have b3:=b1.trans k3;refine z1A _ _ _ rfl _ _ _ rfl rfl hrun3 ?_;refine hK _ _ (HSS.out _ b3) ?_;clear hK K;try simp only[Act.put,zht,zhu,zhv]
      obtain⟨v8,w8,hrun8,o8,k8,-⟩:=z4Z (o3) b3.size (some ⟨wc.drew.heap.size,0,none⟩) 1 1 (dwV (a,s)) hpl (by omega) ((r7.below k1).frame (fun ad e hl=>n3 _ hl (by cases e;simp only[Value.ownBlock,ne_eq,Option.some.injEq];omega)) k3.size) (z3o _)
      have b8:=b3.trans k8;refine z2P fun K hK=>?_
      refine z1A _ _ _ rfl _ _ _ rfl rfl hrun8 ?_;refine hK _ _ (HSS.out _ b8) ?_;clear hK K;try simp only[Act.put,zht,zhu,zhv]
      obtain⟨C2,d2,rfl,hst,h1,h2,h3,h4,h5⟩:=HFIN.out w8 v8 b8 (by simpa using o8)
      refine z2v (by rfl) ?_ (fun w' hw'=>?_) ?_;rotate_left;(focus (go_simp;(try with_reducible rfl)))
      try simp only[Act.put,zht,zhu,zhv]
      refine z4z fun K hK=>?_
      refine z0h _ _ _ rfl _ _ rfl rfl hst ?_;refine hK _ _ ?_;clear hK K hst;try simp only[Act.put,zht,zhu,zhv]
      have HF:=zhs (And.intro h1 (And.intro h2 (And.intro h3 (And.intro h4 h5))));generalize w8.setCell ⟨w.heap.size,1,none⟩ (.slice C2 (m+1) d2)=WX at *;clear h1 h2 h3 h4 h5;go_wp2_with fail
      go_meet
      case rel=>exact⟨C2,d2,z0y HF.out.1 zwc,HF.out.2⟩
   case rest=>
    as_aux_lemma=>
     obtain⟨C2,d2,own2,bD2,bR2,B2,hq2⟩:=hcut;have hz0:=z0.out;have HEND:Hid (∀W,(∀b,b≠w.heap.size→b≠w.heap.size+1+1→W.heap[b]?=wc.heap[b]?)→wc.heap.size≤W.heap.size→Below w.heap.size w W→RGot w P (x.write a s) (.returned (.tuple #[.agg #[.slice A1 x.stable.length c1,.slice C2 (m+1) d2,.int .i64 (x.taken+1),.int .i64 (if 0<x.power then x.power - 1 else x.power),.bool false],.int .i64 0])) W):=zhs fun W hW hsz hB=>by
      have hfl:(y.cache++[(a,s)]).flatMap dwV=xs++dwV (a,s):=by rw[List.flatMap_append,HXS.out];simp
      have hll:(y.cache++[(a,s)]).length=m+1:=by rw[zhF,HMM.out];rfl
      have ho:W.ownsRow w0.heap.size 130 129 (.slice C2 (m+1) d2) (m+1) (xs++dwV (a,s)):=z0c own2 fun q hq=>hW q (by have:=(own2.lt q hq).1;omega) (by have:=(own2.lt q hq).1;omega)
      have hr:=hq2.frame (w':=W) (fun b hb _=>hW b (HA.out _ (zhT _) (by omega) b hb) (HA.out _ (by omega) (by omega) b hb)) hsz
      rw[HW.out];have hok:=HOKA.out;rw[←HY.out]at hok ⊢;have hp:=z2m ho HN.out;refine⟨A1,c1,C2,d2,?_,⟨hok,hr.sta,?_,hr.la.mono HU.out,.inr (hp.mono HU.out)⟩,hB⟩
      ·have e:stV A1 c1 C2 d2 (y.added a s)=.agg #[.slice A1 y.stable.length c1,.slice C2 (y.cache++[(a,s)]).length d2,.int .i64 (y.taken+1),.int .i64 (if 0<y.power then y.power - 1 else y.power),.bool y.off]:=rfl
       rw[e,hll,HYN.out,HYT.out.1,HYT.out.2.1,HYT.out.2.2,hoff]
      ·show Reads W C2 ((y.cache++[(a,s)]).flatMap dwV)
       rw[hfl];exact z1z ho (by rw[zhF,hml,hpl];omega)
     clear own2 hq2 HFIN HSS bDc bSc;have cD2:=bD2.cells;have lD2:=bD2.lt;have fD2:=bD2.free;have hfar:∀u,(wc.setCell ⟨w.heap.size,2,none⟩ u).heap[w.heap.size+1+1]?=wc.heap[w.heap.size+1+1]?:=fun u=>Below.heap_setCell wc _ u _ (by show w.heap.size+1+1≠w.heap.size;omega)
     by_cases hpw0:0<x.power
     ·rw[if_pos hpw0]at HEND;have bD3:=(bD2.set_ 2 (.int .i64 (x.taken+1))).set_ 3 (.int .i64 (x.power - 1));have bR3:Blk ((wc.setCell ⟨w.heap.size,2,none⟩ (.int .i64 (x.taken+1))).setCell ⟨w.heap.size,3,none⟩ (.int .i64 (x.power - 1))) (w.heap.size+1+1) 34 #[.slice none 0 0,.slice none 0 0,.int .i64 0,.int .i64 0,.bool false]:=(Below.heap_setCell _ _ _ _ (by show w.heap.size+1+1≠w.heap.size;omega)).trans ((hfar _).trans bR2)
      have B3:Below w.heap.size w ((wc.setCell ⟨w.heap.size,2,none⟩ (.int .i64 (x.taken+1))).setCell ⟨w.heap.size,3,none⟩ (.int .i64 (x.power - 1))):=zhr (zhr B2 (zhT _) _) (zhT _) _;have hk3:∀b,b≠w.heap.size→((wc.setCell ⟨w.heap.size,2,none⟩ (.int .i64 (x.taken+1))).setCell ⟨w.heap.size,3,none⟩ (.int .i64 (x.power - 1))).heap[b]?=wc.heap[b]?:=fun b hb=>(Below.heap_setCell _ _ _ _ hb).trans (Below.heap_setCell _ _ _ _ hb)
      have hs3:((wc.setCell ⟨w.heap.size,2,none⟩ (.int .i64 (x.taken+1))).setCell ⟨w.heap.size,3,none⟩ (.int .i64 (x.power - 1))).heap.size=wc.heap.size:=by simp
      go_upto_region 14 with fail
      generalize (wc.setCell ⟨w.heap.size,2,none⟩ (.int .i64 (x.taken+1))).setCell ⟨w.heap.size,3,none⟩ (.int .i64 (x.power - 1))=W3 at *;clear cD2 lD2 fD2 bD2 bR2 B2 hfar;have cD3:=bD3.cells;have lD3:=bD3.lt;have hst:=z0q (ty:=34) (vs:=#[.slice A1 x.stable.length c1,.slice C2 (m+1) d2,.int .i64 (x.taken+1),.int .i64 (x.power - 1),.bool false]) bR3 rfl (by simp[Value.oneCell']) (by kernel_rfl)
      have bR4:=bR3.setRow (cs':=#[.slice A1 x.stable.length c1,.slice C2 (m+1) d2,.int .i64 (x.taken+1),.int .i64 (x.power - 1),.bool false]);have cR4:=bR4.cells;have lR4:=bR4.lt;have B4:=Below.setRow B3 (g:=w.heap.size+1+1) (by omega) #[.slice A1 x.stable.length c1,.slice C2 (m+1) d2,.int .i64 (x.taken+1),.int .i64 (x.power - 1),.bool false]
      have hfin:=HEND.out _ (fun b h1 h2=>(z0b W3 (w.heap.size+1+1) b #[.slice A1 x.stable.length c1,.slice C2 (m+1) d2,.int .i64 (x.taken+1),.int .i64 (x.power - 1),.bool false] h2).trans (hk3 b h1)) (by simp;omega) B4
      clear HEND hk3 hs3 B3 B4;go_wp2_with (refine z01 rfl _ _ _ rfl _ _ rfl rfl hst ?_)
      refine bodyPost_ret (v:=.tuple #[.agg #[.slice A1 x.stable.length c1,.slice C2 (m+1) d2,.int .i64 (x.taken+1),.int .i64 (x.power - 1),.bool false],.int .i64 0]) (by simp[results,results106,go_sem,cR4,lR4]) rfl hfin
     ·rw[if_neg hpw0]at HEND;have bD3:=bD2.set_ 2 (.int .i64 (x.taken+1));have bR3:Blk (wc.setCell ⟨w.heap.size,2,none⟩ (.int .i64 (x.taken+1))) (w.heap.size+1+1) 34 #[.slice none 0 0,.slice none 0 0,.int .i64 0,.int .i64 0,.bool false]:=(hfar _).trans bR2;have B3:Below w.heap.size w (wc.setCell ⟨w.heap.size,2,none⟩ (.int .i64 (x.taken+1))):=zhr B2 (zhT _) _;have hk3:∀b,b≠w.heap.size→(wc.setCell ⟨w.heap.size,2,none⟩ (.int .i64 (x.taken+1))).heap[b]?=wc.heap[b]?:=fun b hb=>Below.heap_setCell _ _ _ _ hb
      have hs3:(wc.setCell ⟨w.heap.size,2,none⟩ (.int .i64 (x.taken+1))).heap.size=wc.heap.size:=by simp
      go_upto_region 12 with fail
      generalize wc.setCell ⟨w.heap.size,2,none⟩ (.int .i64 (x.taken+1))=W3 at *;clear cD2 lD2 fD2 bD2 bR2 B2 hfar;have cD3:=bD3.cells;have lD3:=bD3.lt;have hst:=z0q (ty:=34) (vs:=#[.slice A1 x.stable.length c1,.slice C2 (m+1) d2,.int .i64 (x.taken+1),.int .i64 x.power,.bool false]) bR3 rfl (by simp[Value.oneCell']) (by kernel_rfl)
      have bR4:=bR3.setRow (cs':=#[.slice A1 x.stable.length c1,.slice C2 (m+1) d2,.int .i64 (x.taken+1),.int .i64 x.power,.bool false]);have cR4:=bR4.cells;have lR4:=bR4.lt;have B4:=Below.setRow B3 (g:=w.heap.size+1+1) (by omega) #[.slice A1 x.stable.length c1,.slice C2 (m+1) d2,.int .i64 (x.taken+1),.int .i64 x.power,.bool false]
      have hfin:=HEND.out _ (fun b h1 h2=>(z0b W3 (w.heap.size+1+1) b #[.slice A1 x.stable.length c1,.slice C2 (m+1) d2,.int .i64 (x.taken+1),.int .i64 x.power,.bool false] h2).trans (hk3 b h1)) (by simp;omega) B4
      clear HEND hk3 hs3 B3 B4;go_wp2_with (refine z01 rfl _ _ _ rfl _ _ rfl rfl hst ?_)
      refine bodyPost_ret (v:=.tuple #[.agg #[.slice A1 x.stable.length c1,.slice C2 (m+1) d2,.int .i64 (x.taken+1),.int .i64 x.power,.bool false],.int .i64 0]) (by simp[results,results106,go_sem,cR4,lR4]) rfl hfin
def RSv (w:World)(P:Nat→Prop)(x:DevS)(sv:Array Value):Prop:=∃A c C d,sv=z09 (.slice A x.stable.length c) (.slice C x.cache.length d) x.taken x.power x.off∧RSt w P A C x
section
variable {w w':World}{P Q:Nat→Prop}{x:DevS}{sv:Array Value}
theorem RSv.ok (h:RSv w P x sv):x.Ok:=by obtain⟨A,c,C,d,rfl,h⟩:=h;exact h.ok
theorem RSv.size (h:RSv w P x sv):sv.size=5:=by obtain⟨A,c,C,d,rfl,h⟩:=h;rfl
theorem RSv.one (h:RSv w P x sv):sv.all (·.oneCell')=true:=by obtain⟨A,c,C,d,rfl,h⟩:=h;simp[z09,Value.oneCell']
theorem RSv.below (h:RSv w P x sv)(hb:Below w.heap.size w w'):RSv w' P x sv:=by obtain⟨A,c,C,d,e,h⟩:=h;exact⟨A,c,C,d,e,h.below hb⟩
theorem RSv.mono (h:RSv w P x sv)(k:∀b,P b→b<w.heap.size→Q b):RSv w Q x sv:=by obtain⟨A,c,C,d,e,h⟩:=h;exact⟨A,c,C,d,e,h.mono k⟩
theorem RSv.frame (h:RSv w P x sv)(hb:∀b,P b→b<w.heap.size→w'.heap[b]?=w.heap[b]?)(hs:w.heap.size≤w'.heap.size):RSv w' P x sv:=by obtain⟨A,c,C,d,e,h⟩:=h;exact⟨A,c,C,d,e,h.frame hb hs⟩
theorem RSv.row (h:RSv w P x sv){g:Nat}(hg:∀b,P b→b≠g)(cs:Array Value):RSv (w.setRow g cs) P x sv:=by obtain⟨A,c,C,d,e,h⟩:=h;exact⟨A,c,C,d,e,h.row hg cs⟩
theorem RSv.apt {w0:World}(h:RSv w P x sv)(hb:Below w.heap.size w w0)(E:Nat):RSv w0 (Apt_ P w.heap.size E) x sv:=by obtain⟨A,c,C,d,e,h⟩:=h;exact⟨A,c,C,d,e,h.apt hb E⟩
theorem RSv.unapt {B E:Nat}(h:RSv w (Apt_ P B E) x sv):RSv w P x sv:=h.mono fun _ h1 _=>h1.1
end
theorem z02 {P:Program}{ops:Array Oper}{rest:List Oper}{o:Oper}{a:Act}{w:World}{Q:Exit→Act→World→Prop}(hw:Region.wanted o (yielded ops a.tmps)=true)(ty:TypeId)(x:Operand)(ho:o.op=.load ty x)(v p:Value)
  (hx:a.eval x=p) (hrun:(Instr.loadAt ty p).run P w=.ok v w) (h:wpList P ops Q rest (a.put o.dst v) w):wpList P ops Q (o::rest) a w:=
 wpList_step fun K hK=>by
  rw[if_pos hw];unfold Oper.wp execOp;simp only[ho,hx,Sem.run_bind,Sem.run_pure,Result.andThen_ok,hrun];exact hK _ _ h
theorem z0z {W:World}{D:Nat}{t:TypeId}{sv:Array Value}(b:Blk W D t sv)(h:sv.size=5):(Instr.loadAt 34 (.pointer (some ⟨D,0,none⟩))).run prog W=.ok (.agg sv) W:=by
 simp only[Instr.loadAt,Instr.sureAddr,Sem.run_bind,Sem.run_pure,Result.andThen];exact run_loadVar_row W D t 34 sv (0,0) _ b underlying34 rfl (by rw[h];kernel_rfl)
theorem z0l {W:World}{R:Nat}{t:TypeId}{cs sv:Array Value}(b:Blk W R t cs)(h0:cs.size=5)(h:sv.size=5)(h1:sv.all (·.oneCell')=true):(Instr.storeAt 34 (.pointer (some ⟨R,0,none⟩)) (.agg sv)).run prog W=.ok () (W.setRow R sv):=
 z0q (ty:=34) (vs:=sv) b (by rw[h0,h]) h1 (by rw[h];kernel_rfl)
def RGv (w:World)(P:Nat→Prop)(p:Int × DevS)(e:Ending)(w':World):Prop:=
 ∃sv,e=.returned (.tuple #[.agg sv,.int .i64 p.1])∧RSv w' P p.2 sv∧Below w.heap.size w w'
theorem RGot.v {w w':World}{P:Nat→Prop}{p:Int × DevS}{e:Ending}(h:RGot w P p e w'):RGv w P p e w':=by
 obtain⟨A,c,C,d,rfl,h1,h2⟩:=h;exact⟨_,rfl,⟨A,c,C,d,rfl,h1⟩,h2⟩
theorem zcV {w:World}{P:Nat→Prop}{x:DevS}{sv:Array Value}(hq:RSv w P x sv)(hP:∀b,w.heap.size≤b→P b)(a:Int)(s:List Int)(hs:s.length=128∧z0V s):
  Calls prog 106 #[.agg sv,.int .i64 a,.agg (z03 s)] w (RGv w P (x.write a s)):=by
 obtain⟨A,c,C,d,rfl,h⟩:=hq;exact(zbF P A C c d x a s hs w hP h).mono fun e w'=>RGot.v
theorem z7B {w:World}{P:Nat→Prop}{x:DevS}{sv:Array Value}(hq:RSv w P x sv)(hP:∀b,w.heap.size≤b→P b):
  Calls prog 107 #[.agg sv] w (RGv w P x.flush):=by
 obtain⟨A,c,C,d,rfl,h⟩:=hq;exact(zbd P A C c d x w hP h).mono fun e w'=>RGot.v
theorem zgv {w:World}{P:Nat→Prop}{x:DevS}{sv:Array Value}(hq:RSv w P x sv)(n:Int):
  Calls prog 18 #[.agg sv,.int .i64 n] w (RGv w P (if n < -1∨1000000000000<n then (7,x)else (0,x.limit n))):=by
 obtain⟨A,c,C,d,rfl,h⟩:=hq;exact(zbh P A C c d x n w h).mono fun e w'=>RGot.v
theorem zeH {w:World}{P:Nat→Prop}{x:DevS}{sv:Array Value}(hq:RSv w P x sv)(hs:x.Calm)(a:Int):
  Calls prog 132 #[.agg sv,.int .i64 a] w (z2h x a w):=by
 obtain⟨A,c,C,d,rfl,h⟩:=hq;exact z8B P A C c d x a w h hs
def svZ:Array Value:=#[.slice none 0 0,.slice none 0 0,.int .i64 0,.int .i64 0,.bool false]
theorem RGv.mk {w W:World}{P:Nat→Prop}{E0 R:Nat}{z:DevS}{sv:Array Value}(e:Int)(hq:RSv W (Apt_ P w.heap.size E0) z sv)(hB:Below w.heap.size w W)(h1:w.heap.size≤R)(h2:R<E0):RGv w P (e,z) (.returned (.tuple #[.agg sv,.int .i64 e])) (W.setRow R sv):=
 ⟨sv,rfl,(hq.row (Apt_.ne h1 h2) sv).unapt,Below.setRow hB h1 sv⟩
theorem zdE {w:World}{P:Nat→Prop}{x:DevS}{sv:Array Value}(hq:RSv w P x sv)(hP:∀b,w.heap.size≤b→P b)(a kind q:Int)(hs9:0≤q∧q<4294967296)(s:ByteArray)(hsl:s.size≤maxLen):
  Calls prog 105 #[.agg sv,.int .i64 a,.int .i64 kind,.int .u32 q,.string s] w (RGv w P (x.put a kind q s)):=by
 have hz:=z0S;obtain⟨w0,hw0⟩:∃w0,w0=(w.alloc (.cells sv 34)).alloc (.cells svZ 34):=⟨_,rfl⟩;have bD:Blk w0 w.heap.size 34 sv:=by rw[hw0];exact(Blk.new _ _ _).alloc _
 have bR:Blk w0 (w.heap.size+1) 34 svZ:=by rw[hw0];exact Blk.new' (by simp)
 have B0:Below w.heap.size w w0:=by rw[hw0];(repeat' (first|with_reducible (first|exact zho _ _|assumption|refine zhp ?_ ?_ _|refine zhq ?_|refine z00 ?_ _|refine zhr ?_ ?_ _|exact zhT _)|omega|(simp;done)|(simp;omega)))
 have hsz:=hq.size;have hone:=hq.one;have HP:=zhs hP;have HQ:=zhs hq;have hse:=z9n a kind q s hsl hs9 w0;have HPUT:=zhs (show x.put a kind q s=if z11 a kind s.size=0 then x.write a (z15 a kind q s)else (z11 a kind s.size,x)from rfl)
 clear hq hP;unfold svZ at hw0;go_enter func105,ntmps105
 go_upto_region 1 with fail
 rw[←hw0];clear hw0;go_wp2_with fail
 refine hse.mono ?_;rintro e w1 ⟨hb1,rfl⟩;clear hse;by_cases hE:z11 a kind s.size=0
 ·rw[if_pos hE,hE];have hLs:(z15 a kind q s).length=128∧z0V (z15 a kind q s):=⟨z1n a kind q s (by have:=z3B hE;omega),z2x q hE⟩
  have HE:=zhs hE;clear hE;have HL:=zhs hLs;generalize z15 a kind q s=L at *;have hl:=hLs.1;clear hLs;have bT:Blk (w1.alloc (.cells (z03 zsec) 128)) w1.heap.size 128 (z03 zsec):=Blk.new _ _ _;go_upto_region 2 with (refine z0d rfl _ _ rfl w1.heap.size L rfl rfl bT z07 hl ?_)
  obtain⟨W2,hW2⟩:∃W2,W2=World.setRow (w1.alloc (.cells (z03 zsec) 128)) w1.heap.size (z03 L):=⟨_,rfl⟩;rw[←hW2];have hB2:Below w1.heap.size w1 W2:=by rw[hW2];exact Below.setRow ((zho _ _).alloc (zhT _) _) (zhT _) _
  have bT2:Blk W2 w1.heap.size 128 (z03 L):=by rw[hW2];exact Blk.setRow bT
  have bD2:=(bD.belowAll hb1).belowAll hB2;have bR2:=(bR.belowAll hb1).belowAll hB2;have B2:Below w.heap.size w W2:=B0.trans ((hb1.mono B0.size).trans (hB2.mono (zhS B0.size hb1.size)));have hQ2:=HQ.out.apt B2 W2.heap.size;have hwr:=zcV hQ2 (Apt_.new HP.out B2.size) a L HL.out;have zR:=bR2.lt;clear hW2 hB2 bT bD bR hb1 B0 hQ2;have l1:=z0z bD2 hsz;go_wp2_with (first|(refine z02 (by rfl) _ _ rfl (.agg sv) (.pointer (some ⟨w.heap.size,0,none⟩)) rfl l1 ?_)|(refine z0u rfl _ rfl w1.heap.size rfl bT2 hl ?_))
  refine hwr.mono ?_;rintro e w3 ⟨sv3,rfl,hq3,hb3⟩;have bR3:=bR2.belowAll hb3;have B3:=B2.trans (hb3.mono B2.size);have hst:=z0l bR3 rfl hq3.size hq3.one;have bR4:=bR3.setRow (cs':=sv3);have hfin:=RGv.mk (R:=w.heap.size+1) (x.write a L).1 hq3 B3 (by omega) zR
  have hs3:=hq3.size;clear hwr l1 bT2;go_wp2_with (refine z01 rfl _ _ _ rfl _ _ rfl rfl hst ?_)
  refine bodyPost_ret (z08 (cs:=sv3) rfl rfl rfl bR4 underlying34 (by rw[hs3];kernel_rfl)) rfl ?_
  rw[HPUT.out,if_pos HE.out];exact hfin
 ·rw[if_neg hE];have hd:(z11 a kind s.size != 0)=true:=by simpa using hE
  have HPE:Hid (x.put a kind q s=(z11 a kind s.size,x)):=zhs (by rw[HPUT.out,if_neg hE])
  clear HPUT hE;generalize z11 a kind s.size=E at *;have bT:Blk (w1.alloc (.cells (z03 zsec) 128)) w1.heap.size 128 (z03 zsec):=Blk.new _ _ _;go_upto_region 2 with (refine z0d rfl _ _ rfl w1.heap.size zsec rfl rfl bT z07 z07 ?_)
  obtain⟨W2,hW2⟩:∃W2,W2=World.setRow (w1.alloc (.cells (z03 zsec) 128)) w1.heap.size (z03 zsec):=⟨_,rfl⟩;rw[←hW2];have hB2:Below w1.heap.size w1 W2:=by rw[hW2];exact Below.setRow ((zho _ _).alloc (zhT _) _) (zhT _) _
  have bD2:=(bD.belowAll hb1).belowAll hB2;have bR2:=(bR.belowAll hb1).belowAll hB2;have B2:Below w.heap.size w W2:=B0.trans ((hb1.mono B0.size).trans (hB2.mono (zhS B0.size hb1.size)));have hfin:=RGv.mk (R:=w.heap.size+1) E (HQ.out.apt B2 W2.heap.size) B2 (by omega) bR2.lt
  have hst:=z0l bR2 rfl hsz hone;have bR4:=bR2.setRow (cs':=sv);have l1:=z0z bD2 hsz;clear hW2 hB2 bT bD bR hb1 B0;go_wp2_with (first|(refine z02 (by rfl) _ _ rfl (.agg sv) (.pointer (some ⟨w.heap.size,0,none⟩)) rfl l1 ?_)|(refine z01 rfl _ _ _ rfl _ _ rfl rfl hst ?_))
  refine bodyPost_ret (z08 (cs:=sv) rfl rfl rfl bR4 underlying34 (by rw[hsz];kernel_rfl)) rfl ?_
  rw[HPE.out];exact hfin
end Go.Proofs.YtejmknghkbobnaaGreatDoor
