import Derived.Test.YtejmknghkbobnaaGreatDoorPart00
import Derived.Test.YtejmknghkbobnaaGreatDoorPart22
import Derived.Test.YtejmknghkbobnaaGreatDoorPart23
import Derived.Test.YtejmknghkbobnaaGreatDoorPart10
import Derived.Test.YtejmknghkbobnaaGreatDoorPart04
import Derived.Test.YtejmknghkbobnaaGreatDoorPart09
import Derived.Test.YtejmknghkbobnaaGreatDoorPart19
set_option linter.unusedVariables false
set_option linter.unusedSimpArgs false
set_option maxRecDepth 100000
set_option maxHeartbeats 8000000
namespace Go.Proofs.YtejmknghkbobnaaGreatDoor
open Go.Proofs.Tryz
open Go.RowKit Go.Maps
theorem z4Z {base n:Nat}{v:Value}{xs:List Value}{w:World}(hown:w.ownsRow base 130 129 v n xs)(hb:base≤w.heap.size)(A:Option Addr)(m c:Nat)(ys:List Value)(hy:ys.length=m*129)(hn:n+m≤1000)(hR:Reads w A ys)(h1:∀u∈ys,u.oneCell'=true):
  ∃v' w',(Builtin.append_ #[32,32] 32 #[v,.slice A m c]).run prog w=.ok v' w'∧w'.ownsRow base 130 129 v' (n+m) (xs++ys)∧Below base w w'∧∀b,b<w.heap.size→v.ownBlock≠some b→w'.heap[b]?=w.heap[b]?:=by
 obtain⟨i,z,hi,hz,hsz,hby,hzs⟩:∃i z,prog.info? 130=some i∧i.zero=some z∧i.size=129∧i.bytes=136∧z.cells.size=129:=by
  have h0:((prog.info? 130).bind fun i=>i.zero.map fun z=>(i.size,i.bytes,z.cells.size))=some (129,136,129):=by kernel_rfl
  cases hi:prog.info? 130 with
  | none=>rw[hi]at h0;cases h0
  | some i=>
   rw[hi]at h0;cases hz:i.zero with
   | none=>rw[Option.bind_some,hz]at h0;cases h0
   | some z=>
    rw[Option.bind_some,hz]at h0;simp only[Option.map_some,Option.some.injEq,Prod.mk.injEq]at h0;exact⟨i,z,rfl,hz,h0.1,h0.2.1,h0.2.2⟩
 rcases A with _|ad
 ·rcases hR with h|⟨b,off,hb,-⟩
  ·subst h;have hn0:m=0:=by simp at hy;omega
   subst hn0;exact⟨_,_,z16 w base _ _ _ i 129 underlying32 hi _ _ _ hown c,by simpa using hown,zho _ _,fun _ _ _=>rfl⟩
  ·cases hb
 ·have hcells:∀j u,ys[j]?=some u→w.cell? (ad.add j)=some u:=fun j u hu=>by
   rcases hR with h|⟨b,off,hb,hlt,hc⟩
   ·subst h;simp at hu
   ·cases hb;rw[z1P];exact hc j u hu
  obtain⟨v1,w1,hrun,hown1,hg1,-,hat1⟩:=run_append_own_at (P:=prog) w base 32 32 130 i z 129 136 underlying32 hi hz hsz hby hzs (by omega) _ _ _ hown ad m c ys hy hcells h1 (by simp only[maxLen];omega) (by omega) hb
  exact⟨v1,w1,hrun,hown1,(zho base w).grown hg1 hb (fun k hk=>(z7w hown k hk).1),fun b hb hn=>hg1.block b hb (fun e=>hn e.symm)⟩
theorem zdY {base n:Nat}{v:Value}{xs:List Value}{w:World}(hown:w.ownsRow base 118 3 v n xs)(hb:base≤w.heap.size)(A:Option Addr)(m c:Nat)(ys:List Value)(hy:ys.length=m*3)(hn:n+m≤1000)(hR:Reads w A ys)(h1:∀u∈ys,u.oneCell'=true):
  ∃v' w',(Builtin.append_ #[48,48] 48 #[v,.slice A m c]).run prog w=.ok v' w'∧w'.ownsRow base 118 3 v' (n+m) (xs++ys)∧Below base w w'∧∀b,b<w.heap.size→v.ownBlock≠some b→w'.heap[b]?=w.heap[b]?:=by
 obtain⟨i,z,hi,hz,hsz,hby,hzs⟩:∃i z,prog.info? 118=some i∧i.zero=some z∧i.size=3∧i.bytes=32∧z.cells.size=3:=by
  have h0:((prog.info? 118).bind fun i=>i.zero.map fun z=>(i.size,i.bytes,z.cells.size))=some (3,32,3):=by kernel_rfl
  cases hi:prog.info? 118 with
  | none=>rw[hi]at h0;cases h0
  | some i=>
   rw[hi]at h0;cases hz:i.zero with
   | none=>rw[Option.bind_some,hz]at h0;cases h0
   | some z=>
    rw[Option.bind_some,hz]at h0;simp only[Option.map_some,Option.some.injEq,Prod.mk.injEq]at h0;exact⟨i,z,rfl,hz,h0.1,h0.2.1,h0.2.2⟩
 rcases A with _|ad
 ·rcases hR with h|⟨b,off,hb,-⟩
  ·subst h;have hn0:m=0:=by simp at hy;omega
   subst hn0;exact⟨_,_,z16 w base _ _ _ i 3 underlying48 hi _ _ _ hown c,by simpa using hown,zho _ _,fun _ _ _=>rfl⟩
  ·cases hb
 ·have hcells:∀j u,ys[j]?=some u→w.cell? (ad.add j)=some u:=fun j u hu=>by
   rcases hR with h|⟨b,off,hb,hlt,hc⟩
   ·subst h;simp at hu
   ·cases hb;rw[z1P];exact hc j u hu
  obtain⟨v1,w1,hrun,hown1,hg1,-,hat1⟩:=run_append_own_at (P:=prog) w base 48 48 118 i z 3 32 underlying48 hi hz hsz hby hzs (by omega) _ _ _ hown ad m c ys hy hcells h1 (by simp only[maxLen];omega) (by omega) hb
  exact⟨v1,w1,hrun,hown1,(zho base w).grown hg1 hb (fun k hk=>(z7w hown k hk).1),fun b hb hn=>hg1.block b hb (fun e=>hn e.symm)⟩
theorem zfg {base n:Nat}{v:Value}{xs:List Value}{w:World}(hown:w.ownsRow base 4 1 v n xs)(hb:base≤w.heap.size)(A:Option Addr)(m c:Nat)(ys:List Value)(hy:ys.length=m*1)(hn:n+m≤1000)(hR:Reads w A ys)(h1:∀u∈ys,u.oneCell'=true):
  ∃v' w',(Builtin.append_ #[45,45] 45 #[v,.slice A m c]).run prog w=.ok v' w'∧w'.ownsRow base 4 1 v' (n+m) (xs++ys)∧Below base w w'∧∀b,b<w.heap.size→v.ownBlock≠some b→w'.heap[b]?=w.heap[b]?:=by
 obtain⟨i,z,hi,hz,hsz,hby,hzs⟩:∃i z,prog.info? 4=some i∧i.zero=some z∧i.size=1∧i.bytes=1∧z.cells.size=1:=by
  have h0:((prog.info? 4).bind fun i=>i.zero.map fun z=>(i.size,i.bytes,z.cells.size))=some (1,1,1):=by kernel_rfl
  cases hi:prog.info? 4 with
  | none=>rw[hi]at h0;cases h0
  | some i=>
   rw[hi]at h0;cases hz:i.zero with
   | none=>rw[Option.bind_some,hz]at h0;cases h0
   | some z=>
    rw[Option.bind_some,hz]at h0;simp only[Option.map_some,Option.some.injEq,Prod.mk.injEq]at h0;exact⟨i,z,rfl,hz,h0.1,h0.2.1,h0.2.2⟩
 rcases A with _|ad
 ·rcases hR with h|⟨b,off,hb,-⟩
  ·subst h;have hn0:m=0:=by simp at hy;omega
   subst hn0;exact⟨_,_,z16 w base _ _ _ i 1 underlying45 hi _ _ _ hown c,by simpa using hown,zho _ _,fun _ _ _=>rfl⟩
  ·cases hb
 ·have hcells:∀j u,ys[j]?=some u→w.cell? (ad.add j)=some u:=fun j u hu=>by
   rcases hR with h|⟨b,off,hb,hlt,hc⟩
   ·subst h;simp at hu
   ·cases hb;rw[z1P];exact hc j u hu
  obtain⟨v1,w1,hrun,hown1,hg1,-,hat1⟩:=run_append_own_at (P:=prog) w base 45 45 4 i z 1 1 underlying45 hi hz hsz hby hzs (by omega) _ _ _ hown ad m c ys hy hcells h1 (by simp only[maxLen];omega) (by omega) hb
  exact⟨v1,w1,hrun,hown1,(zho base w).grown hg1 hb (fun k hk=>(z7w hown k hk).1),fun b hb hn=>hg1.block b hb (fun e=>hn e.symm)⟩
theorem RSt.sec {w:World}{P:Nat→Prop}{A C:Option Addr}{x:DevS}(h:RSt w P A C x):∃S,A=some ⟨S,0,none⟩∧S<w.heap.size∧∀k,k<x.stable.length→SecAt w ⟨S,k*128,none⟩ (x.stable.getD k []):=by
 have hlo:=h.ok.lo;have hne:0<(x.stable.flatMap secV).length:=by rw[z2B fun s hs=>(h.ok.sec s hs).1];omega
 rcases h.sta with h0|⟨b,off,e,hl,hc⟩
 ·rw[h0]at hne;simp at hne
 ·have h2:=(h.la _ e).2;simp only[Addr.mk.injEq,and_true,true_and]at h2;subst h2;refine⟨b,e,hl,fun k hk=>?_⟩
  have hs:=h.ok.sec _ (zhQ hk);rw[zhw,zhx hk,Option.getD_some];refine⟨hs.1,rfl,fun j hj=>?_⟩
  have:=hc (k*128+j) (.int .u8 ((x.stable[k]).getD j 0)) (by
   rw[z1r (f:=secV) (m:=128) (fun q hq=>by rw[z0T];exact(h.ok.sec q hq).1) (by omega) hk]
   have hj2:j<(x.stable[k]).length:=by omega
   simp[secV,hj2,zhw])
  rw[zi8]at this;exact this
def z4l (x:DevS)(a:Int)(w:World)(e:Ending)(w':World):Prop:=
 e=.returned (.tuple #[.agg (z03 (if x.atE a=0 then x.reads a else zsec)),.int .i64 (x.atE a)])∧Below w.heap.size w w'
theorem z7h {x:DevS}(h:x.cache=[])(a:Int):x.reads a=x.stable.getD a.toNat []:=by
 unfold DevS.reads DevS.idx z1H;rw[h];rfl
theorem zga {x:DevS}(h:x.off=true)(a:Int):x.atE a=13:=by
 show Go.Proofs.YtejmknghkbobnaaGreatDoor.atE x.off x.stable.length a=13
 unfold Go.Proofs.YtejmknghkbobnaaGreatDoor.atE;rw[h];rfl
theorem zgo {x:DevS}(h:x.off=false){a:Int}(ha:a<0∨(x.stable.length:Int)≤a):x.atE a=7:=by
 show Go.Proofs.YtejmknghkbobnaaGreatDoor.atE x.off x.stable.length a=7
 unfold Go.Proofs.YtejmknghkbobnaaGreatDoor.atE;rw[h,if_neg (by simp),if_pos ha]
def DevS.Calm (x:DevS):Prop:=x.cache=[]∨x.off=true
theorem zbN (P:Nat→Prop)(A C:Option Addr)(c d:Nat)(x:DevS)(a:Int)(w:World)(hq:RSt w P A C x)(hs:x.Calm):
  Calls prog 196 #[stV A c C d x,.int .i64 a] w (z4l x a w):=by
 obtain⟨S,rfl,hSb,hsec⟩:=hq.sec;have hhi:=hq.ok.hi;have hbad:∀E:Int,x.atE a=E→E≠0→z4l x a w=fun e w'=>e=.returned (.tuple #[.agg (z03 zsec),.int .i64 E])∧Below w.heap.size w w':=fun E hE h0=>by
  funext e w'
  unfold z4l;rw[hE,if_neg h0]
 have hz:=z0S;obtain⟨w0,hw0⟩:∃w0,w0=(w.alloc (.cells (z09 (.slice (some ⟨S,0,none⟩) x.stable.length c) (.slice C x.cache.length d) x.taken x.power x.off) 34)).alloc (.cells (z03 zsec) 128):=⟨_,rfl⟩;have bD:Blk w0 w.heap.size 34 (z09 (.slice (some ⟨S,0,none⟩) x.stable.length c) (.slice C x.cache.length d) x.taken x.power x.off):=by rw[hw0];exact(Blk.new _ _ _).alloc _
 have bR:Blk w0 (w.heap.size+1) 128 (z03 zsec):=by rw[hw0];exact Blk.new' (by simp)
 have B0:Below w.heap.size w w0:=by rw[hw0];(repeat' (first|with_reducible (first|exact zho _ _|assumption|refine zhp ?_ ?_ _|refine zhq ?_|refine z00 ?_ _|refine zhr ?_ ?_ _|exact zhT _)|omega|(simp;done)|(simp;omega)))
 cases ho:x.off
 ·have hc:x.cache=[]:=by rcases hs with h|h;exact h;rw[ho]at h;cases h
  by_cases ha:a<0∨(x.stable.length:Int)≤a
  ·rw[hbad 7 (zgo ho ha) (by decide)]
   rw[ho]at bD hw0;unfold stV;rw[ho];unfold z09 at *;generalize x.stable.length=n at *;clear hsec hhi hq hbad hc;have hd:a<0∨(¬a<0∧(n:Int)≤a):=by omega
   rcases hd with hd|⟨hd,hd2⟩
   ·go_enter func196,ntmps196
    go_upto_region 1 with fail
    rw[←hw0];clear hw0;have cD:=bD.cells;have lD:=bD.lt;go_wp2_with (first|(refine z0A rfl 128 _ rfl (z03 zsec) z2X ?_)|(refine z0d rfl _ _ rfl (w.heap.size+1) zsec rfl rfl bR z07 z07 ?_))
    refine bodyPost_ret (z2a rfl rfl rfl (bR.setRow (cs':=z03 zsec)) z07) rfl ?_;exact⟨rfl,Below.setRow B0 (by omega) _⟩
   ·go_enter func196,ntmps196
    go_upto_region 1 with fail
    rw[←hw0];clear hw0;have cD:=bD.cells;have lD:=bD.lt;go_wp2_with (first|(refine z0A rfl 128 _ rfl (z03 zsec) z2X ?_)|(refine z0d rfl _ _ rfl (w.heap.size+1) zsec rfl rfl bR z07 z07 ?_))
    refine bodyPost_ret (z2a rfl rfl rfl (bR.setRow (cs':=z03 zsec)) z07) rfl ?_;exact⟨rfl,Below.setRow B0 (by omega) _⟩
  ·obtain⟨k,rfl⟩:=Int.eq_ofNat_of_zero_le (show 0≤a by omega)
   have hk:k<x.stable.length:=by omega
   have h0:x.atE (k:Int)=0:=z6L ho (by omega)
   have h:=z8P (C0:=C) (d0:=d) S x.stable.length c k x.taken x.power _ hk hhi w hSb (hsec k hk);have e1:stV (some ⟨S,0,none⟩) c C d x=.agg (z09 (.slice (some ⟨S,0,none⟩) x.stable.length c) (.slice C 0 d) x.taken x.power false):=by
    unfold stV;rw[hc,ho];rfl
   rw[e1];refine h.mono ?_;rintro e w' ⟨rfl,hb⟩;refine⟨?_,hb⟩
   rw[if_pos h0,h0,z7h hc];rfl
 ·rw[hbad 13 (zga ho a) (by decide)]
  rw[ho]at bD hw0;unfold stV;rw[ho];unfold z09 at *;clear hsec hhi hq hbad;go_enter func196,ntmps196
  go_upto_region 1 with fail
  rw[←hw0];clear hw0;have cD:=bD.cells;have lD:=bD.lt;go_wp2_with (first|(refine z0A rfl 128 _ rfl (z03 zsec) z2X ?_)|(refine z0d rfl _ _ rfl (w.heap.size+1) zsec rfl rfl bR z07 z07 ?_))
  refine bodyPost_ret (z2a rfl rfl rfl (bR.setRow (cs':=z03 zsec)) z07) rfl ?_;exact⟨rfl,Below.setRow B0 (by omega) _⟩
def z2h (x:DevS)(a:Int)(w:World)(e:Ending)(w':World):Prop:=
 e=.returned (.tuple #[.agg (frV (x.fr a)),.int .i64 (x.ge a)])∧Below w.heap.size w w'
theorem z8B (P:Nat→Prop)(A C:Option Addr)(c d:Nat)(x:DevS)(a:Int)(w:World)(hq:RSt w P A C x)(hs:x.Calm):
  Calls prog 132 #[stV A c C d x,.int .i64 a] w (z2h x a w):=by
 by_cases h0:x.atE a=0
 ·obtain⟨S,rfl,hSb,hsec⟩:=hq.sec;obtain⟨ho,ha⟩:x.off=false∧0≤a∧a<x.stable.length:=by
   have h1:Go.Proofs.YtejmknghkbobnaaGreatDoor.atE x.off x.stable.length a=0:=h0;refine⟨?_,z4m h1⟩
   cases ho:x.off
   ·rfl
   ·rw[ho]at h1;exact absurd (show (13:Int)=0 from h1) (by decide)
  have hc:x.cache=[]:=by rcases hs with h|h;exact h;rw[ho]at h;cases h
  obtain⟨k,rfl⟩:=Int.eq_ofNat_of_zero_le ha.1;have hk:k<x.stable.length:=by omega
  have hxs:=hq.ok.sec _ (zhQ hk);have hg:x.stable.getD k []=x.stable[k]:=by rw[zhw,zhx hk,Option.getD_some]
  have h:=zfm (C0:=C) (d0:=d) S x.stable.length c k x.taken x.power _ (by rw[hg];exact hxs.2) hk hq.ok.hi w hSb (hsec k hk)
  have e1:stV (some ⟨S,0,none⟩) c C d x=.agg (z09 (.slice (some ⟨S,0,none⟩) x.stable.length c) (.slice C 0 d) x.taken x.power false):=by
   unfold stV;rw[hc,ho];rfl
  rw[e1];refine h.mono ?_;rintro e w' ⟨hb,rfl⟩;refine⟨?_,hb⟩
  have hgf:=zfB x (k:Int);have h2:x.get (k:Int)=(z1g k (x.stable.getD k []),z5O k (x.stable.getD k [])):=by
   unfold DevS.get getE getV;have h1:Go.Proofs.YtejmknghkbobnaaGreatDoor.atE x.off x.stable.length (k:Int)=0:=h0;rw[if_pos h1,if_pos h1,z7h hc];rfl
  rw[h2]at hgf;simp only[Prod.mk.injEq]at hgf;rw[hgf.1,hgf.2]
 ·have hr:=fun w hq=>zbN P A C c d x a w hq hs
  have hge:x.ge a=x.atE a:=by
   show getE x.off x.stable.length a (x.reads a)=_
   unfold getE;exact if_neg h0
  have hfr:frV (x.fr a)=#[Value.int .i64 0,Value.int .u32 0,Value.string ⟨#[]⟩]:=by
   unfold DevS.fr;rw[hge,if_neg h0];rfl
  have hP:z2h x a w=fun e w'=>e=.returned (.tuple #[.agg #[Value.int .i64 0,Value.int .u32 0,Value.string ⟨#[]⟩],.int .i64 (x.atE a)])∧Below w.heap.size w w':=by
   funext e w'
   unfold z2h;rw[hge,hfr]
  rw[hP];obtain⟨w0,hw0⟩:∃w0,w0=(w.alloc (.cells (z09 (.slice A x.stable.length c) (.slice C x.cache.length d) x.taken x.power x.off) 34)).alloc (.cells #[Value.int .i64 0,Value.int .u32 0,Value.string ⟨#[]⟩] 190):=⟨_,rfl⟩;have bD:Blk w0 w.heap.size 34 (z09 (.slice A x.stable.length c) (.slice C x.cache.length d) x.taken x.power x.off):=by rw[hw0];exact(Blk.new _ _ _).alloc _
  have bR:Blk w0 (w.heap.size+1) 190 #[Value.int .i64 0,Value.int .u32 0,Value.string ⟨#[]⟩]:=by rw[hw0];exact Blk.new' (by simp)
  have B0:Below w.heap.size w w0:=by rw[hw0];(repeat' (first|with_reducible (first|exact zho _ _|assumption|refine zhp ?_ ?_ _|refine zhq ?_|refine z00 ?_ _|refine zhr ?_ ?_ _|exact zhT _)|omega|(simp;done)|(simp;omega)))
  have hz:=z0S;replace hr:=hr w0 (hq.below B0);unfold z4l at hr;rw[if_neg h0]at hr;generalize x.atE a=E at *;have hE:(E != 0)=true:=by simpa using h0
  clear hge hfr hP hq hs h0;unfold stV z09 at *;go_enter func132,ntmps132
  go_upto_region 1 with fail
  rw[←hw0];clear hw0;have cD:=bD.cells;have lD:=bD.lt;go_wp2_with fail
  refine hr.mono ?_;rintro e w1 ⟨rfl,hb1⟩;have bR1:=bR.belowAll hb1;have B1:=B0.trans (hb1.mono B0.size);have bT:Blk (w1.alloc (.cells (z03 zsec) 128)) w1.heap.size 128 (z03 zsec):=Blk.new _ _ _;clear cD lD;go_upto_region 2 with (refine z0d rfl _ _ rfl w1.heap.size zsec rfl rfl bT z07 z07 ?_)
  obtain⟨W2,hW2⟩:∃W2,W2=World.setRow (w1.alloc (.cells (z03 zsec) 128)) w1.heap.size (z03 zsec):=⟨_,rfl⟩;rw[←hW2];have hB2:Below w1.heap.size w1 W2:=by rw[hW2];exact Below.setRow ((zho _ _).alloc (zhT _) _) (zhT _) _
  have bR2:=bR1.belowAll hB2;have B2:Below w.heap.size w W2:=B1.trans (hB2.mono B1.size);clear hW2 hB2 bT;have cR:=bR2.cells;have fR:=bR2.free;have lR:=bR2.lt;go_wp2_with fail
  refine bodyPost_ret (v:=.tuple #[.agg #[Value.int .i64 0,Value.int .u32 0,Value.string ⟨#[]⟩],.int .i64 E]) (by simp[results,results132,go_sem,cR,lR]) rfl ?_
  exact⟨rfl,by (repeat' (first|with_reducible (first|exact zho _ _|assumption|refine zhp ?_ ?_ _|refine zhq ?_|refine z00 ?_ _|refine zhr ?_ ?_ _|exact zhT _)|omega|(simp;done)|(simp;omega)))⟩
open Go
inductive Tr where
 | done
 | take (k:Nat) (r:Tr)
 | one (k:Nat) (r:Tr)
 | fork (i j:Nat) (r1 r2:Tr)
 | last (k:Nat)
inductive Tf where
 | done
 | take (o:Oper) (r:Tf)
 | one (o:Oper) (r:Tf)
 | fork (o p:Oper) (r1 r2:Tf)
 | last (o:Oper)
def Tr.takes:List Nat→Tr→Tr
 | [],r=>r
 | k::t,r=>.take k (Tr.takes t r)
def Tr.fill (l:List Oper)(d:Oper):Tr→Tf
 | .done=>.done
 | .take k r=>.take (l.getD k d) (r.fill l d)
 | .one k r=>.one (l.getD k d) (r.fill l d)
 | .fork i j r1 r2=>.fork (l.getD i d) (l.getD j d) (r1.fill l d) (r2.fill l d)
 | .last k=>.last (l.getD k d)
def Tr.size:Tr→Nat
 | .done=>0
 | .take _ r=>r.size+1
 | .one _ r=>r.size+1
 | .fork _ _ r _=>r.size+1
 | .last _=>1
section
variable {P:Program}{ops:Array Oper}{Q:Exit→Act→World→Prop}{S:World→Prop}
def z3Q (P:Program)(ops:Array Oper)(Q:Exit→Act→World→Prop)(S:World→Prop):Tf→Act→World→Prop
 | .done,a,w=>Q .normal a w
 | .take o r,a,w=>∃v,YieldsIf P ops S o v a∧z3Q P ops Q S r (a.put o.dst v) w
 | .one o r,a,w=>o.wp P a w (fun a' w'=>S w'∧z3Q P ops Q S r a' w') Q
 | .fork o p r1 r2,a,w=>o.wp P a w (fun a' w'=>S w'∧z3Q P ops Q S r1 a' w') Q∧p.wp P a w (fun a' w'=>S w'∧z3Q P ops Q S r2 a' w') Q
 | .last o,a,w=>o.wp P a w (fun a' w'=>Q .normal a' w') Q
def z69 (ops:Array Oper)(T:Nat):Tr→Array Bool→Bool
 | .done,L=>decide (Region.ready .any ops L=[])
 | .take k r,L=>decide (k<ops.size)&&(Region.ready .any ops L).contains k&&Region.free .any ops L k&&((List.range ops.size).all fun j=>decide (j<T)||Region.waitsFor .any ops j k)&&z69 ops T r (L.setIfInBounds k true)
 | .one k r,L=>bare ops k&&decide (Region.ready .any ops L=[k])&&z69 ops T r (L.setIfInBounds k true)
 | .fork i j r1 r2,L=>bare ops i&&bare ops j&&decide (Region.ready .any ops L=[i,j]∨Region.ready .any ops L=[j,i])&&decide (r1.size=r2.size)&&z69 ops T r1 (L.setIfInBounds i true)&&z69 ops T r2 (L.setIfInBounds j true)
 | .last k,L=>bare ops k&&decide (Region.ready .any ops L=[k])&&decide (T≤k)&&decide (Region.ready .any ops (L.setIfInBounds k true)=[])
theorem z4D {l:List Oper}{d:Oper}{T:Nat}(hns:Region.noSelect l.toArray=true)(hQ:∀c a d v w,Q (.panic c) (Act.put a d v) w→Q (.panic c) a w):
  ∀(t:Tr) (L:Array Bool) (a:Act) (w:World),S w→z69 l.toArray T t L=true→z3Q P l.toArray Q S (t.fill l d) a w→anyS P l.toArray Q S T t.size L a w
 | .done,L,a,w,_,hB,h=>by
  simp only[z69,decide_eq_true_eq]at hB;exact⟨hB,h⟩
 | .take k r,L,a,w,hS,hB,h=>by
  simp only[z69,Bool.and_eq_true,decide_eq_true_eq]at hB;obtain⟨⟨⟨⟨h0,h1⟩,h2⟩,h3⟩,h4⟩:=hB;have h0:l.toArray[k]?=some (l.getD k d):=by
   have h0:k<l.length:=by simpa using h0
   simp[zhw,h0]
  obtain⟨v,hy,h⟩:=h;exact z7g h0 hns (fun j hj hjs=>by have:=List.all_eq_true.1 h3 j (List.mem_range.2 hjs);simp only[Bool.or_eq_true,decide_eq_true_eq]at this;rcases this with h|h;(exact absurd h (by omega));exact h) hQ _ L a w (Region.free_spec h0 h2) (by simpa using h1) hy hS (z4D hns hQ r _ _ _ hS h4 h)
 | .one k r,L,a,w,hS,hB,h=>by
  simp only[z69,Bool.and_eq_true,decide_eq_true_eq]at hB;obtain⟨⟨b1,h1⟩,h4⟩:=hB;refine⟨fun e=>(by rw[h1]at e;cases e),fun i hi=>?_⟩
  rw[h1]at hi;have hik:i=k:=by simpa using hi
  subst hik;refine z1w (z1O (d:=d) b1) b1 (Oper.wp_mono ?_ h);rintro a' w' ⟨s1,h'⟩;exact⟨fun _=>s1,z4D hns hQ r _ a' w' s1 h4 h'⟩
 | .fork i j r1 r2,L,a,w,hS,hB,h=>by
  simp only[z69,Bool.and_eq_true,decide_eq_true_eq]at hB;obtain⟨⟨⟨⟨⟨b1,b2⟩,h1⟩,hN⟩,m1⟩,m2⟩:=hB;obtain⟨H1,H2⟩:=h;have hmem:∀k,k∈Region.ready .any l.toArray L→k=i∨k=j:=fun k hk=>by
   rcases h1 with h1|h1
   ·rw[h1]at hk;simpa using hk
   ·rw[h1]at hk;simpa[or_comm]using hk
  refine⟨fun e=>(by rcases h1 with h1|h1<;>(rw[h1]at e;cases e)),fun k hk=>?_⟩
  rcases hmem k hk with e|e
  ·subst e;refine z1w (z1O (d:=d) b1) b1 (Oper.wp_mono ?_ H1);rintro a' w' ⟨s1,h'⟩;exact⟨fun _=>s1,z4D hns hQ r1 _ a' w' s1 m1 h'⟩
  ·subst e;refine z1w (z1O (d:=d) b2) b2 (Oper.wp_mono ?_ H2);rintro a' w' ⟨s1,h'⟩;refine⟨fun _=>s1,?_⟩
   rw[hN];exact z4D hns hQ r2 _ a' w' s1 m2 h'
 | .last k,L,a,w,hS,hB,h=>by
  simp only[z69,Bool.and_eq_true,decide_eq_true_eq]at hB;obtain⟨⟨⟨b1,h1⟩,hT⟩,h4⟩:=hB;refine⟨fun e=>(by rw[h1]at e;cases e),fun i hi=>?_⟩
  rw[h1]at hi;have hik:i=k:=by simpa using hi
  subst hik;refine z1w (z1O (d:=d) b1) b1 (Oper.wp_mono ?_ h);intro a' w' h';exact⟨fun hlt=>absurd hlt (by omega),⟨h4,h'⟩⟩
theorem z3y {id:Nat}{a:Act}{w:World}{o:Oper}{l:List Oper}(t:Tr)(T:Nat)(S:World→Prop)(hm:P.follows .mixedOrders=true)
  (hB:(Region.noSelect (o::l).toArray&&decide (t.size=(o::l).length)&&z69 (o::l).toArray T t (Array.replicate (o::l).length false))=true)
  (hQ1:∀c a t v w,Q (.panic c) (Act.put a (some t) v) w→Q (.panic c) a w) (hS:S w.drew)
  (h:z3Q P (o::l).toArray Q S (t.fill (o::l) o) a w.drew):(Code.region id (o::l).toArray true).wp P Q a w:=by
 have hQ:∀c a d v w,Q (.panic c) (Act.put a d v) w→Q (.panic c) a w:=fun c a d v w h=>by
  cases d with
  | none=>exact h
  | some t=>exact hQ1 c a t v w h
 simp only[Bool.and_eq_true,decide_eq_true_eq]at hB;obtain⟨⟨hns,hn⟩,hB⟩:=hB;refine wp_region_any hm ?_;have H:=z4D (P:=P) (Q:=Q) (S:=S) (T:=T) hns hQ t (Array.replicate (o::l).length false) a w.drew hS hB h;rw[hn]at H;have:=z6T _ _ _ _ H
 simpa using this
theorem z4z {o:Oper}{a:Act}{w:World}(h:∀K:Act→World→Prop,(∀a' w',Q .normal a' w'→K a' w')→o.wp P a w K Q):z3Q P ops Q S (.last o) a w:=h _ fun _ _ x=>x
theorem z2v {o:Oper}{r:Tf}{a:Act}{w:World}(hw:Region.wanted o (yielded ops a.tmps)=true)(v:Value)(hy:∀w,S w→(execOp a.eval o).run P w=.ok (.value v) w)(h:z3Q P ops Q S r (a.put o.dst v) w):z3Q P ops Q S (.take o r) a w:=
 ⟨v,.inl ⟨hw,hy⟩,h⟩
theorem z2P {o:Oper}{r:Tf}{a:Act}{w:World}(h:∀K:Act→World→Prop,(∀a' w',S w'→z3Q P ops Q S r a' w'→K a' w')→o.wp P a w K Q):z3Q P ops Q S (.one o r) a w:=h _ fun _ _ x y=>⟨x,y⟩
theorem z8Y {o p:Oper}{r1 r2:Tf}{a:Act}{w:World}
  (h1:∀K:Act→World→Prop,(∀a' w',S w'→z3Q P ops Q S r1 a' w'→K a' w')→o.wp P a w K Q) (h2:∀K:Act→World→Prop,(∀a' w',S w'→z3Q P ops Q S r2 a' w'→K a' w')→p.wp P a w K Q):z3Q P ops Q S (.fork o p r1 r2) a w:=
 ⟨h1 _ fun _ _ x y=>⟨x,y⟩,h2 _ fun _ _ x y=>⟨x,y⟩⟩
end
theorem zgJ (xs:List Int)(hx:xs.length=128)(w:World):
  (binOp .neq 128 (.agg (z03 xs)) (.agg (z03 xs))).run prog w=.ok (.bool false) w:=by
 have h:=zfh xs xs hx hx w;rw[run_eql_struct]at h;rw[run_neq_struct];cases e:(Op.equalIn 10000 128 (.agg (z03 xs)) (.agg (z03 xs))).run prog w with
 | ok b w'=>
  rw[e]at h;simp only[Result.andThen_ok,Result.ok.injEq,Value.bool.injEq,decide_true]at h;obtain⟨rfl,rfl⟩:=h;rfl
 | _=>rw[e]at h;cases h
theorem z3n {o:Oper}{a:Act}{p:Addr}{l:List Int}{w:World}(x:Operand)(ho:o.op=.load 128 x)(hx:a.eval x=.pointer (some p))(hs:SecAt w p l):(execOp a.eval o).run prog w=.ok (.value (.agg (z03 l))) w:=by
 unfold execOp;simp only[ho,hx,Instr.loadAt,Instr.sureAddr,Sem.run_bind,Sem.run_pure,Result.andThen_ok,hs.load]
end Go.Proofs.YtejmknghkbobnaaGreatDoor
