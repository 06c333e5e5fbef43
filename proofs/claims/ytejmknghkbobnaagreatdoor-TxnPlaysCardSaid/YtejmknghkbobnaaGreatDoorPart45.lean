import Derived.Test.YtejmknghkbobnaaGreatDoorPart00
import Derived.Test.YtejmknghkbobnaaGreatDoorPart44
import Derived.BigQuiet
import Derived.Test.YtejmknghkbobnaaGreatDoorPart29
import Derived.Test.YtejmknghkbobnaaGreatDoorPart22
import Derived.Test.YtejmknghkbobnaaGreatDoorPart24
import Derived.Test.YtejmknghkbobnaaGreatDoorPart21
import Derived.Test.YtejmknghkbobnaaGreatDoorPart01
set_option linter.unusedVariables false
set_option linter.unusedSimpArgs false
set_option maxRecDepth 100000
set_option maxHeartbeats 8000000
namespace Go.Proofs.YtejmknghkbobnaaGreatDoor
open Go.Proofs.Tryz
open Go.RowKit Go.Maps
structure StepV where
 wh:Int
 at_:Int
 kd:Int
 n:Int
 s:ByteArray
 A:Option Addr
 l:List Int
 c:Nat
def zgp (a:StepV):Array Value:=#[.int .u8 a.wh,.int .i64 a.at_,.int .i64 a.kd,.int .i64 a.n,.string a.s,.slice a.A a.l.length a.c]
def z5r (a:StepV):List Value:=[.int .u8 a.wh,.int .i64 a.at_,.int .i64 a.kd,.int .i64 a.n,.string a.s,.slice a.A a.l.length a.c]
structure StepOk (W:World)(a:StepV):Prop where
 wh:0≤a.wh∧a.wh≤255
 at_:-9223372036854775808≤a.at_∧a.at_≤9223372036854775807
 kd:-9223372036854775808≤a.kd∧a.kd≤9223372036854775807
 n:-9223372036854775808≤a.n∧a.n≤9223372036854775807
 list:Reads W a.A (a.l.map (.int .i64))
 cap:a.l.length≤a.c∧a.c≤maxLen
 str:a.s.size≤maxLen
theorem z80 {w:World}{A:Option Addr}{xs:List StepV}(h:Reads w A (xs.flatMap z5r)){k:Nat}(hk:k<xs.length):
  ∃b off,A=some ⟨b,off,none⟩∧b<w.heap.size∧w.cell? ⟨b,off+k*6,none⟩=some (.int .u8 xs[k].wh)∧w.cell? ⟨b,off+k*6+1,none⟩=some (.int .i64 xs[k].at_)∧w.cell? ⟨b,off+k*6+2,none⟩=some (.int .i64 xs[k].kd) ∧
   w.cell? ⟨b,off+k*6+3,none⟩=some (.int .i64 xs[k].n)∧w.cell? ⟨b,off+k*6+4,none⟩=some (.string xs[k].s)∧w.cell? ⟨b,off+k*6+5,none⟩=some (.slice xs[k].A xs[k].l.length xs[k].c):=by
 have hg:∀j,j<6→(xs.flatMap z5r)[k*6+j]?=(z5r xs[k])[j]?:=fun j hj=>z1r (f:=z5r) (m:=6) (fun _ _=>rfl) hj hk
 rcases h with h|⟨b,off,hA,hlt,hc⟩
 ·exfalso
  have:=hg 0 (by omega)
  rw[h]at this;simp[z5r]at this
 ·have g:∀j u,j<6→(z5r xs[k])[j]?=some u→w.cell? ⟨b,off+k*6+j,none⟩=some u:=fun j u hj hu=>by rw[Nat.add_assoc];exact hc _ _ ((hg j hj).trans hu)
  exact⟨b,off,hA,hlt,g 0 _ (by omega) rfl,g 1 _ (by omega) rfl,g 2 _ (by omega) rfl,g 3 _ (by omega) rfl,g 4 _ (by omega) rfl,g 5 _ (by omega) rfl⟩
def bigB (a:StepV):Bool:=decide (300<a.s.size)||decide (300<a.l.length)
def z7a (xs:List StepV):Bool:=xs.any bigB||decide (40<xs.length)
theorem zf9 (A:Option Addr)(c:Nat)(xs:List StepV)(hl:xs.length≤maxLen)(hs:∀a∈xs,a.s.size≤maxLen∧a.l.length≤maxLen)(w:World)(hR:Reads w A (xs.flatMap z5r)):
  Calls prog 5 #[.slice A xs.length c] w fun e w'=>e=.returned (.bool (z7a xs))∧Below w.heap.size w w':=by
 unfold maxLen at hl hs;go_enter func5,ntmps5
 go_wp2_with fail
 go_loopw [3] (fun q wr=>∃k:Nat,k≤xs.length∧q=.int .i64 k∧(∀a∈xs.take k,bigB a=false)∧Below w.heap.size w wr) (fun q _=>xs.length - (RowKit.intOf q).toNat)
 case atStart=>exact⟨0,zi9 _,rfl,fun _ h=>by simp at h,zho _ _⟩
 case round=>
  obtain⟨k,hk,rfl,hn,hb⟩:=hrel;by_cases hlt:k<xs.length
  ·obtain⟨b,off,rfl,hbl,-,-,-,-,c4,c5⟩:=z80 (hR.below hb) hlt;have hm:=zhQ hlt;have hsz:=hs _ hm;have HT:Hid (xs.take (k+1)=xs.take k++[xs[k]]):=zhs (zhE hlt);generalize xs[k]=a at *;obtain⟨wh,at_,kd,n,s,A,l,ca⟩:=a;simp only at c4 c5 hsz
   have HM:=zhs hm;have HN:=zhs hn;have HR:=zhs hR;have HS:=zhs hs;clear hm hn hR hs;by_cases h1:300<s.size
   ·have d1:decide ((300:Int)<(s.size:Int))=true:=decide_eq_true (by omega)
    have HV:Hid (z7a xs=true):=zhs (by unfold z7a;rw[List.any_eq_true.2 ⟨_,HM.out,by unfold bigB;simp[h1]⟩];rfl)
    clear h1;go_wp2_with fail
    go_ret
    exact⟨by rw[HV.out];rfl,hb⟩
   ·have d1:decide ((300:Int)<(s.size:Int))=false:=decide_eq_false (by omega)
    by_cases h2:300<l.length
    ·have d2:decide ((300:Int)<(l.length:Int))=true:=decide_eq_true (by omega)
     have HV:Hid (z7a xs=true):=zhs (by unfold z7a;rw[List.any_eq_true.2 ⟨_,HM.out,by unfold bigB;simp[h2]⟩];rfl)
     clear h1 h2;go_wp2_with fail
     go_ret
     exact⟨by rw[HV.out];rfl,hb⟩
    ·have d2:decide ((300:Int)<(l.length:Int))=false:=decide_eq_false (by omega)
     have HB:Hid (bigB ⟨wh,at_,kd,n,s,A,l,ca⟩=false):=zhs (by unfold bigB;simp[h1,h2])
     clear h1 h2;go_wp2_with fail
     go_roundw
     case rel=>exact⟨k+1,by omega,by go_num,fun a ha=>by
      rw[HT.out]at ha;rcases zi0.1 ha with ha|ha
      ·exact HN.out a ha
      ·simp only[zi4]at ha;rw[ha];exact HB.out,hb⟩
     case measure=>simp[RowKit.intOf];omega
  ·obtain rfl:k=xs.length:=by omega
   have HV:Hid (z7a xs=decide ((40:Int)<(xs.length:Int))):=zhs (by
    unfold z7a;rw[zia]at hn;have:xs.any bigB=false:=by
     rw[List.any_eq_false];intro a ha;rw[hn a ha];simp
    rw[this,Bool.false_or];by_cases h:40<xs.length
    ·rw[decide_eq_true h,decide_eq_true (by omega)]
    ·rw[decide_eq_false h,decide_eq_false (by omega)])
   clear hn;go_wp2_with fail
   go_ret
   exact⟨by rw[HV.out];rfl,hb⟩
def TxS.step (y:TxS)(a:StepV):TxS:=
 if a.wh % 9<3 then (y.write a.at_ a.kd a.s).2 else if a.wh % 9=4 then (y.take a.at_ a.n).2 else if a.wh % 9=5 then (y.free a.l).2 else y
theorem zcr {y:TxS}(h:y.Clean)(a:StepV):(y.step a).Clean:=by
 unfold TxS.step;split
 ·exact h.write _ _ _
 ·split
  ·exact h.take _ _
  ·split
   ·exact h.free _
   ·exact h
structure TxS.Like (y z:TxS):Prop where
 s:z.s=y.s
 j:z.j=y.j
 i:z.i=y.i
 was:z.was=y.was
 ended : z.ended = y.ended
theorem TxS.Like.refl (y:TxS):y.Like y:=⟨rfl,rfl,rfl,rfl,rfl⟩
theorem z5Z (y:TxS)(us:List Bool)(n:Nat):y.Like (y.change us n):=by
 unfold TxS.change;split
 ·exact .refl y
 ·split
  ·exact .refl y
  ·exact⟨rfl,rfl,rfl,rfl,rfl⟩
theorem zbW (y:TxS)(a k:Int)(d:ByteArray):y.Like (y.write a k d).2:=by
 unfold TxS.write;split
 ·exact .refl y
 ·split
  ·exact⟨rfl,rfl,rfl,rfl,rfl⟩
  ·exact⟨rfl,rfl,rfl,rfl,rfl⟩
theorem zdm (y:TxS)(a n:Int):y.Like (y.take a n).2:=by
 unfold TxS.take;split
 ·exact .refl y
 ·split
  ·exact⟨rfl,rfl,rfl,rfl,rfl⟩
  ·exact z5Z _ _ _
theorem zeg (y:TxS)(l:List Int):y.Like (y.free l).2:=by
 unfold TxS.free;split
 ·exact .refl y
 ·split
  ·exact⟨rfl,rfl,rfl,rfl,rfl⟩
  ·exact z5Z _ _ _
theorem zd2 (y:TxS)(a:StepV):y.Like (y.step a):=by
 unfold TxS.step;split
 ·exact zbW _ _ _ _
 ·split
  ·exact zdm _ _ _
  ·split
   ·exact zeg _ _
   ·exact .refl y
def zgZ (w0 w:World)(T:Nat)(F:List Nat)(D:Nat)(y:TxS)(B:List Nat)(x:DevS)(e:Ending)(w':World):Prop:=
 e=.returned (.bool true)∧∃F',Play w0 w' T F' D y B x∧Grow w (F++B) w' (F'++B)
section
variable {w0 w:World}{T:Nat}{F:List Nat}{D:Nat}{y:TxS}{B:List Nat}{x:DevS}
end
theorem zbE {x:DevS}{F Z:Int}(h:(x.look F Z).1=0):8≤Z∧Z≤96∧0≤F∧F≤256 - Z:=by
 unfold DevS.look at h;by_cases h0:(x.head F Z).1=0
 ·unfold DevS.head at h0;by_cases hc:z0p F Z=0
  ·exact z1e hc
  ·rw[if_pos hc]at h0;exact absurd h0 hc
 ·rw[if_pos h0]at h;exact absurd h h0
def z5R (w:World)(D:Nat)(B:List Nat)(p:Int × Int × DevS)(e:Ending)(w':World):Prop:=
 e=.returned (.tuple #[.int .i64 p.1,.int .i64 p.2.1])∧∃B',DevAt w' D B' p.2.2∧Grow w B w' B'
theorem zcn (D:Nat)(F Z:Int)(B:List Nat)(x:DevS)(w:World)(h:DevAt w D B x):
  Calls prog 60 #[.pointer (some ⟨D,0,none⟩),.agg #[.int .i64 F,.int .i64 Z]] w (z5R w D B (x.replay F Z)):=by
 have bJ:Blk (w.alloc (.cells #[.int .i64 F,.int .i64 Z] 109)) w.heap.size 109 #[.int .i64 F,.int .i64 Z]:=Blk.new _ _ _;have BA:Below w.heap.size w (w.alloc (.cells #[.int .i64 F,.int .i64 Z] 109)):=(zho _ _).alloc (zhT _) _;have hlook:=zat D F Z B x _ (h.below BA);have hrok:=z7C x F Z;have hsq:=z89 x F Z;have hck:=@zbE x F Z;have cJ:=bJ.cells;have lJ:=bJ.lt;have HA:=show x.replay F Z=if (x.look F Z).1≠0 then (0,(x.look F Z).1,x)else
  if (x.look F Z).2.2.2=true then (if (x.ac F Z (x.look F Z).2.1 (x.look F Z).2.2.1).1≠0 then (0,x.ac F Z (x.look F Z).2.1 (x.look F Z).2.2.1)else (((x.look F Z).2.2.1.length:Int),x.ac F Z (x.look F Z).2.1 (x.look F Z).2.2.1))else
  if (x.stale F Z (x.look F Z).2.1).1≠0 then (0,(x.stale F Z (x.look F Z).2.1).1,x)else
  if (x.stale F Z (x.look F Z).2.1).2=true then (0,x.clear F Z)else (0,0,x)from rfl
 generalize x.look F Z=lk at *;obtain⟨E,q,R,wh⟩:=lk;simp only at hrok hsq HA hlook hck
 have HAp:=zhs HA;have H0:=zhs h;clear HA;have hl1:=hrok.1;unfold z5R;go_enter func60,ntmps60
 go_wp2_with fail
 refine hlook.mono ?_;rintro e w1 ⟨hb1,A,c,rfl,hR1,hAb⟩;have B1:=BA.trans (hb1.mono BA.size);have bJ1:=bJ.belowAll hb1;have hAB:∀ad,A=some ad→ad.block∉B:=fun ad e=>H0.out.far (by have:=hAb ad e;have:=BA.size;omega)
 clear hlook hb1 cJ lJ h bJ;by_cases hE:E=0
 rotate_left
 ·have HL:Hid (x.replay F Z=(0,E,x)):=zhs (by rw[HAp.out,if_pos hE])
  have hE':(E != 0)=true:=by simpa using hE
  clear hE HAp hck;go_wp2_with fail
  go_ret2
  exact⟨by rw[HL.out];rfl,B,by rw[HL.out];exact(H0.out.below B1).alloc _,Grow.of_below (B1.alloc B1.size _) B⟩
 subst hE;have HCK:=zhs (hck rfl);clear hck;have bX:Blk (w1.alloc (.cells #[.int .u32 q,.slice A R.length c,.bool wh] 216)) w1.heap.size 216 #[.int .u32 q,.slice A R.length c,.bool wh]:=Blk.new _ _ _;have bJ2:=bJ1.alloc (.cells #[.int .u32 q,.slice A R.length c,.bool wh] 216);have B2:=B1.alloc B1.size (.cells #[.int .u32 q,.slice A R.length c,.bool wh] 216);have hR2:=Reads.alloc hR1 (.cells #[.int .u32 q,.slice A R.length c,.bool wh] 216);have nX:w1.heap.size∉B:=H0.out.far B1.size;have nJ:w.heap.size∉B:=H0.out.far (zhT _);obtain⟨w2,hw2⟩:∃w2,w2=w1.alloc (.cells #[.int .u32 q,.slice A R.length c,.bool wh] 216):=⟨_,rfl⟩;obtain⟨XB,hXB⟩:∃XB,XB=w1.heap.size:=⟨_,rfl⟩;rw[←hw2]at bX bJ2 B2 hR2;rw[←hXB]at bX nX;clear bJ1 B1 hR1;go_upto_region 4 with fail
 rw[←hw2,←hXB];clear hw2 hXB;have hd2:=H0.out.below B2;have cX:=bX.cells;have lX:=bX.lt;cases wh
 ·
  obtain⟨hZ8,hZ96,hF0,hFZ⟩:=HCK.out;obtain⟨z,rfl⟩:=Int.eq_ofNat_of_zero_le (a:=Z) (by omega)
  have HL1:Hid (x.replay F z=if (x.stale F z q).1≠0 then (0,(x.stale F z q).1,x)else if (x.stale F z q).2=true then (0,x.clear F z)else (0,0,x)):=zhs (by rw[HAp.out,if_neg (by simp),if_neg (by simp)])
  have hst:=ze0 D F z q hsq (by omega) (by omega) B x w2 hd2
  obtain⟨s,hs⟩:∃s,x.stale F z q=s:=⟨_,rfl⟩;rw[hs]at hst HL1;clear hs HAp HCK;obtain⟨se,sb⟩:=s;simp only at hst
  have cJ:=bJ2.cells;have lJ:=bJ2.lt;go_wp2_with fail
  refine hst.mono ?_;rintro e w3 ⟨rfl,hb3⟩;have B3:=B2.trans (hb3.mono B2.size);have bJ3:=bJ2.belowAll hb3;have hd3:=hd2.below hb3;have cJ:=bJ3.cells;have lJ:=bJ3.lt;clear hst hb3 cX lX;by_cases hse:se=0
  rotate_left
  ·have HL:Hid (x.replay F z=(0,se,x)):=zhs (by rw[HL1.out,if_pos hse])
   have d1:(se==0)=false:=by simpa using hse
   have d2:(se != 0)=true:=by simpa using hse
   clear hse HL1;go_wp2_with fail
   go_ret2
   exact⟨by rw[HL.out];rfl,B,by rw[HL.out];exact hd3,Grow.of_below B3 B⟩
  subst hse;cases sb
  ·have HL:Hid (x.replay F z=(0,0,x)):=zhs (by rw[HL1.out,if_neg (by simp),if_neg (by simp)])
   clear HL1;go_wp2_with fail
   go_ret2
   exact⟨by rw[HL.out];rfl,B,by rw[HL.out];exact hd3,Grow.of_below B3 B⟩
  ·have HL:Hid (x.replay F z=(0,x.clear F z)):=zhs (by rw[HL1.out,if_neg (by simp),if_pos rfl])
   have hcl:=z6U D F z B x w3 hd3;obtain⟨p,hp⟩:∃p,x.clear F z=p:=⟨_,rfl⟩;rw[hp]at hcl HL;clear HL1 hp;go_wp2_with fail
   refine hcl.mono ?_;rintro e w4 ⟨rfl,B4,hd4,hg4⟩;have gF:=(Grow.of_below B3 B).trans hg4;clear hcl cJ lJ;by_cases hp0:p.1=0
   ·have HP:=zhs hp0;have d2:(p.1 != 0)=false:=by simpa using hp0
    clear hp0;go_wp2_with fail
    go_ret2
    exact⟨by rw[HL.out,HP.out];rfl,B4,by rw[HL.out];exact hd4,gF⟩
   ·have d2:(p.1 != 0)=true:=by simpa using hp0
    clear hp0;go_wp2_with fail
    go_ret2
    exact⟨by rw[HL.out];rfl,B4,by rw[HL.out];exact hd4,gF⟩
 ·
  have HL1:Hid (x.replay F Z=if (x.ac F Z q R).1≠0 then (0,x.ac F Z q R)else ((R.length:Int),x.ac F Z q R)):=zhs (by rw[HAp.out,if_neg (by simp),if_pos rfl])
  have HAC:Hid (x.ac F Z q R=if (x.applies q R).1≠0 then x.applies q R else (x.applies q R).2.clear F Z):=zhs rfl
  obtain⟨p,hp⟩:∃p,x.applies q R=p:=⟨_,rfl⟩;rw[hp]at HAC;have HP1:=zhs hp;have hS:∀W,Below w2.heap.size w2 W→W.cell? ⟨XB,0,none⟩=some (.int .u32 q)∧W.cell? ⟨XB,1,none⟩=some (.slice A R.length c)∧W.cell? ⟨XB,2,none⟩=some (.bool true):=fun W hW=>by
   have c:=(bX.belowAll hW).cells;exact⟨(c 0).trans rfl,(c 1).trans rfl,(c 2).trans rfl⟩
  have HS:=zhs hS;clear hS HAp hp HCK;go_upto_region 6 with fail
  go_cut [4,5]from 21 to 26 (fun s4 s5 wx=>s4=.int .i64 R.length∧s5=.int .i64 p.1∧∃B',DevAt wx D B' p.2∧Grow w B wx B'∧Blk wx w.heap.size 109 #[.int .i64 F,.int .i64 Z])
  case first=>
   as_aux_lemma=>
    clear cX lX;refine z06 [.take 0,.take 1,.take 2,.take 3,.take 4,.one 5,.take 6,.take 7] 8 (fun W=>W.cell? ⟨XB,0,none⟩=some (.int .u32 q)∧W.cell? ⟨XB,1,none⟩=some (.slice A R.length c)∧W.cell? ⟨XB,2,none⟩=some (.bool true)) (by kernel_rfl) (by kernel_rfl) (fun _ _ _ _ _ h=>h) (HS.out _ (zho _ _).drew) ?_
    simp only[zhY,zhZ,Ms.fill,zhy,zhz];iterate 5 (refine z04 (by rfl) ?_ (fun w' hw'=>?_) ?_;rotate_left;(focus (go_simp;(try with_reducible rfl)));(try simp only[Act.put,zht,zhu,zhv]))
    refine z05 (by rfl) fun K hK=>?_
    go_simp;have hap:=zaZ D q hsq true B x A c R hrok w2.drew (hd2.below (zho _ _).drew) hR2 hAB;rw[HP1.out]at hap;refine hap.mono ?_;rintro e w3 ⟨rfl,B3,hd3,hg3⟩;have gF:=((Grow.of_below B2 B).trans (Grow.of_below (zho _ _).drew B)).trans hg3;have bX3:=hg3.blk (bX.drew) nX;have bJ3:=hg3.blk (bJ2.drew) nJ;have c3:=bX3.cells;refine hK _ _ (fun _=>⟨(c3 0).trans rfl,(c3 1).trans rfl,(c3 2).trans rfl⟩) ?_
    clear hK K hap c3;iterate 2 (refine z04 (by rfl) ?_ (fun w' hw'=>?_) ?_;rotate_left;(focus (go_simp;(try with_reducible rfl)));(try simp only[Act.put,zht,zhu,zhv]))
    refine z0f ?_;go_wp2_with fail
    go_meet
    case rel=>exact⟨rfl,rfl,B3,hd3,gF,bJ3⟩
  case rest=>
   obtain⟨rfl,rfl,B3,hd3,hg3,bJ3⟩:=hcut;clear bX bJ2 B2 hR2 hd2 cX lX;have cJ:=bJ3.cells;have lJ:=bJ3.lt;by_cases hp0:p.1=0
   rotate_left
   ·have HL:Hid (x.replay F Z=(0,p)):=zhs (by
     have e:x.ac F Z q R=p:=by rw[HAC.out,if_pos hp0]
     rw[HL1.out,e,if_pos hp0])
    have d1:(p.1==0)=false:=by simpa using hp0
    have d2:(p.1 != 0)=true:=by simpa using hp0
    clear hp0 HL1 HAC;go_wp2_with fail
    go_ret2
    exact⟨by rw[HL.out];rfl,B3,by rw[HL.out];exact hd3,hg3⟩
   have HL2:Hid (x.replay F Z=if (p.2.clear F Z).1≠0 then (0,p.2.clear F Z)else ((R.length:Int),p.2.clear F Z)):=zhs (by
    have e:x.ac F Z q R=p.2.clear F Z:=by rw[HAC.out,if_neg (by simpa using hp0)]
    rw[HL1.out,e])
   have d1:(p.1==0)=true:=by simpa using hp0
   have hcl:=z6U D F Z B3 p.2 wc hd3;obtain⟨p2,hp2⟩:∃p2,p.2.clear F Z=p2:=⟨_,rfl⟩;rw[hp2]at hcl HL2;clear hp2 hp0 HL1 HAC;go_wp2_with fail
   refine hcl.mono ?_;rintro e w4 ⟨rfl,B4,hd4,hg4⟩;have gF:=hg3.trans hg4;clear hcl cJ lJ;by_cases hp0:p2.1=0
   ·have HP:=zhs hp0;have HL:Hid (x.replay F Z=((R.length:Int),p2)):=zhs (by rw[HL2.out,if_neg (by simpa using hp0)])
    have d2:(p2.1 != 0)=false:=by simpa using hp0
    clear hp0;go_wp2_with fail
    go_ret2
    exact⟨by rw[HL.out,HP.out];rfl,B4,by rw[HL.out];exact hd4,gF⟩
   ·have HL:Hid (x.replay F Z=(0,p2)):=zhs (by rw[HL2.out,if_pos hp0])
    have d2:(p2.1 != 0)=true:=by simpa using hp0
    clear hp0;go_wp2_with fail
    go_ret2
    exact⟨by rw[HL.out];rfl,B4,by rw[HL.out];exact hd4,gF⟩
def z0O (D:Nat)(tp:Value)(tv:Array Value)(s j i:Int):Array Value:=(([Value.pointer (some ⟨D,0,none⟩),tp]:List Value)++tv.toList++([Value.int .i64 s,Value.int .i64 j,Value.int .i64 i]:List Value)).toArray
section
variable {W:World}{PB D:Nat}{t:TypeId}{tp:Value}{tv tv' sv:Array Value}{s j i:Int}
theorem z7z (h:tv.size=25):(z0O D tp tv s j i).size=30:=by unfold z0O;simp[h]
theorem zej:(z0O D tp tv s j i)[0]?=some (.pointer (some ⟨D,0,none⟩)):=by unfold z0O;simp
theorem z9F:(z0O D tp tv s j i)[1]?=some tp:=by unfold z0O;simp
theorem z84 (h:tv.size=25){k:Nat}(hk:k<25):(z0O D tp tv s j i)[2+k]?=tv[k]?:=by
 unfold z0O;rw[List.getElem?_toArray,zhA (by simp[h];omega),zhB (by simp)]
 simp
theorem zgr (h:tv.size=25):(z0O D tp tv s j i)[27]?=some (.int .i64 s)∧(z0O D tp tv s j i)[28]?=some (.int .i64 j)∧(z0O D tp tv s j i)[29]?=some (.int .i64 i):=by
 have hl:([.pointer (some ⟨D,0,none⟩),tp]++tv.toList:List Value).length=27:=by simp[h]
 unfold z0O;refine⟨?_,?_,?_⟩<;>rw[List.getElem?_toArray,zhB (by rw[hl];decide),hl]<;>rfl
theorem zeI (h:tv.size=25)(h':sv.size=5):((z0O D tp tv s j i).toList.take 2++sv.toList++(z0O D tp tv s j i).toList.drop (2+sv.toList.length)).toArray=z0O D tp (tv.toList.take 0++sv.toList++tv.toList.drop (0+sv.toList.length)).toArray s j i:=by
 have h5:sv.toList.length=5:=by simpa using h'
 have h25:tv.toList.length=25:=by simpa using h
 unfold z0O;simp only[List.toList_toArray,zi2,zi3,zi8,h5];rw[List.append_assoc,List.take_append_of_le_length (by simp),show 2+5=7 from rfl,List.drop_append (i:=7)]
 simp only[List.drop_append,zhO,zhP,List.append_assoc,h25,List.take_of_length_le (show [Value.pointer (some ⟨D,0,none⟩),tp].length≤2 by simp)]
 simp[h]
theorem ze1 (h:tv.size=25)(h':tv'.size=25):((z0O D tp tv s j i).toList.take 2++tv'.toList++(z0O D tp tv s j i).toList.drop (2+tv'.toList.length)).toArray=z0O D tp tv' s j i:=by
 have h5:tv'.toList.length=25:=by simpa using h'
 have h25:tv.toList.length=25:=by simpa using h
 unfold z0O;simp only[List.toList_toArray,h5];rw[List.append_assoc,List.take_append_of_le_length (by simp)]
 simp only[List.drop_append,zhO,zhP,List.append_assoc,h25,List.take_of_length_le (show [Value.pointer (some ⟨D,0,none⟩),tp].length≤2 by simp)]
 simp[h25]
theorem zfa (v:Value):(z0O D tp tv s j i).setIfInBounds 1 v=z0O D v tv s j i:=by
 unfold z0O;simp
theorem zgc (w:World):(isAgg 50).run prog w=.ok true w:=by kernel_rfl
theorem z67 (b:Blk W PB t (z0O D tp tv s j i))(h:tv.size=25):(Instr.loadAt 50 (.pointer (some ⟨PB,2,none⟩))).run prog W=.ok (.agg tv) W:=by
 have hl:tv.toList.length=25:=by simpa using h
 have:=z0P (P:=prog) (ty:=50) (vs:=tv.toList) (b.at_ 2 _ fun k u hu=>by
  rw[z84 h (by have:=(zhM.1 hu).1;omega)]
  simpa using hu) (zgc W) (by rw[hl];kernel_rfl)
 simpa using this
theorem z3x (b:Blk W PB t (z0O D tp tv s j i))(h:tv.size=25):(Instr.loadAt 34 (.pointer (some ⟨PB,2,none⟩))).run prog W=.ok (.agg (tv.toList.take 5).toArray) W:=by
 have hl:(tv.toList.take 5).length=5:=by rw[zi6];simp[h]
 refine z0P (vs:=tv.toList.take 5) (b.at_ 2 _ fun k u hu=>?_) (zgI W) (by rw[hl];kernel_rfl)
 rw[z84 h (by have:=(zhM.1 hu).1;omega)]
 rw[List.getElem?_take]at hu;split at hu
 ·simpa using hu
 ·cases hu
theorem z4U (b:Blk W PB t (z0O D tp tv s j i))(h:tv.size=25)(h':sv.size=5)(h1:sv.all (·.oneCell')=true):
  (Instr.storeAt 34 (.pointer (some ⟨PB,2,none⟩)) (.agg sv)).run prog W=.ok () (W.setRow PB (z0O D tp (tv.toList.take 0++sv.toList++tv.toList.drop (0+sv.toList.length)).toArray s j i)):=by
 rw[←zeI h h'];exact z2b (ty:=34) (o:=2) (vs:=sv) b (by rw[h',z7z h];decide) h1 (by rw[h'];kernel_rfl)
theorem z4V (b:Blk W PB t (z0O D tp tv s j i))(h:tv.size=25)(h':tv'.size=25)(h1:tv'.all (·.oneCell')=true):
  (Instr.storeAt 50 (.pointer (some ⟨PB,2,none⟩)) (.agg tv')).run prog W=.ok () (W.setRow PB (z0O D tp tv' s j i)):=by
 rw[←ze1 h h'];exact z2b (ty:=50) (o:=2) (vs:=tv') b (by rw[h',z7z h];decide) h1 (by rw[h'];kernel_rfl)
end
def Far (G:List Nat)(b:Nat):Prop:=b∉G
section
variable {w w':World}{G G':List Nat}{x:DevS}{y:TxS}{tv sv:Array Value}
theorem Far.new (h:∀b∈G,b<w.heap.size):∀b,w.heap.size≤b→Far G b:=fun b hb hm=>by have:=h b hm;omega
theorem RTx.grow (h:RTx w (Far G) x y tv)(g:Grow w G w' G'):RTx w' (Far G') x y tv:=
 ((h.mono (Q:=fun b=>Far G b∧Far G' b) fun _ h1 h2=>⟨h1,g.notin h1 h2⟩).frame (fun b hb hl=>g.keep.block b hl hb.1) g.keep.size).mono fun _ h1 _=>h1.2
theorem RSv.grow (h:RSv w (Far G) x sv)(g:Grow w G w' G'):RSv w' (Far G') x sv:=
 ((h.mono (Q:=fun b=>Far G b∧Far G' b) fun _ h1 h2=>⟨h1,g.notin h1 h2⟩).frame (fun b hb hl=>g.keep.block b hl hb.1) g.keep.size).mono fun _ h1 _=>h1.2
end
section
variable {w0 w:World}{T:Nat}{F:List Nat}{D:Nat}{y:TxS}{B:List Nat}{x:DevS}
theorem z5f (h:Play w0 w T F D y B x)(hc:y.Clean):
  Calls prog 16 #[.pointer (some ⟨T,0,none⟩)] w fun e w'=>(y.stateE≠0∧e=.returned (.int .i64 y.stateE)∧Play w0 w' T F D y B x∧Grow w (F++B) w' (F++B))∨(y.stateE=0∧e=.returned (.int .i64 (y.commit x).1)∧∃B',Play w0 w' T F D y.end_ B' (y.commit x).2∧Grow w (F++B) w' (F++B')):=by
 by_cases hE:y.stateE=0
 ·refine(z8V T F D y B x w h.td hc hE).mono ?_;rintro e w' ⟨he,B',ht,g⟩;exact .inr ⟨hE,he,B',h.keep ht g,g⟩
 ·refine(z95 _ _ w h.td.tx.st hE).mono ?_;rintro e w' ⟨he,hb⟩;exact .inl ⟨hE,he,h.below hb,Grow.of_below hb _⟩
def TxS.abortR (y:TxS):Int × TxS:=if y.ended then (9,y)else (0,y.end_)
theorem zad (h:Play w0 w T F D y B x):
  Calls prog 17 #[.pointer (some ⟨T,0,none⟩)] w (z5w w0 w T F D y.abortR.1 y.abortR.2 B x):=by
 unfold TxS.abortR;by_cases he:y.ended=true
 ·simp only[if_pos he];refine(z65 T F D y w h.td.tx he).mono ?_;rintro e w' ⟨rfl,rfl⟩;exact⟨rfl,F,h,Grow.refl _ _⟩
 ·simp only[if_neg he];exact z7c h (by simpa using he)
end
theorem zep (D:Nat)(B:List Nat)(x:DevS)(w:World)(h:DevAt w D B x)(n:Int)(hn:1000000000000<n):
  Calls prog 19 #[.pointer (some ⟨D,0,none⟩),.int .i64 n] w fun e w'=>e=.returned (.int .i64 7)∧w'=w:=by
 obtain⟨S,c,M,cv,m,-⟩:=h.mem;have bD:=m.dev;have hok:=z2W D S x.stable.length c cv x.taken x.power x.off M w bD;unfold devC at bD;have c3:w.cell? ⟨D,3,none⟩=some (.int .i64 x.power):=(bD.cells 3).trans rfl;have lD:=bD.lt;have fD:=bD.free;have d1:decide (n < -1)=false:=decide_eq_false (by omega)
 have d2:decide (n > 1000000000000)=true:=decide_eq_true (by omega)
 have d3:decide (1000000000000<n)=true:=decide_eq_true (by omega)
 clear bD m;go_enter func19,ntmps19
 go_wp2_with fail
 refine hok.mono ?_;rintro e w1 ⟨rfl,rfl⟩;go_wp2_with fail
 go_ret
 exact⟨rfl,rfl⟩
theorem zee {w:World}{P:Nat→Prop}{base:Nat}{x:DevS}{sv cv:Value}(ok:x.Ok)(o1:w.ownsRow base 128 128 sv x.stable.length (x.stable.flatMap secV))(o2:w.ownsRow base 130 129 cv x.cache.length (x.cache.flatMap dwV))(hP:∀b,base≤b→P b):
  RSv w P x (z09 sv cv x.taken x.power x.off):=by
 obtain⟨A,c,rfl⟩:=z0G o1;obtain⟨C,d,rfl⟩:=z0G o2;refine⟨A,c,C,d,rfl,ok,z1z o1 ?_,z1z o2 ?_,z2m o1 hP,.inr (z2m o2 hP)⟩
 ·exact z2B fun s hs=>(ok.sec s hs).1
 ·exact z5A fun p hp=>(ok.cac p hp).2.2.1
theorem zg3 {n S:Nat}(hn:64≤n∧n≤256){w:World}{P:Nat→Prop}{base:Nat}(o1:w.ownsRow base 128 128 (.slice (some ⟨S,0,none⟩) n n) n ((List.replicate n zsec).flatMap secV))(hP:∀b,base≤b→P b):
  RSv w P (z1a n) (z09 (.slice (some ⟨S,0,none⟩) n n) (.slice none 0 0) 0 (-1) false):=by
 have h:=zee (P:=P) (base:=base) (w:=w) (x:=z1a n) (sv:=.slice (some ⟨S,0,none⟩) n n) (cv:=.slice none 0 0) (z4C hn) (by
  show w.ownsRow base _ 128 _ (List.replicate n zsec).length _
  rw[zhG];exact o1) (World.ownsRow_nil _ _ _ _) hP
 exact h
theorem zc7 {x:DevS}{n:Nat}{s j i:Int}(h:z1d n x)(hc:x.Calm):z1d n (x.tfmt s j i).2∧(x.tfmt s j i).2.Calm:=by
 unfold DevS.tfmt;split
 ·exact⟨h,hc⟩
 ·rename_i h0
  obtain⟨hrg,hs⟩:=z36 (by simpa using h0)
  have hb:=z10 hrg;have hn:=h.2;have hck:z0p 1 j=0:=by unfold z0p;rw[if_neg (by omega)]
  obtain⟨h1,c1⟩:=z7y (F:=1) (Z:=j) h hc (by omega)
  split
  ·exact⟨h1,c1⟩
  ·exact z5h h1 c1 hck (by omega)
theorem zem {n:Nat}{s j i:Int}(h:((z1a n).tfmt s j i).1=0):rgE s j i=0∧(n:Int)=s∧((z1a n).tfmt s j i).2.off=false∧∀E,((z1a n).tfmt s j i).2.beginE s j i E→E=0:=by
 have hl:(z1a n).stable.length=n:=zhG;have h0:z0R (z1a n).stable.length s j i=0:=by
  by_cases h0:z0R (z1a n).stable.length s j i=0
  ·exact h0
  ·unfold DevS.tfmt at h;rw[if_pos h0]at h;exact absurd h h0
 obtain⟨hrg,hs⟩:=z36 h0;rw[hl]at hs;obtain⟨y,hy,hF⟩:=z5b hrg 1000 (by omega)
 rw[show s.toNat=n by omega]at hy
 refine⟨hrg,hs,by rw[hy];exact hF.runs.on,fun E hE=>?_⟩
 rw[hy]at hE;exact((z60 hrg hF).1 E).1 hE
theorem z8h {x:DevS}{n:Nat}{y:TxS}(h:z1d n x)(hc:x.Calm)(hrg:rgE y.s y.j y.i=0)(hn:(n:Int)=y.s):z1d n (y.commit x).2∧(y.commit x).2.Calm:=by
 have hb:=z10 hrg;have hck:z0p 1 y.j=0:=by unfold z0p;rw[if_neg (by omega)]
 unfold TxS.commit;split
 ·exact⟨h,hc⟩
 ·exact z5h h hc hck (by omega)
theorem z5j (x:DevS){s j i:Int}(hj:0≤j):(x.begins s j i).Clean:=⟨List.Pairwise.nil,fun _ h=>(by cases h),fun _ h=>(by cases h),hj⟩
theorem z99 {y:TxS}(h:y.Clean):y.end_.Clean:=⟨h.asc,h.out,h.small,h.j0⟩
def DevS.power_ (x:DevS)(j:Int):DevS:=if x.off then ((x.crashed []).replay 1 j).2.2 else x
theorem z3W {x:DevS}{n:Nat}{s j i:Int}(h:z1d n x)(hc:x.Calm)(hrg:rgE s j i=0)(hn:(n:Int)=s):z1d n (x.power_ j)∧(x.power_ j).Calm:=by
 have hb:=z10 hrg;have hck:z0p 1 j=0:=by unfold z0p;rw[if_neg (by omega)]
 unfold DevS.power_;split
 ·obtain⟨h1,c1⟩:=z9X (keep:=[]) h (fun i hi=>(by cases hi))
  exact z8s h1 c1 hck (by omega)
 ·exact⟨h,hc⟩
theorem bret {b b':Bool}(h:b=b'):Ending.returned (.bool b)=.returned (.bool b'):=by rw[h]
def z7P (s j i s' j' i':Int):Bool:=s==s'&&j==j'&&i==i'
theorem zeG (s j i s' j' i':Int)(A B:Option Addr)(c d:Nat)(xs ys:List Bool)(w:World)(hx:Reads w A (xs.map .bool))(hy:Reads w B (ys.map .bool))(hn:xs.length≤maxLen)(hm:ys.length≤maxLen):
  Calls prog 73 #[.agg #[.int .i64 s,.int .i64 j,.int .i64 i,.slice A xs.length c],.agg #[.int .i64 s',.int .i64 j',.int .i64 i',.slice B ys.length d]] w fun e w'=>
   e=.returned (.bool (z7P s j i s' j' i'&&decide (xs=ys)))∧Below w.heap.size w w':=by
 unfold maxLen at hn hm;by_cases h1:s=s'
 rotate_left
 ·have hf:z7P s j i s' j' i'=false:=by simp[z7P,h1]
  go_enter func73,ntmps73
  go_wp2
  all_goals (go_ret;exact⟨bret (by simp[z7P,h1]),by (repeat' (first|with_reducible (first|exact zho _ _|assumption|refine zhp ?_ ?_ _|refine zhq ?_|refine z00 ?_ _|refine zhr ?_ ?_ _|exact zhT _)|omega|(simp;done)|(simp;omega)))⟩)
 subst h1;by_cases h2:j=j'
 rotate_left
 ·skip
  go_enter func73,ntmps73
  go_wp2
  all_goals (go_ret;exact⟨bret (by simp[z7P,h2]),by (repeat' (first|with_reducible (first|exact zho _ _|assumption|refine zhp ?_ ?_ _|refine zhq ?_|refine z00 ?_ _|refine zhr ?_ ?_ _|exact zhT _)|omega|(simp;done)|(simp;omega)))⟩)
 subst h2;by_cases h3:i=i'
 rotate_left
 ·skip
  go_enter func73,ntmps73
  go_wp2
  all_goals (go_ret;exact⟨bret (by simp[z7P,h3]),by (repeat' (first|with_reducible (first|exact zho _ _|assumption|refine zhp ?_ ?_ _|refine zhq ?_|refine z00 ?_ _|refine zhr ?_ ?_ _|exact zhT _)|omega|(simp;done)|(simp;omega)))⟩)
 subst h3;have hLE:z7P s j i s j i=true:=by simp[z7P]
 have HLE:=zhs hLE;clear hLE;by_cases hl:xs.length=ys.length
 ·have hd:((xs.length:Int) != (ys.length:Int))=false:=by simp[hl]
  have HL:=zhs hl;clear hl;go_enter func73,ntmps73
  go_wp2
  obtain⟨W1,hW1⟩:∃W1,W1=(w.alloc (.cells #[.int .i64 s,.int .i64 j,.int .i64 i,.slice A xs.length c] 47)).alloc (.cells #[.int .i64 s,.int .i64 j,.int .i64 i,.slice B ys.length d] 47):=⟨_,rfl⟩;rw[←hW1];have b0:Blk W1 w.heap.size 47 #[.int .i64 s,.int .i64 j,.int .i64 i,.slice A xs.length c]:=by rw[hW1];exact(by (repeat' (first|(with_reducible assumption)|exact Blk.new' (by simp)|refine Blk.alloc ?_ _)))
  have b1:Blk W1 (w.heap.size+1) 47 #[.int .i64 s,.int .i64 j,.int .i64 i,.slice B ys.length d]:=by rw[hW1];exact(by (repeat' (first|(with_reducible assumption)|exact Blk.new' (by simp)|refine Blk.alloc ?_ _)))
  have hB1:Below w.heap.size w W1:=by rw[hW1];(repeat' (first|with_reducible (first|exact zho _ _|assumption|refine zhp ?_ ?_ _|refine zhq ?_|refine z00 ?_ _|refine zhr ?_ ?_ _|exact zhT _)|omega|(simp;done)|(simp;omega)))
  have hs1:W1.heap.size=w.heap.size+2:=by rw[hW1];simp
  clear hW1;go_loopw [5] (fun q wr=>∃k:Nat,k≤xs.length∧q=.int .i64 k∧xs.take k=ys.take k∧Below W1.heap.size W1 wr) (fun q _=>xs.length - (RowKit.intOf q).toNat)
  case atStart=>exact⟨0,zi9 _,rfl,rfl,zho _ _⟩
  case round=>
   obtain⟨k,hk,rfl,heq,hnx⟩:=hrel;have HEQ:=zhs heq;clear heq;have hBw:Below w.heap.size w wr:=hB1.trans (hnx.mono (by omega))
   have c0:=(b0.belowAll hnx).cells;have c1:=(b1.belowAll hnx).cells;by_cases hlt:k<xs.length
   ·have hlt2:k<ys.length:=by rw[←HL.out];exact hlt
    obtain⟨b,off,rfl,hb,hc⟩:=(hx.below hBw).at_ (k:=k) (by simpa using hlt)
    obtain⟨b2,off2,rfl,hb2,hc2⟩:=(hy.below hBw).at_ (k:=k) (by simpa using hlt2)
    rw[List.getElem_map]at hc hc2;have hs1:=zhs (zhE hlt);have hs2:=zhs (zhE hlt2);have hne:xs[k]≠ys[k]→xs≠ys:=fun h e=>by subst e;exact h rfl
    have HNE:=zhs hne;clear hne;generalize xs[k]=x at hc hs1 HNE;generalize ys[k]=y at hc2 hs2 HNE;by_cases hxy:x=y
    ·subst hxy;clear HNE;cases x
     all_goals
      go_wp2
      go_quiet (fail)
      go_wp2
      go_roundw
      case rel=>exact⟨k+1,by omega,by go_num,by rw[hs1.out,hs2.out,HEQ.out],by (repeat' (first|with_reducible (first|exact zho _ _|assumption|refine zhp ?_ ?_ _|refine zhq ?_|refine z00 ?_ _|refine zhr ?_ ?_ _|exact zhT _)|omega|(simp;done)|(simp;omega)))⟩
      case measure=>simp[RowKit.intOf];omega
    ·have HN:=zhs (HNE.out hxy);cases x<;>cases y<;>first|exact absurd rfl hxy|skip
     all_goals
      clear hxy HNE;go_wp2
      go_quiet (fail)
      go_wp2
      go_ret
      exact⟨bret (by simp[HN.out]),by (repeat' (first|with_reducible (first|exact zho _ _|assumption|refine zhp ?_ ?_ _|refine zhq ?_|refine z00 ?_ _|refine zhr ?_ ?_ _|exact zhT _)|omega|(simp;done)|(simp;omega)))⟩
   ·obtain rfl:k=xs.length:=by omega
    have hfin:xs=ys:=by
     have:=HEQ.out
     rwa [zia,HL.out,zia]at this
    have HF:=zhs hfin;clear hfin;go_wp2
    go_ret
    exact⟨bret (by rw[HLE.out];simp[HF.out]),hBw⟩
 ·have hd:((xs.length:Int) != (ys.length:Int))=true:=by simp;omega
  have HNE:=zhs (show xs≠ys from fun e=>hl (by rw[e]))
  clear hl;go_enter func73,ntmps73
  go_wp2
  go_ret
  exact⟨bret (by simp[HNE.out]),by (repeat' (first|with_reducible (first|exact zho _ _|assumption|refine zhp ?_ ?_ _|refine zhq ?_|refine z00 ?_ _|refine zhr ?_ ?_ _|exact zhT _)|omega|(simp;done)|(simp;omega)))⟩
end Go.Proofs.YtejmknghkbobnaaGreatDoor
