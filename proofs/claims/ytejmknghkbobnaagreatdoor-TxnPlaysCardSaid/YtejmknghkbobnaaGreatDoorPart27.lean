import Derived.Test.YtejmknghkbobnaaGreatDoorPart00
import Derived.Test.YtejmknghkbobnaaGreatDoorPart26
import Derived.Test.YtejmknghkbobnaaGreatDoorPart24
set_option linter.unusedVariables false
set_option linter.unusedSimpArgs false
set_option maxRecDepth 100000
set_option maxHeartbeats 8000000
namespace Go.Proofs.YtejmknghkbobnaaGreatDoor
open Go.Proofs.Tryz
open Go.RowKit Go.Maps
theorem RSv.zero {w:World}{P:Nat→Prop}{x:DevS}{sv:Array Value}(h:RSv w P x sv):∃A c,sv[0]?=some (.slice A x.stable.length c):=by
 obtain⟨A,c,C,d,rfl,h⟩:=h;exact⟨A,c,rfl⟩
theorem RunAt.take {w:World}{A:Option Addr}{l:List Rec}(h:RunAt w A l)(k:Nat):RunAt w A (l.take k):=by
 rcases h with h|⟨b,off,hA,hlt,hc⟩
 ·left
  have:l=[]:=by
   cases l with
   | nil=>rfl
   | cons r t=>simp[recV]at h
  subst this;simp
 ·refine .inr ⟨b,off,hA,hlt,fun j u hu=>hc j u ?_⟩
  have e:l.flatMap recV=(l.take k).flatMap recV++(l.drop k).flatMap recV:=by rw[←List.flatMap_append,List.take_append_drop]
  rw[e,zhA (zhM.1 hu).1];exact hu
theorem zfO {w:World}{P:Nat→Prop}{x:DevS}{sv:Array Value}(hq:RSv w P x sv)(F Z:Int)(hFZ:0≤F∧F≤256∧0≤Z∧Z≤256)(A:Option Addr)(c:Nat)(l:List Rec)(hlc:l.length≤c)(hok:z37 l)(hr:RunAt w A l):
  Calls prog 181 #[.agg sv,.agg #[.int .i64 F,.int .i64 Z],.slice A l.length c] w fun e w'=>e=.returned (.int .i64 (z0X x.stable.length F Z l))∧Below w.heap.size w w':=by
 have hhi:=hq.ok.hi;have hl1:=hok.1;obtain⟨A9,c9,hz9⟩:=hq.zero;obtain⟨w0,hw0⟩:∃w0,w0=(w.alloc (.cells sv 34)).alloc (.cells #[.int .i64 F,.int .i64 Z] 109):=⟨_,rfl⟩;have bD:Blk w0 w.heap.size 34 sv:=by rw[hw0];exact(Blk.new _ _ _).alloc _
 have bJ:Blk w0 (w.heap.size+1) 109 #[.int .i64 F,.int .i64 Z]:=by rw[hw0];exact Blk.new' (by simp)
 have B0:Below w.heap.size w w0:=by rw[hw0];(repeat' (first|with_reducible (first|exact zho _ _|assumption|refine zhp ?_ ?_ _|refine zhq ?_|refine z00 ?_ _|refine zhr ?_ ?_ _|exact zhT _)|omega|(simp;done)|(simp;omega)))
 have hmo:=z5X F Z (by omega) w0
 have hmz:z0Z Z≤80:=by unfold z0Z;omega
 clear hq;go_enter func181,ntmps181
 go_upto_region 1 with fail
 rw[←hw0];clear hw0;have cJ:=bJ.cells;have lJ:=bJ.lt;go_wp2_with fail
 refine hmo.mono ?_;rintro e w1 ⟨rfl,hb1⟩;have bD1:=bD.belowAll hb1;have bJ1:=bJ.belowAll hb1;have B1:=B0.trans (hb1.mono B0.size);clear hmo hb1 bJ bD cJ lJ B0;by_cases hm:z0Z Z<l.length
 ·have HE:Hid (z0X x.stable.length F Z l=12):=zhs (by unfold z0X;rw[if_pos hm])
  go_wp2_with fail
  go_ret
  exact⟨by rw[HE.out];rfl,B1⟩
 have HE:Hid (z0X x.stable.length F Z l=z0N x.stable.length F Z l l.length):=zhs (by unfold z0X;rw[if_neg hm])
 go_wp2_with fail
 clear hm;go_loopw [7] (fun q wr=>∃k:Nat,k≤l.length∧q=.int .i64 k∧z0N x.stable.length F Z l k=0∧Blk wr w.heap.size 34 sv∧Blk wr (w.heap.size+1) 109 #[.int .i64 F,.int .i64 Z]∧Below w.heap.size w wr) (fun q _=>l.length - (intOf q).toNat)
 case atStart=>exact⟨0,zi9 _,rfl,rfl,bD1,bJ1,B1⟩
 case round=>
  obtain⟨k,hk,rfl,hv,bDk,bJk,hB⟩:=hrel;by_cases hlt:k<l.length
  ·obtain⟨b,off,rfl,hbl,c0,c1,c2⟩:=RunAt.at_ (Reads.below hr hB) hlt;have HRT:=zhs (RunAt.take hr k);have hst:=z3K hv hlt;have hrk:=(hok.2 _ (zhQ hlt)).1;have hrs:=(hok.2 _ (zhQ hlt)).2;unfold maxLen at hrs;have HFI:Hid (z0N x.stable.length F Z l (k+1)≠0→z0N x.stable.length F Z l l.length=z0N x.stable.length F Z l (k+1)):=zhs (fun hne=>z4M hne (by omega))
   rw[hst]at HFI;have HST:=zhs hst;clear hst;generalize l[k]=r at *;obtain⟨av,kv,sx⟩:=r;simp only at c0 c1 c2 hrk hrs
   have hin:=z6c F Z av hFZ (wr.alloc (.cells #[.int .i64 av,.int .i64 kv,.string sx] 118));have HRE:Hid (recE x.stable.length F Z (l.take k) ⟨av,kv,sx⟩=if F≤av∧av<F+Z then 2 else if av<0∨(x.stable.length:Int)≤av∨kv<1∨255<kv then 7 else if 96<sx.size then 3 else if av∈(l.take k).map (·.at_)then 8 else 0):=zhs rfl
   have HV:=zhs hv;clear hv;have bR0:Blk (wr.alloc (.cells #[.int .i64 av,.int .i64 kv,.string sx] 118)) wr.heap.size 118 #[.int .i64 av,.int .i64 kv,.string sx]:=Blk.new _ _ _;have zr:=hB.size;have cJ:=bJk.cells;have lJ:=bJk.lt;go_wp2_with fail
   refine hin.mono ?_;rintro e w4 ⟨rfl,hb4⟩;have bR:=bR0.belowAll hb4;have bJ4:=(bJk.alloc (.cells #[.int .i64 av,.int .i64 kv,.string sx] 118)).belowAll hb4;have bD4:=(bDk.alloc (.cells #[.int .i64 av,.int .i64 kv,.string sx] 118)).belowAll hb4;have hB4:Below w.heap.size w w4:=(hB.alloc zr _).trans (hb4.mono (by simp;omega))
   clear hb4 hin bR0 c0 c1 c2 cJ lJ bJk bDk hB;have cR:=bR.cells;have lR:=bR.lt;have cD:w4.cell? ⟨w.heap.size,0,none⟩=some (.slice A9 x.stable.length c9):=(bD4.cells 0).trans hz9;have lD:=bD4.lt;by_cases hin:F≤av∧av<F+Z
   ·have hib:z0U F Z av=true:=by unfold z0U;simp;exact hin
    have HE2:Hid (recE x.stable.length F Z (l.take k) ⟨av,kv,sx⟩=2):=zhs (by rw[HRE.out,if_pos hin])
    rw[hib];clear hin hib;go_wp2_with fail
    go_ret
    exact⟨by rw[HE.out,HFI.out (by rw[HE2.out];decide),HE2.out];rfl,hB4⟩
   have hib:z0U F Z av=false:=by unfold z0U;simp;omega
   rw[hib];have HR2:=HRE.out;rw[if_neg hin]at HR2;have HRE:=zhs HR2;clear HR2 hin hib;by_cases hb:av<0∨(x.stable.length:Int)≤av∨kv<1∨255<kv
   ·have HE2:Hid (recE x.stable.length F Z (l.take k) ⟨av,kv,sx⟩=7):=zhs (by rw[HRE.out,if_pos hb])
    by_cases b1:av<0
    rotate_left;by_cases b2:(x.stable.length:Int)≤av
    rotate_left;by_cases b3:kv<1
    rotate_left;by_cases b4:255<kv
    rotate_left
    ·exfalso;omega
    all_goals
     clear hb;go_wp2_with fail
     go_ret
     exact⟨by rw[HE.out,HFI.out (by rw[HE2.out];decide),HE2.out];rfl,hB4⟩
   ·have HR2:=HRE.out;rw[if_neg hb]at HR2;have HRE:=zhs HR2;clear HR2;have d1:¬av<0:=by omega
    have d2:¬(x.stable.length:Int)≤av:=by omega
    have d3:¬kv<1:=by omega
    have d4:¬255<kv:=by omega
    clear hb;by_cases hs:96<sx.size
    ·have HE2:Hid (recE x.stable.length F Z (l.take k) ⟨av,kv,sx⟩=3):=zhs (by rw[HRE.out,if_pos hs])
     have hs':(96:Int)<sx.size:=by omega
     go_wp2_with fail
     go_ret
     exact⟨by rw[HE.out,HFI.out (by rw[HE2.out];decide),HE2.out];rfl,hB4⟩
    have hs':(sx.size:Int)≤96:=by omega
    have hs2:¬(96:Int)<sx.size:=by omega
    have hkc:(k:Int)≤c:=by omega
    have hk0:(k:Int)≤l.length:=by omega
    have hlk:(l.take k).length=k:=by rw[zi6];omega
    have hha:=fun (m:Nat)=>zax (some ⟨b,off,none⟩) c (l.take k) (by omega) av (w4.drewN m) (Reads.below HRT.out (z00 hB4 m))
    rw[hlk]at hha;by_cases hm:av∈(l.take k).map (·.at_)
    ·have HE2:Hid (recE x.stable.length F Z (l.take k) ⟨av,kv,sx⟩=8):=zhs (by rw[HRE.out,if_neg hs,if_pos hm])
     rw[decide_eq_true hm]at hha;clear hm hs;go_wp2_with fail
     go_quiet ((go_at_call 194;exact Calls.quiet_of_same (hha _)))
     go_wp2_with fail
     go_ret
     exact⟨by rw[HE.out,HFI.out (by rw[HE2.out];decide),HE2.out];rfl,z00 hB4 _⟩
    ·have HE2:Hid (z0N x.stable.length F Z l (k+1)=0):=zhs (by rw[HST.out,HRE.out,if_neg hs,if_neg hm])
     rw[decide_eq_false hm]at hha;clear hm hs;go_wp2_with fail
     go_quiet ((go_at_call 194;exact Calls.quiet_of_same (hha _)))
     have bJ5:Blk (w4.drewN nq) (w.heap.size+1) 109 #[.int .i64 F,.int .i64 Z]:=bJ4;have bD5:Blk (w4.drewN nq) w.heap.size 34 sv:=bD4;have hB5:=z00 hB4 nq;go_wp2_with fail
     go_roundw
     case rel=>exact⟨k+1,by omega,by go_num,HE2.out,bD5,bJ5,hB5⟩
     case measure=>simp[intOf];omega
  ·obtain rfl:k=l.length:=by omega
   have HV:=zhs hv;clear hv;go_wp2_with fail
   go_ret
   exact⟨by rw[HE.out,HV.out];rfl,hB⟩
def z6g (r:Int × Int × List Rec × Bool)(w:World)(e:Ending)(w':World):Prop:=
 Below w.heap.size w w'∧∃A c,e=.returned (.tuple #[.slice A r.2.2.1.length c,.bool r.2.2.2,.int .i64 r.1])∧w'.ownsRow w.heap.size 118 3 (.slice A r.2.2.1.length c) r.2.2.1.length (r.2.2.1.flatMap recV)
theorem zaL (r:Rec):∀u∈recV r,u.oneCell'=true:=by intro u hu;simp[recV]at hu;rcases hu with rfl|rfl|rfl<;>rfl
theorem z2F (l:List Rec):(l.flatMap recV).length=l.length*3:=by
 induction l with
 | nil=>rfl
 | cons r t ih=>rw[zhN,zhF,ih,zhO,za7];omega
theorem zbQ {E:Int}(h:z1c E=true):E≠0:=by rintro rfl;exact absurd h (by decide)
theorem za9 {n F Z q E:Int}{f:Fr}{R:List Rec}(h:¬(E=0∧f.seq=next q)):z26 n F Z q E f R=true∧z1K q E f R=false:=by
 have e:(E==0&&f.seq==next q)=false:=by
  rw[Bool.and_eq_false_iff];by_cases h1:E=0
  ·exact .inr (by simpa using fun h2=>h ⟨h1,h2⟩)
  ·exact .inl (by simpa using h1)
 unfold z26 z1K;rw[e];simp
theorem z9f {n F Z q:Int}{f:Fr}{R:List Rec}(h:f.seq=next q):z26 n F Z q 0 f R=(!z1F n F Z f||decide ((z0i f).at_∈R.map (·.at_))||decide ((R.length:Int)=z0Z Z))∧z1K q 0 f R=(f.kind==3&&decide (f.data=z0k R.length)):=by
 unfold z26 z1K;have e:((0:Int)==0&&f.seq==next q)=true:=by simp[h]
 rw[e];simp
theorem zfJ {w:World}{P:Nat→Prop}{x:DevS}{sv:Array Value}(hq:RSv w P x sv)(hs:x.Calm)(F Z:Int):
  Calls prog 130 #[.agg sv,.agg #[.int .i64 F,.int .i64 Z]] w (z6g (x.look F Z) w):=by
 have hhi:=hq.ok.hi;have hsz:=hq.size;obtain⟨A9,c9,hz9⟩:=hq.zero;obtain⟨w0,hw0⟩:∃w0,w0=(w.alloc (.cells sv 34)).alloc (.cells #[.int .i64 F,.int .i64 Z] 109):=⟨_,rfl⟩;have bD:Blk w0 w.heap.size 34 sv:=by rw[hw0];exact(Blk.new _ _ _).alloc _
 have bJ:Blk w0 (w.heap.size+1) 109 #[.int .i64 F,.int .i64 Z]:=by rw[hw0];exact Blk.new' (by simp)
 have B0:Below w.heap.size w w0:=by rw[hw0];(repeat' (first|with_reducible (first|exact zho _ _|assumption|refine zhp ?_ ?_ _|refine zhq ?_|refine z00 ?_ _|refine zhr ?_ ?_ _|exact zhT _)|omega|(simp;done)|(simp;omega)))
 have B0z:=zhs B0.size;have hJ0:=zhs (show w.heap.size+1<w0.heap.size from bJ.lt)
 have hhd:=z8Q (hq.below B0) hs F Z;unfold z2D at hhd;have HG:Hid (∀(a:Int) (W:World),Below w.heap.size w W→Calls prog 132 #[.agg sv,.int .i64 a] W (z2h x a W)):=zhs fun a W hW=>zeH (hq.below hW) hs a
 have HL:Hid (x.look F Z=if (x.head F Z).1≠0 then ((x.head F Z).1,0,[],false)else if (x.lookTo F Z (x.head F Z).2 (Z - 1).toNat).e≠0 then ((x.lookTo F Z (x.head F Z).2 (Z - 1).toNat).e,0,[],false)else (0,(x.head F Z).2,(x.lookTo F Z (x.head F Z).2 (Z - 1).toNat).run,(x.lookTo F Z (x.head F Z).2 (Z - 1).toNat).whole)):=zhs rfl
 have hck:=@z2s x F Z;have hsq:=z3E x F Z;clear hq;go_enter func130,ntmps130
 go_upto_region 1 with fail
 rw[←hw0];clear hw0;have cJ:=bJ.cells;have lJ:=bJ.lt;have l0:=z0z bD hsz;go_wp2_with (refine z02 (by rfl) _ _ rfl (.agg sv) (.pointer (some ⟨w.heap.size,0,none⟩)) rfl l0 ?_)
 refine hhd.mono ?_;rintro e w1 ⟨rfl,hb1⟩;have bD1:=bD.belowAll hb1;have bJ1:=bJ.belowAll hb1;have B1:=B0.trans (hb1.mono B0.size);have HZ1:=zhs hb1.size;clear hhd hb1 bJ bD cJ lJ l0 B0;by_cases hE:(x.head F Z).1=0
 rotate_left
 ·have HH:Hid (x.look F Z=((x.head F Z).1,0,[],false)):=zhs (by rw[HL.out,if_pos hE])
  clear HL hck hsq;generalize (x.head F Z).1=E at *;generalize (x.head F Z).2=q at *;have hE':(E != 0)=true:=by simpa using hE
  clear hE;go_wp2_with fail
  refine bodyPost_ret (v:=.tuple #[.slice none 0 0,.bool false,.int .i64 E]) (by simp[results,results130,go_sem]) rfl ?_
  rw[HH.out];exact⟨B1,none,0,rfl,World.ownsRow_nil _ _ _ _⟩
 have hFZ:=hck hE;have HL1:Hid (x.look F Z=if (x.lookTo F Z (x.head F Z).2 (Z - 1).toNat).e≠0 then ((x.lookTo F Z (x.head F Z).2 (Z - 1).toNat).e,0,[],false)else (0,(x.head F Z).2,(x.lookTo F Z (x.head F Z).2 (Z - 1).toNat).run,(x.lookTo F Z (x.head F Z).2 (Z - 1).toNat).whole)):=zhs (by rw[HL.out,if_neg (by rw[hE];simp)])
 rw[hE];clear hE HL hck;obtain⟨z,rfl⟩:=Int.eq_ofNat_of_zero_le (show 0≤Z by omega)
 rw[show (((z:Int) - 1).toNat)=z - 1 by omega]at HL1
 generalize (x.head F (z:Int)).2=q at *;have hnx:IntKind.u32.wrap (q+1)=next q:=by unfold next;rw[IntKind.wrap_u32]
 have HFZ:Hid (0≤F∧F≤256∧0≤(z:Int)∧(z:Int)≤256):=zhs (by omega)
 have hm0:(0:Int)≤z0Z z:=by unfold z0Z;omega
 have hm1:z0Z z≤80:=by unfold z0Z;omega
 have HEND:Hid (∀(k:Nat) (L:Look),k≤z - 1→x.lookTo F z q k=L→L.stop=true→L.e=0→x.look F z=(0,q,L.run,L.whole)):=zhs fun k L hk h1 h2 h3=>by
  have h4:x.lookTo F z q (z - 1)=L:=by rw[z4i (by rw[h1];exact h2) hk,h1]
  rw[HL1.out,h4,if_neg (by rw[h3];simp)]
 have HBRK:Hid (∀(k:Nat) (L:Look),k≤z - 1→x.lookTo F z q k=L→L.stop=true→L.e≠0→x.look F z=(L.e,0,[],false)):=zhs fun k L hk h1 h2 h3=>by
  have h4:x.lookTo F z q (z - 1)=L:=by rw[z4i (by rw[h1];exact h2) hk,h1]
  rw[HL1.out,h4,if_pos h3]
 go_wp2_with fail
 generalize hnn:next q=q1 at hnx;have HNN:=zhs hnn;clear hnn;go_loopw [9,10] (fun v9 i wr=>∃(k:Nat) (R:List Rec),k+1≤z∧i=.int .i64 ((k:Int)+1)∧x.lookTo F z q k=⟨false,0,R,false⟩∧(R.length:Int)≤z0Z z∧wr.ownsRow w0.heap.size 118 3 v9 R.length (R.flatMap recV)∧Blk wr w.heap.size 34 sv∧Blk wr (w.heap.size+1) 109 #[.int .i64 F,.int .i64 z]∧Below w.heap.size w wr∧w0.heap.size≤wr.heap.size) (fun _ i _=>z - (intOf i).toNat)
 case atStart=>exact⟨0,[],by omega,rfl,rfl,by simpa using hm0,World.ownsRow_nil _ _ _ _,bD1,bJ1,B1,HZ1.out⟩
 case round=>
  obtain⟨k,R,hk,rfl,hto,hRm,hown,bDk,bJk,hB,hzr⟩:=hrel;obtain⟨fa,fc,rfl⟩:=z0G hown;have HO:=zhs hown;have cJ:=bJk.cells;have lJ:=bJk.lt;have lk:=z0z bDk hsz;have HTO:=zhs hto;by_cases hlt:k+1<z
  ·have hlt':(k:Int)+1<z:=by omega
   have hstep:=z6M (x:=x) (F:=F) (Z:=z) (q:=q) (k:=k) (by rw[hto])
   rw[hto]at hstep;simp only at hstep
   have hg:=HG.out (F+((k:Int)+1)) wr hB;unfold z2h frV at hg;generalize x.ge (F+((k:Int)+1))=E at *;generalize x.fr (F+((k:Int)+1))=f at *;have HST:=zhs hstep;clear hto hown hstep;go_wp2_with (refine z02 (by rfl) _ _ rfl (.agg sv) (.pointer (some ⟨w.heap.size,0,none⟩)) rfl lk ?_)
   refine hg.mono ?_;rintro e w2 ⟨rfl,hb2⟩;have bD2:=bDk.belowAll hb2;have bJ2:=bJk.belowAll hb2;have B2:=hB.trans (hb2.mono hB.size);have HO2:=zhs (z0a HO.out hb2);have HZ2:=zhs hb2.size;clear hg HO hb2 bDk bJk lk cJ lJ hB;obtain⟨fk,fs,fd⟩:=f;simp only
   have hdv:=z5N E (w2.alloc (.cells #[.int .i64 fk,.int .u32 fs,.string fd] 190));obtain⟨FB,hFB⟩:∃FB,FB=w2.heap.size:=⟨_,rfl⟩;have bF3:Blk (w2.alloc (.cells #[.int .i64 fk,.int .u32 fs,.string fd] 190)) FB 190 #[.int .i64 fk,.int .u32 fs,.string fd]:=by rw[hFB];exact Blk.new _ _ _
   have b23:Below w2.heap.size w2 (w2.alloc (.cells #[.int .i64 fk,.int .u32 fs,.string fd] 190)):=(zho _ _).alloc (zhT _) _;have bD3:=bD2.belowAll b23;have bJ3:=bJ2.belowAll b23;have B3:=B2.trans (b23.mono B2.size);have HO3:=zhs (z0a HO2.out b23);have HZ3:=zhs (zhS HZ2.out b23.size);clear HO2 bD2 bJ2 B2 b23;go_upto_region 10 with fail
   rw[←hFB];generalize w2.alloc (.cells #[.int .i64 fk,.int .u32 fs,.string fd] 190)=w3 at *;clear hFB;go_wp2_with fail
   refine hdv.mono ?_;rintro e w4 ⟨rfl,hb4⟩;have bF4:=bF3.belowAll hb4;have bD4:=bD3.belowAll hb4;have bJ4:=bJ3.belowAll hb4;have B4:=B3.trans (hb4.mono B3.size);have HO4:=zhs (z0a HO3.out hb4);have HZ4:=zhs (zhS HZ3.out hb4.size);clear HO3 bD3 bJ3 bF3 B3 hb4 hdv;have cF:=bF4.cells;have lF:=bF4.lt;cases hbk:z1c E;rotate_left
   ·have hne:=zbQ hbk;have HH:Hid (x.look F z=(E,0,[],false)):=zhs (HBRK.out (k+1) ⟨true,E,[],false⟩ (by omega) (by rw[HST.out,if_pos hbk]) rfl hne)
    clear hbk hne HST;go_wp2_with fail
    refine bodyPost_ret (v:=.tuple #[.slice none 0 0,.bool false,.int .i64 E]) (by simp[results,results130,go_sem]) rfl ?_
    rw[HH.out];exact⟨B4,none,0,rfl,World.ownsRow_nil _ _ _ _⟩
   have HST2:Hid (x.lookTo F z q (k+1)=if z26 x.stable.length F z q E ⟨fk,fs,fd⟩ R then ⟨true,0,R,z1K q E ⟨fk,fs,fd⟩ R⟩else ⟨false,0,R++[z0i ⟨fk,fs,fd⟩],false⟩):=zhs (by rw[HST.out,if_neg (by rw[hbk];simp)])
   clear HST hbk;by_cases hmine:E=0∧fs=next q
   rotate_left
   ·obtain⟨e1,e2⟩:=za9 (n:=x.stable.length) (F:=F) (Z:=z) (q:=q) (E:=E) (f:=⟨fk,fs,fd⟩) (R:=R) hmine;have HH:Hid (x.look F z=(0,q,R,false)):=zhs (HEND.out (k+1) ⟨true,0,R,false⟩ (by omega) (by rw[HST2.out,if_pos e1,e2]) rfl rfl)
    rw[HNN.out]at hmine;have hd:(E != 0)=true∨((E != 0)=false∧(fs != q1)=true):=by
     by_cases h1:E=0
     ·exact .inr ⟨by simpa using h1,by simpa using fun h2=>hmine ⟨h1,h2⟩⟩
     ·exact .inl (by simpa using h1)
    clear hmine e1 e2 HST2;rcases hd with hd|⟨hd,hd2⟩
    all_goals
     go_wp2_with fail
     refine bodyPost_ret (v:=.tuple #[.slice fa R.length fc,.bool false,.int .i64 0]) (by simp[results,results130,go_sem]) rfl ?_
     rw[HH.out];exact⟨B4,fa,fc,rfl,z0y HO4.out B0z.out⟩
   obtain⟨rfl,hfs⟩:=hmine;obtain⟨n1,n2⟩:=z9f (n:=x.stable.length) (F:=F) (Z:=z) (q:=q) (f:=⟨fk,fs,fd⟩) (R:=R) hfs;have HST3:Hid (x.lookTo F z q (k+1)=if (!z1F x.stable.length F z ⟨fk,fs,fd⟩||decide ((z0i ⟨fk,fs,fd⟩).at_∈R.map (·.at_))||decide ((R.length:Int)=z0Z z))then ⟨true,0,R,fk==3&&decide (fd=z0k R.length)⟩else ⟨false,0,R++[z0i ⟨fk,fs,fd⟩],false⟩):=zhs (by rw[HST2.out,n1,n2])
   clear HST2 n1 n2;have hfs':(fs != q1)=false:=by rw[HNN.out]at hfs;simpa using hfs
   clear hfs;by_cases hc3:fk=3
   ·have hri:z1F x.stable.length F z ⟨fk,fs,fd⟩=false:=z3Z (by show fk≠2;omega)
    obtain⟨bb,hbb⟩:∃bb,decide (fd=z0k R.length)=bb:=⟨_,rfl⟩;have HH:Hid (x.look F z=(0,q,R,bb)):=zhs (HEND.out (k+1) ⟨true,0,R,bb⟩ (by omega) (by rw[HST3.out,if_pos (by rw[hri];rfl),hc3,hbb];simp) rfl rfl)
    have h3:(fk==3)=true:=by simpa using hc3
    have hsb:(fd.toList==(z0k R.length).toList)=bb:=(zdp _ _).trans hbb;clear hc3 hri HST3 hbb;go_upto_region 15 with fail
    have htw:=z7S R.length (by omega) (by omega) w4.drew
    have hS0:w4.cell? ⟨FB,2,none⟩=some (.string fd):=(cF 2).trans rfl;refine z06 [.take 0,.take 1,.take 2,.take 3,.take 4,.one 5,.take 6,.one 7,.one 8,.one 9] 10 (fun W=>W.cell? ⟨FB,2,none⟩=some (.string fd)) (by kernel_rfl) (by kernel_rfl) (fun _ _ _ _ _ h=>h) hS0 ?_
    simp only[zhY,zhZ,Ms.fill,zhy,zhz];iterate 5 (refine z04 (by rfl) ?_ (fun w' hw'=>?_) ?_;rotate_left;(focus (go_simp;(try with_reducible rfl)));(try simp only[Act.put,zht,zhu,zhv]))
    refine z05 (by rfl) fun K hK=>?_
    go_simp;refine htw.mono ?_;rintro e w5 ⟨rfl,hb5⟩;have bF5:=bF4.drew.belowAll hb5;have hS5:w5.cell? ⟨FB,2,none⟩=some (.string fd):=(bF5.cells 2).trans rfl;refine hK _ _ (fun _=>hS5) ?_
    clear hK K htw;iterate 1 (refine z04 (by rfl) ?_ (fun w' hw'=>?_) ?_;rotate_left;(focus (go_simp;(try with_reducible rfl)));(try simp only[Act.put,zht,zhu,zhv]))
    iterate 3 (refine z05 (by rfl) fun K hK=>?_;go_simp;refine hK _ _ (fun _=>hS5) ?_;clear hK K)
    refine z0f ?_;go_wp2_with fail
    refine bodyPost_ret (v:=.tuple #[.slice fa R.length fc,.bool bb,.int .i64 0]) (by simp[results,results130,go_sem]) rfl ?_
    rw[HH.out];exact⟨B4.drew.trans (hb5.mono B4.size),fa,fc,rfl,z0y (z0a HO4.out ((zho w4.heap.size w4).drew.trans hb5)) B0z.out⟩
   have h3:(fk==3)=false:=by simpa using hc3
   have HSTOP:Hid ((!z1F x.stable.length F z ⟨fk,fs,fd⟩||decide ((z0i ⟨fk,fs,fd⟩).at_∈R.map (·.at_))||decide ((R.length:Int)=z0Z z))=true→x.look F z=(0,q,R,false)):=zhs fun h=>HEND.out (k+1) ⟨true,0,R,false⟩ (by omega) (by rw[HST3.out,if_pos h,h3];rfl) rfl rfl
   have HGO:Hid ((!z1F x.stable.length F z ⟨fk,fs,fd⟩||decide ((z0i ⟨fk,fs,fd⟩).at_∈R.map (·.at_))||decide ((R.length:Int)=z0Z z))=false→x.lookTo F z q (k+1)=⟨false,0,R++[z0i ⟨fk,fs,fd⟩],false⟩):=zhs fun h=>by rw[HST3.out,h];rfl
   have hrc:=za2 F z HFZ.out fd w4;have cJ:=bJ4.cells;have lJ:=bJ4.lt;clear HST3 hc3;go_wp2_with fail
   refine hrc.mono ?_;rintro e w5 ⟨rfl,hb5⟩;have bF5:=bF4.belowAll hb5;have bD5:=bD4.belowAll hb5;have bJ5:=bJ4.belowAll hb5;have B5:=B4.trans (hb5.mono B4.size);have HO5:=zhs (z0a HO4.out hb5);have HZ5:=zhs (zhS HZ4.out hb5.size);clear HO4 bD4 bJ4 bF4 B4 hb5 hrc cF lF cJ lJ;have HRI:Hid (fk=2→z1F x.stable.length F z ⟨fk,fs,fd⟩=(z3m F z fd&&decide ((z1U fd).at_<x.stable.length))∧z0i ⟨fk,fs,fd⟩=z1U fd):=zhs fun h=>⟨zd8 (f:=⟨fk,fs,fd⟩) h (by omega),z6u (f:=⟨fk,fs,fd⟩) h⟩
   have HRO:Hid (fk≠2→z1F x.stable.length F z ⟨fk,fs,fd⟩=false):=zhs fun h=>z3Z (f:=⟨fk,fs,fd⟩) h
   generalize hrr:z1U fd=rr at *;generalize z3m F z fd=ri at *;clear hrr;obtain⟨ra,rk,rd⟩:=rr;unfold recC;simp only at HRI ⊢
   obtain⟨XB,hXB⟩:∃XB,XB=w5.heap.size:=⟨_,rfl⟩;have bX6:Blk (w5.alloc (.cells #[.int .i64 ra,.int .i64 rk,.string rd] 118)) XB 118 #[.int .i64 ra,.int .i64 rk,.string rd]:=by rw[hXB];exact Blk.new _ _ _
   have b56:Below w5.heap.size w5 (w5.alloc (.cells #[.int .i64 ra,.int .i64 rk,.string rd] 118)):=(zho _ _).alloc (zhT _) _;have bF6:=bF5.belowAll b56;have bD6:=bD5.belowAll b56;have bJ6:=bJ5.belowAll b56;have B6:=B5.trans (b56.mono B5.size);have HO6:=zhs (z0a HO5.out b56);have HZ6:=zhs (zhS HZ5.out b56.size);clear HO5 bD5 bJ5 bF5 B5 b56;go_upto_region 17 with fail
   rw[←hXB];generalize w5.alloc (.cells #[.int .i64 ra,.int .i64 rk,.string rd] 118)=w6 at *;clear hXB;have cF:=bF6.cells;have lF:=bF6.lt;have cX:=bX6.cells;have lX:=bX6.lt;have cJ:=bJ6.cells;have lJ:=bJ6.lt;have cD:w6.cell? ⟨w.heap.size,0,none⟩=some (.slice A9 x.stable.length c9):=(bD6.cells 0).trans hz9;have lD:=bD6.lt;by_cases hk2:fk=2
   rotate_left
   ·have HH:Hid (x.look F z=(0,q,R,false)):=zhs (HSTOP.out (by rw[HRO.out hk2];rfl))
    have h2:(fk != 2)=true:=by simpa using hk2
    clear hk2 HRI HRO HGO HSTOP;go_wp2_with fail
    refine bodyPost_ret (v:=.tuple #[.slice fa R.length fc,.bool false,.int .i64 0]) (by simp[results,results130,go_sem]) rfl ?_
    rw[HH.out];exact⟨B6,fa,fc,rfl,z0y HO6.out B0z.out⟩
   have h2:(fk != 2)=false:=by simpa using hk2
   obtain⟨e1,e2⟩:=HRI.out hk2;rw[e1,e2]at HSTOP HGO;simp only at HSTOP HGO
   clear e1 e2 HRI HRO hk2;cases ri
   ·have HH:Hid (x.look F z=(0,q,R,false)):=zhs (HSTOP.out rfl);clear HGO HSTOP;go_wp2_with fail
    refine bodyPost_ret (v:=.tuple #[.slice fa R.length fc,.bool false,.int .i64 0]) (by simp[results,results130,go_sem]) rfl ?_
    rw[HH.out];exact⟨B6,fa,fc,rfl,z0y HO6.out B0z.out⟩
   rw[Bool.true_and]at HSTOP HGO;by_cases hran:ra<x.stable.length
   rotate_left
   ·have HH:Hid (x.look F z=(0,q,R,false)):=zhs (HSTOP.out (by rw[decide_eq_false hran];rfl))
    have hran2:(x.stable.length:Int)≤ra:=by omega
    clear HGO HSTOP hran;go_wp2_with fail
    refine bodyPost_ret (v:=.tuple #[.slice fa R.length fc,.bool false,.int .i64 0]) (by simp[results,results130,go_sem]) rfl ?_
    rw[HH.out];exact⟨B6,fa,fc,rfl,z0y HO6.out B0z.out⟩
   rw[decide_eq_true hran]at HSTOP HGO;have hran2:¬(x.stable.length:Int)≤ra:=by omega
   have hha:=zax fa fc R (by omega) ra w6 (z1z HO6.out (z2F R))
   have hmo:=z5X F z (by have:=HFZ.out;omega) w6
   clear hran;by_cases hin:ra∈R.map (·.at_)
   ·have HH:Hid (x.look F z=(0,q,R,false)):=zhs (HSTOP.out (by rw[decide_eq_true hin];rfl))
    rw[decide_eq_true hin]at hha;clear HGO HSTOP hin hmo;go_wp2_with fail
    refine hha.mono ?_;rintro e w7 ⟨rfl,hw7⟩;replace hw7:=hw7.symm;subst hw7;go_wp2_with fail
    refine bodyPost_ret (v:=.tuple #[.slice fa R.length fc,.bool false,.int .i64 0]) (by simp[results,results130,go_sem]) rfl ?_
    rw[HH.out];exact⟨B6,fa,fc,rfl,z0y HO6.out B0z.out⟩
   rw[decide_eq_false hin]at HSTOP HGO hha;clear hin;go_wp2_with fail
   refine hha.mono ?_;rintro e w7 ⟨rfl,hw7⟩;replace hw7:=hw7.symm;subst hw7;go_wp2_with fail
   refine hmo.mono ?_;rintro e w8 ⟨rfl,hb8⟩;have bD8:=bD6.belowAll hb8;have bJ8:=bJ6.belowAll hb8;have bX8:=bX6.belowAll hb8;have B8:=B6.trans (hb8.mono B6.size);have HO8:=zhs (z0a HO6.out hb8);have HZ8:=zhs (zhS HZ6.out hb8.size);clear hha hmo bD6 bJ6 bX6 bF6 B6 HO6 hb8 cF lF cX lX cJ lJ cD lD;by_cases hfull:(R.length:Int)=z0Z z
   ·have HH:Hid (x.look F z=(0,q,R,false)):=zhs (HSTOP.out (by rw[decide_eq_true hfull];rfl))
    have hfull2:z0Z z≤(R.length:Int):=by omega
    clear HGO HSTOP hfull;go_wp2_with fail
    refine bodyPost_ret (v:=.tuple #[.slice fa R.length fc,.bool false,.int .i64 0]) (by simp[results,results130,go_sem]) rfl ?_
    rw[HH.out];exact⟨B8,fa,fc,rfl,z0y HO8.out B0z.out⟩
   rw[decide_eq_false hfull]at HGO;have HTO2:=zhs (HGO.out rfl);have hfull2:¬z0Z z≤(R.length:Int):=by omega
   have hfull3:(R.length:Int)+1≤z0Z z:=by omega
   clear HGO HSTOP hfull;have cX:=bX8.cells;have lX:=bX8.lt;obtain⟨w9,hw9⟩:∃w9,w9=w8.alloc (.cells #[.int .i64 ra,.int .i64 rk,.string rd] 118):=⟨_,rfl⟩;have b89:Below w8.heap.size w8 w9:=by rw[hw9];exact(zho _ _).alloc (zhT _) _
   have r9:Reads w9 (some ⟨w8.heap.size,0,none⟩) (recV ⟨ra,rk,rd⟩):=by
    have b:=Blk.new w8 118 #[.int .i64 ra,.int .i64 rk,.string rd];rw[hw9];exact .inr ⟨_,0,rfl,b.lt,fun j u hu=>by rw[zi8];exact(b.cells j).trans (by simpa[recV]using hu)⟩
   have B9:=B8.trans (b89.mono B8.size);have hz9w:w0.heap.size≤w9.heap.size:=zhS hzr (zhS HZ8.out b89.size);obtain⟨v10,w10,hrun10,o10,k10,-⟩:=zdY (z0a HO8.out b89) hz9w (some ⟨w8.heap.size,0,none⟩) 1 1 (recV ⟨ra,rk,rd⟩) rfl (by omega) r9 (zaL _)
   have bD10:=(bD8.belowAll b89).below k10 (by have:=hJ0.out;omega)
   have bJ10:=(bJ8.belowAll b89).below k10 hJ0.out;have B10:=B9.trans (k10.mono B0z.out);have hz10:w0.heap.size≤w10.heap.size:=zhS hz9w k10.size;have HO10:=zhs o10;have HW9:=zhs hw9;clear bD8 bJ8 bX8 r9 b89 o10 k10 hw9 B8 HO8;go_wp2_with (at_builtin;rw[←HW9.out];refine z0m rfl _ _ _ rfl (.slice fa R.length fc) (.slice (some ⟨w8.heap.size,0,none⟩) 1 1) v10 rfl rfl hrun10 ?_);go_roundw
   case rel=>exact⟨k+1,R++[⟨ra,rk,rd⟩],by omega,by go_num,HTO2.out,by rw[zhF];exact hfull3,by rw[zhF,List.flatMap_append];simpa using HO10.out,bD10,bJ10,B10,hz10⟩
   case measure=>simp[intOf];omega
  ·obtain rfl:z=k+1:=by omega
   have HH:Hid (x.look F ((k+1:Nat):Int)=(0,q,R,false)):=zhs (by rw[HL1.out,Nat.add_sub_cancel,HTO.out,if_neg (by simp)])
   clear hto hown;go_wp2_with fail
   refine bodyPost_ret (v:=.tuple #[.slice fa R.length fc,.bool false,.int .i64 0]) (by simp[results,results130,go_sem]) rfl ?_
   rw[HH.out];exact⟨hB,fa,fc,rfl,z0y HO.out B0z.out⟩
open Go
section
variable {P:Program}{ops:Array Oper}{Q:Exit→Act→World→Prop}{S:World→Prop}{T:Nat}
def anyR (P:Program)(ops:Array Oper)(Q:Exit→Act→World→Prop)(S:World→Prop)(T:Nat):Nat→Array Bool→Act→World→Prop
 | 0,L,a,w=>Region.ready .any ops L=[]∧Q .normal a w
 | f+1,L,a,w=>(Region.ready .any ops L=[]→Q .normal a w) ∧
  ∀i∈Region.ready .any ops L,wpOp P ops Q i (fun a' w'=>(i<T→S w→S w')∧anyR P ops Q S T f (L.setIfInBounds i true) a' w') a w
theorem z9G (f:Nat):∀(L:Array Bool) (a:Act) (w:World),anyR P ops Q S T f L a w→wpAny P .any ops Q f L a w:=by
 induction f with
 | zero=>exact fun _ _ _ h=>h
 | succ f ih=>exact fun L a w h=>⟨h.1,fun i hi=>wpOp_mono (fun a' w' h'=>ih _ a' w' h'.2) (h.2 i hi)⟩
theorem zcN {i:Nat}{o:Oper}{v:Value}(ho:ops[i]?=some o)(hns:Region.noSelect ops=true)(hT:∀j,T≤j→j<ops.size→Region.waitsFor .any ops j i=true)
  (hQ:∀c a d v w,Q (.panic c) (Act.put a d v) w→Q (.panic c) a w) (f:Nat):
  ∀(L:Array Bool) (a:Act) (w:World),(∀j p,ops[j]?=some p→j≠i→L.getD j true=false→(∀e∈p.after,Region.binds .any e=true→e.on≠i)→o.apart ops p=true) →
   i∈Region.ready .any ops L→YieldsIf P ops S o v a→S w→anyR P ops Q S T f (L.setIfInBounds i true) (a.put o.dst v) w→anyR P ops Q S T (f+1) L a w:=by
 have hsel:=Region.noSelect_spec hns;induction f with
 | zero=>
  intro L a w _ hr hy hS H;refine⟨fun h0=>(by rw[h0]at hr;cases hr),fun j hj=>?_⟩
  by_cases e:j=i
  ·subst e;exact hy.wpOp ho hS ⟨fun _ h=>h,H⟩
  ·have:=ready_mono hj e;rw[H.1]at this;cases this
 | succ f ih=>
  intro L a w hfr hr hy hS H;refine⟨fun h0=>(by rw[h0]at hr;cases hr),fun j hj=>?_⟩
  by_cases e:j=i
  ·subst e;exact hy.wpOp ho hS ⟨fun _ h=>h,H⟩
  ·have hi0:=getD_both (mem_ready.1 hr).1;obtain⟨hj0,p,hp,hall⟩:=mem_ready.1 hj;have hnw:∀x∈p.after,Region.binds .any x=true→x.on≠i:=fun x hx hb hxi=>by
    have:=hall x hx hb
    rw[hxi,hi0]at this;cases this
   have hjT:j<T:=by
    rcases Nat.lt_or_ge j T with h|h
    ·exact h
    ·exfalso
     have hjs:=(zhW.1 hp).1;obtain⟨q,hq,x,hx,hb,hon⟩:=Region.waitsFor_spec (hT j h hjs);rw[hp]at hq;cases hq;exact hnw x hx hb hon
   have hstep:=wpOp_putIf hp (hfr j p hp e hj0 hnw) (fun cs b=>hsel i o cs b ho) (fun cs b=>hsel j p cs b hp) (fun c a w=>hQ c a o.dst v w) hy (H.2 j (ready_mono hj e))
   refine wpOp_mono (fun a' w' h'=>⟨h'.2.1,?_⟩) hstep
   refine ih (L.setIfInBounds j true) a' w' (fun k q hk hki hk0 hkn=>hfr k q hk hki ?_ hkn) (ready_mono hr (Ne.symm e)) h'.1 (h'.2.1 hjT hS) ?_
   ·by_cases ejk:j=k
    ·subst ejk;exact hj0
    ·rwa [getD_set_ne true ejk]at hk0
   ·rw[Array.setIfInBounds_comm _ _ e];exact h'.2.2
theorem zec {i:Nat}{o:Oper}{v:Value}(ho:ops[i]?=some o)(hns:Region.noSelect ops=true)
  (hQ:∀c a d v w,Q (.panic c) (Act.put a d v) w→Q (.panic c) a w) (f:Nat):
  ∀(L:Array Bool) (a:Act) (w:World),(∀j p,ops[j]?=some p→j≠i→L.getD j true=false→(∀e∈p.after,Region.binds .any e=true→e.on≠i)→o.apart ops p=true) →
   i∈Region.ready .any ops L→YieldsIf P ops (fun _=>True) o v a→anyR P ops Q S T f (L.setIfInBounds i true) (a.put o.dst v) w→anyR P ops Q S T (f+1) L a w:=by
 have hsel:=Region.noSelect_spec hns;induction f with
 | zero=>
  intro L a w _ hr hy H;refine⟨fun h0=>(by rw[h0]at hr;cases hr),fun j hj=>?_⟩
  by_cases e:j=i
  ·subst e;exact hy.wpOp ho trivial ⟨fun _ h=>h,H⟩
  ·have:=ready_mono hj e;rw[H.1]at this;cases this
 | succ f ih=>
  intro L a w hfr hr hy H;refine⟨fun h0=>(by rw[h0]at hr;cases hr),fun j hj=>?_⟩
  by_cases e:j=i
  ·subst e;exact hy.wpOp ho trivial ⟨fun _ h=>h,H⟩
  ·have hi0:=getD_both (mem_ready.1 hr).1;obtain⟨hj0,p,hp,hall⟩:=mem_ready.1 hj;have hnw:∀x∈p.after,Region.binds .any x=true→x.on≠i:=fun x hx hb hxi=>by
    have:=hall x hx hb
    rw[hxi,hi0]at this;cases this
   have hstep:=wpOp_putIf hp (hfr j p hp e hj0 hnw) (fun cs b=>hsel i o cs b ho) (fun cs b=>hsel j p cs b hp) (fun c a w=>hQ c a o.dst v w) hy (H.2 j (ready_mono hj e))
   refine wpOp_mono (fun a' w' h'=>⟨h'.2.1,?_⟩) hstep
   refine ih (L.setIfInBounds j true) a' w' (fun k q hk hki hk0 hkn=>hfr k q hk hki ?_ hkn) (ready_mono hr (Ne.symm e)) h'.1 ?_
   ·by_cases ejk:j=k
    ·subst ejk;exact hj0
    ·rwa [getD_set_ne true ejk]at hk0
   ·rw[Array.setIfInBounds_comm _ _ e];exact h'.2.2
end
inductive Us where
 | done
 | take (k:Nat) (r:Us)
 | pure (k:Nat) (r:Us)
 | one (k:Nat) (r:Us)
 | fork (i j:Nat) (r1 r2:Us)
 | late (k:Nat) (r:Us)
inductive Uf where
 | done
 | take (o:Oper) (r:Uf)
 | pure (o:Oper) (r:Uf)
 | one (o:Oper) (r:Uf)
 | fork (o p:Oper) (r1 r2:Uf)
 | late (o:Oper) (r:Uf)
def Us.takes:List Nat→Us→Us
 | [],r=>r
 | k::t,r=>.take k (Us.takes t r)
def Us.pures:List Nat→Us→Us
 | [],r=>r
 | k::t,r=>.pure k (Us.pures t r)
def Us.fill (l:List Oper)(d:Oper):Us→Uf
 | .done=>.done
 | .take k r=>.take (l.getD k d) (r.fill l d)
 | .pure k r=>.pure (l.getD k d) (r.fill l d)
 | .one k r=>.one (l.getD k d) (r.fill l d)
 | .fork i j r1 r2=>.fork (l.getD i d) (l.getD j d) (r1.fill l d) (r2.fill l d)
 | .late k r=>.late (l.getD k d) (r.fill l d)
def Us.size:Us→Nat
 | .done=>0
 | .take _ r=>r.size+1
 | .pure _ r=>r.size+1
 | .one _ r=>r.size+1
 | .fork _ _ r _=>r.size+1
 | .late _ r=>r.size+1
section
variable {P:Program}{ops:Array Oper}{Q:Exit→Act→World→Prop}{S:World→Prop}{T:Nat}
def usT (P:Program)(ops:Array Oper)(Q:Exit→Act→World→Prop)(S:World→Prop):Uf→Act→World→Prop
 | .done,a,w=>Q .normal a w
 | .take o r,a,w=>∃v,YieldsIf P ops S o v a∧usT P ops Q S r (a.put o.dst v) w
 | .pure o r,a,w=>∃v,YieldsIf P ops (fun _=>True) o v a∧usT P ops Q S r (a.put o.dst v) w
 | .one o r,a,w=>o.wp P a w (fun a' w'=>S w'∧usT P ops Q S r a' w') Q
 | .fork o p r1 r2,a,w=>o.wp P a w (fun a' w'=>S w'∧usT P ops Q S r1 a' w') Q∧p.wp P a w (fun a' w'=>S w'∧usT P ops Q S r2 a' w') Q
 | .late o r,a,w=>o.wp P a w (fun a' w'=>usT P ops Q S r a' w') Q
def usB (ops:Array Oper)(T:Nat):Bool→Us→Array Bool→Bool
 | _,.done,L=>decide (Region.ready .any ops L=[])
 | s,.take k r,L=>s&&decide (k<ops.size)&&(Region.ready .any ops L).contains k&&Region.free .any ops L k&&((List.range ops.size).all fun j=>decide (j<T)||Region.waitsFor .any ops j k)&&usB ops T s r (L.setIfInBounds k true)
 | s,.pure k r,L=>decide (k<ops.size)&&(Region.ready .any ops L).contains k&&Region.free .any ops L k&&usB ops T s r (L.setIfInBounds k true)
 | s,.one k r,L=>s&&bare ops k&&decide (Region.ready .any ops L=[k])&&usB ops T s r (L.setIfInBounds k true)
 | s,.fork i j r1 r2,L=>s&&bare ops i&&bare ops j&&decide (Region.ready .any ops L=[i,j]∨Region.ready .any ops L=[j,i])&&decide (r1.size=r2.size)&&usB ops T s r1 (L.setIfInBounds i true)&&usB ops T s r2 (L.setIfInBounds j true)
 | _,.late k r,L=>bare ops k&&decide (Region.ready .any ops L=[k])&&decide (T≤k)&&usB ops T false r (L.setIfInBounds k true)
theorem z40 {l:List Oper}{d:Oper}(hns:Region.noSelect l.toArray=true)(hQ:∀c a d v w,Q (.panic c) (Act.put a d v) w→Q (.panic c) a w):
  ∀(t:Us) (s:Bool) (L:Array Bool) (a:Act) (w:World),(s=true→S w)→usB l.toArray T s t L=true→usT P l.toArray Q S (t.fill l d) a w→anyR P l.toArray Q S T t.size L a w
 | .done,s,L,a,w,_,hB,h=>by
  simp only[usB,decide_eq_true_eq]at hB;exact⟨hB,h⟩
 | .take k r,s,L,a,w,hS,hB,h=>by
  simp only[usB,Bool.and_eq_true,decide_eq_true_eq]at hB;obtain⟨⟨⟨⟨⟨hs,h0⟩,h1⟩,h2⟩,h3⟩,h4⟩:=hB;have h0:l.toArray[k]?=some (l.getD k d):=by
   have h0:k<l.length:=by simpa using h0
   simp[zhw,h0]
  obtain⟨v,hy,h⟩:=h;exact zcN h0 hns (fun j hj hjs=>by
   have:=List.all_eq_true.1 h3 j (List.mem_range.2 hjs)
   simp only[Bool.or_eq_true,decide_eq_true_eq]at this;rcases this with h|h
   ·exact absurd h (by omega)
   ·exact h) hQ _ L a w (Region.free_spec h0 h2) (by simpa using h1) hy (hS hs) (z40 hns hQ r s _ _ _ hS h4 h)
 | .pure k r,s,L,a,w,hS,hB,h=>by
  simp only[usB,Bool.and_eq_true,decide_eq_true_eq]at hB;obtain⟨⟨⟨h0,h1⟩,h2⟩,h4⟩:=hB;have h0:l.toArray[k]?=some (l.getD k d):=by
   have h0:k<l.length:=by simpa using h0
   simp[zhw,h0]
  obtain⟨v,hy,h⟩:=h;exact zec h0 hns hQ _ L a w (Region.free_spec h0 h2) (by simpa using h1) hy (z40 hns hQ r s _ _ _ hS h4 h)
 | .one k r,s,L,a,w,hS,hB,h=>by
  simp only[usB,Bool.and_eq_true,decide_eq_true_eq]at hB;obtain⟨⟨⟨hs,b1⟩,h1⟩,h4⟩:=hB;refine⟨fun e=>(by rw[h1]at e;cases e),fun i hi=>?_⟩
  rw[h1]at hi;have hik:i=k:=by simpa using hi
  subst hik;refine z1w (z1O (d:=d) b1) b1 (Oper.wp_mono ?_ h);rintro a' w' ⟨s1,h'⟩;exact⟨fun _ _=>s1,z40 hns hQ r s _ a' w' (fun _=>s1) h4 h'⟩
 | .fork i j r1 r2,s,L,a,w,hS,hB,h=>by
  simp only[usB,Bool.and_eq_true,decide_eq_true_eq]at hB;obtain⟨⟨⟨⟨⟨⟨hs,b1⟩,b2⟩,h1⟩,hN⟩,m1⟩,m2⟩:=hB;obtain⟨H1,H2⟩:=h;have hmem:∀k,k∈Region.ready .any l.toArray L→k=i∨k=j:=fun k hk=>by
   rcases h1 with h1|h1
   ·rw[h1]at hk;simpa using hk
   ·rw[h1]at hk;simpa[or_comm]using hk
  refine⟨fun e=>(by rcases h1 with h1|h1<;>(rw[h1]at e;cases e)),fun k hk=>?_⟩
  rcases hmem k hk with e|e
  ·subst e;refine z1w (z1O (d:=d) b1) b1 (Oper.wp_mono ?_ H1);rintro a' w' ⟨s1,h'⟩;exact⟨fun _ _=>s1,z40 hns hQ r1 s _ a' w' (fun _=>s1) m1 h'⟩
  ·subst e;refine z1w (z1O (d:=d) b2) b2 (Oper.wp_mono ?_ H2);rintro a' w' ⟨s1,h'⟩;refine⟨fun _ _=>s1,?_⟩
   rw[hN];exact z40 hns hQ r2 s _ a' w' (fun _=>s1) m2 h'
 | .late k r,s,L,a,w,hS,hB,h=>by
  simp only[usB,Bool.and_eq_true,decide_eq_true_eq]at hB;obtain⟨⟨⟨b1,h1⟩,hT⟩,h4⟩:=hB;refine⟨fun e=>(by rw[h1]at e;cases e),fun i hi=>?_⟩
  rw[h1]at hi;have hik:i=k:=by simpa using hi
  subst hik;refine z1w (z1O (d:=d) b1) b1 (Oper.wp_mono ?_ h);intro a' w' h';exact⟨fun hlt=>absurd hlt (by omega),z40 hns hQ r false _ a' w' (fun e=>by cases e) h4 h'⟩
theorem z13 {id:Nat}{a:Act}{w:World}{o:Oper}{l:List Oper}(t:Us)(T:Nat)(S:World→Prop)(hm:P.follows .mixedOrders=true)
  (hB:(Region.noSelect (o::l).toArray&&decide (t.size=(o::l).length)&&usB (o::l).toArray T true t (Array.replicate (o::l).length false))=true)
  (hQ1:∀c a t v w,Q (.panic c) (Act.put a (some t) v) w→Q (.panic c) a w) (hS:S w.drew)
  (h:usT P (o::l).toArray Q S (t.fill (o::l) o) a w.drew):(Code.region id (o::l).toArray true).wp P Q a w:=by
 have hQ:∀c a d v w,Q (.panic c) (Act.put a d v) w→Q (.panic c) a w:=fun c a d v w h=>by
  cases d with
  | none=>exact h
  | some t=>exact hQ1 c a t v w h
 simp only[Bool.and_eq_true,decide_eq_true_eq]at hB;obtain⟨⟨hns,hn⟩,hB⟩:=hB;refine wp_region_any hm ?_;have H:=z40 (P:=P) (Q:=Q) (S:=S) (T:=T) hns hQ t true (Array.replicate (o::l).length false) a w.drew (fun _=>hS) hB h
 rw[hn]at H;have:=z9G _ _ _ _ H
 simpa using this
theorem z1G {a:Act}{w:World}(h:Q .normal a w):usT P ops Q S .done a w:=h
theorem z0K {o:Oper}{r:Uf}{a:Act}{w:World}(hw:Region.wanted o (yielded ops a.tmps)=true)(v:Value)(hy:∀w,S w→(execOp a.eval o).run P w=.ok (.value v) w)(h:usT P ops Q S r (a.put o.dst v) w):usT P ops Q S (.take o r) a w:=
 ⟨v,.inl ⟨hw,hy⟩,h⟩
theorem zgx {o:Oper}{r:Uf}{a:Act}{w:World}(hw:Region.wanted o (yielded ops a.tmps)=false)(h:usT P ops Q S r (a.put o.dst undef) w):usT P ops Q S (.take o r) a w:=
 ⟨undef,.inr ⟨hw,rfl⟩,h⟩
theorem z1s {o:Oper}{r:Uf}{a:Act}{w:World}(hw:Region.wanted o (yielded ops a.tmps)=true)(v:Value)(hy:∀w,True→(execOp a.eval o).run P w=.ok (.value v) w)(h:usT P ops Q S r (a.put o.dst v) w):usT P ops Q S (.pure o r) a w:=
 ⟨v,.inl ⟨hw,hy⟩,h⟩
theorem z1b {o:Oper}{r:Uf}{a:Act}{w:World}(h:∀K:Act→World→Prop,(∀a' w',S w'→usT P ops Q S r a' w'→K a' w')→o.wp P a w K Q):usT P ops Q S (.one o r) a w:=h _ fun _ _ x y=>⟨x,y⟩
theorem z0H {o:Oper}{r:Uf}{a:Act}{w:World}(h:∀K:Act→World→Prop,(∀a' w',usT P ops Q S r a' w'→K a' w')→o.wp P a w K Q):usT P ops Q S (.late o r) a w:=h _ fun _ _ x=>x
theorem z3X {o p:Oper}{r1 r2:Uf}{a:Act}{w:World}
  (h1:∀K:Act→World→Prop,(∀a' w',S w'→usT P ops Q S r1 a' w'→K a' w')→o.wp P a w K Q) (h2:∀K:Act→World→Prop,(∀a' w',S w'→usT P ops Q S r2 a' w'→K a' w')→p.wp P a w K Q):usT P ops Q S (.fork o p r1 r2) a w:=
 ⟨h1 _ fun _ _ x y=>⟨x,y⟩,h2 _ fun _ _ x y=>⟨x,y⟩⟩
end
end Go.Proofs.YtejmknghkbobnaaGreatDoor
