import Derived.Test.YtejmknghkbobnaaGreatDoorPart00
import Derived.Test.YtejmknghkbobnaaGreatDoorPart28
import Derived.Test.YtejmknghkbobnaaGreatDoorPart29
set_option linter.unusedVariables false
set_option linter.unusedSimpArgs false
set_option maxRecDepth 100000
set_option maxHeartbeats 8000000
namespace Go.Proofs.YtejmknghkbobnaaGreatDoor
open Go.Proofs.Tryz
open Go.RowKit Go.Maps
theorem z9H {x:DevS}{F Z q:Int}{l:List Rec}(h:x.look F Z=(0,q,l,true)):x.apply F Z=if (x.applies q l).1≠0 then (0,x.applies q l)else ((l.length:Int),x.applies q l):=by
 unfold DevS.apply;rw[h];simp only
 rw[if_neg (by simp),if_neg (by simp)]
theorem z97 {x:DevS}{F Z q:Int}{l:List Rec}(h:x.look F Z=(0,q,l,true)):x.replay F Z=if (x.apply F Z).2.1≠0 then (0,(x.apply F Z).2)else if ((x.apply F Z).2.2.clear F Z).1≠0 then (0,(x.apply F Z).2.2.clear F Z)else ((x.apply F Z).1,(x.apply F Z).2.2.clear F Z):=by
 rw[z9H h];unfold DevS.replay DevS.ac;rw[h];simp only
 rw[if_neg (by simp),if_pos (by simp)]
 by_cases h1:(x.applies q l).1=0
 ·simp[h1]
 ·simp[h1]
theorem z9I {x:DevS}{F Z q:Int}{l:List Rec}(h:x.look F Z=(0,q,l,false)):x.replay F Z=if (x.staleTo F q (Z - 1).toNat).1≠0 then (0,(x.staleTo F q (Z - 1).toNat).1,x)else if (x.staleTo F q (Z - 1).toNat).2=true then (0,x.clear F Z)else (0,0,x):=by
 unfold DevS.replay DevS.stale;rw[h];simp only
 rw[if_neg (by simp),if_neg (by simp)]
theorem zeU {w:World}{P:Nat→Prop}{x:DevS}{sv:Array Value}(hq:RSv w P x sv)(hs:x.Calm)(hP:∀b,w.heap.size≤b→P b)(F Z:Int):
  Calls prog 58 #[.agg sv,.agg #[.int .i64 F,.int .i64 Z]] w (RAv w P (x.replay F Z)):=by
 obtain⟨w0,hw0⟩:∃w0,w0=((w.alloc (.cells sv 34)).alloc (.cells #[.int .i64 F,.int .i64 Z] 109)).alloc (.cells svZ 34):=⟨_,rfl⟩;have bD:Blk w0 w.heap.size 34 sv:=by rw[hw0];exact((Blk.new _ _ _).alloc _).alloc _
 have bJ:Blk w0 (w.heap.size+1) 109 #[.int .i64 F,.int .i64 Z]:=by rw[hw0];exact(Blk.new' (by simp)).alloc _
 have bR:Blk w0 (w.heap.size+1+1) 34 svZ:=by rw[hw0];exact Blk.new' (by simp)
 have B0:Below w.heap.size w w0:=by rw[hw0];(repeat' (first|with_reducible (first|exact zho _ _|assumption|refine zhp ?_ ?_ _|refine zhq ?_|refine z00 ?_ _|refine zhr ?_ ?_ _|exact zhT _)|omega|(simp;done)|(simp;omega)))
 have hQ0:=hq.apt B0 w0.heap.size;have HN:=zhs (Apt_.new hP B0.size);have sv_sz:=hq.size;have hone:=hq.one;have zR:=zhs bR.lt;have hlk:=zfJ hQ0 hs F Z;have hok:=z7C x F Z;have hlh:=@z8A x F Z;have hck:=@z2s x F Z;have hap:=fun (W:World) (hW:Below w0.heap.size w0 W)=>zcz (hQ0.below hW) hs (fun b hb=>HN.out b (zhS hW.size hb)) F Z
 have hhd:=fun (W:World) (hW:Below w0.heap.size w0 W)=>z8Q (hQ0.below hW) hs F Z
 have HG:Hid (∀(a:Int) (W:World),Below w0.heap.size w0 W→Calls prog 132 #[.agg sv,.int .i64 a] W (z2h x a W)):=zhs fun a W hW=>zeH (hQ0.below hW) hs a
 have hac:=@z7m x F Z;have HS:=zhs hs;unfold z2D at hhd;have HHD:=zhs hhd;have HAPP:=zhs hap;have hrp0:(x.look F Z).1≠0→x.replay F Z=(0,(x.look F Z).1,x):=fun h=>by unfold DevS.replay;rw[if_pos h]
 have hrpW:=@z97 x F Z;have hrpP:=@z9I x F Z;generalize x.look F Z=lk at *;obtain⟨E,q,l,wh⟩:=lk;simp only at hok hlh hrp0
 have HQ:=zhs hQ0;unfold z6g at hlk;simp only at hlk
 clear hq hQ0 hP hok hhd hap hs;unfold svZ at hw0;go_enter func58,ntmps58
 go_upto_region 1 with fail
 rw[←hw0];clear hw0;have cJ:=bJ.cells;have lJ:=bJ.lt;have l0:=z0z bD sv_sz;go_wp2_with (refine z02 (by rfl) _ _ rfl (.agg sv) (.pointer (some ⟨w.heap.size,0,none⟩)) rfl l0 ?_)
 refine hlk.mono ?_;rintro e w1 ⟨hb1,A,c,rfl,own1⟩;have B1:=B0.trans (hb1.mono B0.size);have bD1:=bD.belowAll hb1;have bJ1:=bJ.belowAll hb1;have bR1:=bR.belowAll hb1;have hQ1:=HQ.out.below hb1;have HB1:=zhs hb1;clear hlk bD bJ bR B0 hb1 cJ lJ l0 own1;have l1:=z0z bD1 sv_sz;by_cases hE:E=0
 rotate_left
 ·as_aux_lemma=>
  have HH:Hid (x.replay F Z=(0,E,x)):=zhs (hrp0 hE);have hE':(E != 0)=true:=by simpa using hE
  have hfin:=RAv.mk (R:=w.heap.size+1+1) 0 E hQ1 B1 (by omega) zR.out
  have hst:=z0l bR1 rfl sv_sz hone;have bR2:=bR1.setRow (cs':=sv);clear hE hrp0 hlh hrpW hrpP hac;go_wp2_with (first|(refine z02 (by rfl) _ _ rfl (.agg sv) (.pointer (some ⟨w.heap.size,0,none⟩)) rfl l1 ?_)|(refine z01 rfl _ _ _ rfl _ _ rfl rfl hst ?_))
  refine bodyPost_ret (z0C (cs:=sv) rfl rfl rfl rfl bR2 underlying34 (by rw[sv_sz];kernel_rfl)) rfl ?_
  rw[HH.out];exact hfin
 subst hE;obtain⟨hh1,hh2⟩:=hlh rfl;have hFZ:=hck hh1;rw[hh1,hh2]at HHD;clear hh1 hh2 hlh hrp0 hck;cases wh;rotate_left
 ·
  as_aux_lemma=>
  have hrp:=hrpW rfl;clear hrpW hrpP HHD HG;have hap:=HAPP.out w1 HB1.out;obtain⟨r,hr⟩:∃r,x.apply F Z=r:=⟨_,rfl⟩;rw[hr]at hap hrp hac;have HRP:=zhs hrp;have cJ:=bJ1.cells;have lJ:=bJ1.lt;clear hr hrp HAPP;go_wp2_with (refine z02 (by rfl) _ _ rfl (.agg sv) (.pointer (some ⟨w.heap.size,0,none⟩)) rfl l1 ?_)
  refine hap.mono ?_;rintro e w3 ⟨sv3,rfl,hq3,hb3⟩;have sv3_sz:=hq3.size;have hone3:=hq3.one;have hst:=z0l (bD1.belowAll hb3) sv_sz sv3_sz hone3;have bD4:=(bD1.belowAll hb3).setRow (cs':=sv3);have bJ4:=(bJ1.belowAll hb3).rowFar (cs':=sv3) (show w.heap.size+1≠w.heap.size by omega)
  have bR4:=(bR1.belowAll hb3).rowFar (cs':=sv3) (show w.heap.size+1+1≠w.heap.size by omega)
  have hQ4:=hq3.row (Apt_.ne (zhT _) (by have:=zR.out;omega)) sv3
  have B4:=Below.setRow (B1.trans (hb3.mono B1.size)) (zhT _) sv3;have HZ4:Hid (w0.heap.size≤(w3.setRow w.heap.size sv3).heap.size):=zhs (by have h1:=hb3.size;have h2:=HB1.out.size;simp;omega)
  clear hap l1 bD1 bJ1 bR1 B1 hb3 hq3 hQ1 HQ cJ lJ;go_upto_region 8 with (refine z01 rfl _ _ _ rfl _ _ rfl rfl hst ?_)
  generalize w3.setRow w.heap.size sv3=W4 at *;clear hst;have l4:=z0z bD4 sv3_sz;by_cases hE:r.2.1=0
  rotate_left
  ·have HH:Hid (x.replay F Z=(0,r.2.1,r.2.2)):=zhs (by rw[HRP.out,if_pos hE])
   clear HRP hac;generalize r.1=mm at *;generalize r.2.1=E at *;generalize r.2.2=zz at *;have hE':(E != 0)=true:=by simpa using hE
   have hst:=z0l bR4 rfl sv3_sz hone3;have bR5:=bR4.setRow (cs':=sv3);have hfin:=RAv.mk (R:=w.heap.size+1+1) 0 E hQ4 B4 (by omega) zR.out
   clear hE;go_wp2_with (first|(refine z02 (by rfl) _ _ rfl (.agg sv3) (.pointer (some ⟨w.heap.size,0,none⟩)) rfl l4 ?_)|(refine z01 rfl _ _ _ rfl _ _ rfl rfl hst ?_))
   refine bodyPost_ret (z0C (cs:=sv3) rfl rfl rfl rfl bR5 underlying34 (by rw[sv3_sz];kernel_rfl)) rfl ?_
   rw[HH.out];exact hfin
  have hcalm:=hac hE;have HCL:Hid (x.replay F Z=if (r.2.2.clear F Z).1≠0 then (0,r.2.2.clear F Z)else (r.1,0,(r.2.2.clear F Z).2)):=zhs (by
   rw[HRP.out,if_neg (by rw[hE];simp)]
   by_cases h1:(r.2.2.clear F Z).1=0
   ·rw[if_neg (by rw[h1];simp),if_neg (by rw[h1];simp),←h1]
   ·rw[if_pos h1,if_pos h1])
  rw[hE];clear hE HRP hac l4;generalize r.2.2=z at *;generalize r.1=mm at *;have hcl:=z9E hQ4 (.inl hcalm) (fun b hb=>HN.out b (zhS HZ4.out hb)) F Z
  obtain⟨p,hp⟩:∃p,(z).clear F Z=p:=⟨_,rfl⟩;rw[hp]at hcl HCL;have cJ:=bJ4.cells;have lJ:=bJ4.lt;have l7:=z0z bD4 sv3_sz;clear hp;go_wp2_with (refine z02 (by rfl) _ _ rfl (.agg sv3) (.pointer (some ⟨w.heap.size,0,none⟩)) rfl l7 ?_)
  refine hcl.mono ?_;rintro e w8 ⟨sv8,rfl,hq8,hb8⟩;have hsz8:=hq8.size;have hone8:=hq8.one;have hst:=z0l (bD4.belowAll hb8) sv3_sz hsz8 hone8;have bD9:=(bD4.belowAll hb8).setRow (cs':=sv8);have bR9:=(bR4.belowAll hb8).rowFar (cs':=sv8) (show w.heap.size+1+1≠w.heap.size by omega)
  have hQ9:=hq8.row (Apt_.ne (zhT _) (by have:=zR.out;omega)) sv8
  have B9:=Below.setRow (B4.trans (hb8.mono B4.size)) (zhT _) sv8;clear hcl l7 hb8 hq8 cJ lJ;go_upto_region 20 with (refine z01 rfl _ _ _ rfl _ _ rfl rfl hst ?_)
  generalize w8.setRow w.heap.size sv8=W9 at *;clear hst;have l9:=z0z bD9 hsz8;have hst:=z0l bR9 rfl hsz8 hone8;have bR10:=bR9.setRow (cs':=sv8);by_cases hE9:p.1=0
  rotate_left
  ·have HH:Hid (x.replay F Z=(0,p.1,p.2)):=zhs (by rw[HCL.out,if_pos hE9])
   generalize p.1=E at *;generalize p.2=zz at *;have hE':(E != 0)=true:=by simpa using hE9
   have hfin:=RAv.mk (R:=w.heap.size+1+1) 0 E hQ9 B9 (by omega) zR.out
   clear hE9;go_wp2_with (first|(refine z02 (by rfl) _ _ rfl (.agg sv8) (.pointer (some ⟨w.heap.size,0,none⟩)) rfl l9 ?_)|(refine z01 rfl _ _ _ rfl _ _ rfl rfl hst ?_))
   refine bodyPost_ret (z0C (cs:=sv8) rfl rfl rfl rfl bR10 underlying34 (by rw[hsz8];kernel_rfl)) rfl ?_
   rw[HH.out];exact hfin
  ·have HH:Hid (x.replay F Z=(mm,0,p.2)):=zhs (by rw[HCL.out,if_neg (by rw[hE9];simp)])
   rw[hE9];clear hE9;generalize p.2=zz at *;have hfin:=RAv.mk (R:=w.heap.size+1+1) mm 0 hQ9 B9 (by omega) zR.out
   go_wp2_with (first|(refine z02 (by rfl) _ _ rfl (.agg sv8) (.pointer (some ⟨w.heap.size,0,none⟩)) rfl l9 ?_)|(refine z01 rfl _ _ _ rfl _ _ rfl rfl hst ?_))
   refine bodyPost_ret (z0C (cs:=sv8) rfl rfl rfl rfl bR10 underlying34 (by rw[hsz8];kernel_rfl)) rfl ?_
   rw[HH.out];exact hfin
 have HRP:=zhs (hrpP rfl);have hhd:=HHD.out w1 HB1.out;have cJ:=bJ1.cells;have lJ:=bJ1.lt;clear hrpW hrpP HHD HAPP hac;go_wp2_with (refine z02 (by rfl) _ _ rfl (.agg sv) (.pointer (some ⟨w.heap.size,0,none⟩)) rfl l1 ?_)
 refine hhd.mono ?_;rintro e w2 ⟨rfl,hb2⟩;have B2:=B1.trans (hb2.mono B1.size);have bD2:=bD1.belowAll hb2;have bJ2:=bJ1.belowAll hb2;have bR2:=bR1.belowAll hb2;have hQ2:=hQ1.below hb2;have HB2:=zhs (HB1.out.trans (hb2.mono HB1.out.size));clear hhd bD1 bJ1 bR1 B1 hb2 cJ lJ l1 hQ1 HB1;obtain⟨z,rfl⟩:=Int.eq_ofNat_of_zero_le (show 0≤Z by omega)
 rw[show (((z:Int) - 1).toNat)=z - 1 by omega]at HRP
 have hwr:IntKind.u32.wrap (q+1)=next q:=by unfold next;rw[IntKind.wrap_u32]
 obtain⟨q1,hq1⟩:∃q1,next q=q1:=⟨_,rfl⟩;rw[hq1]at hwr;have HNN:=zhs hq1;clear hq1;go_wp2_with fail
 go_loopw [11,14] (fun v11 i wr=>∃(k:Nat) (b:Bool),k+1≤z∧i=.int .i64 ((k:Int)+1)∧v11=.bool b∧x.staleTo F q k=(0,b)∧Blk wr w.heap.size 34 sv∧Blk wr (w.heap.size+1) 109 #[.int .i64 F,.int .i64 z]∧Blk wr (w.heap.size+1+1) 34 svZ∧Below w.heap.size w wr∧Below w0.heap.size w0 wr) (fun _ i _=>z - (intOf i).toNat)
 case atStart=>exact⟨0,false,by omega,rfl,rfl,rfl,bD2,bJ2,bR2,B2,HB2.out⟩
 case round=>
  obtain⟨k,b,hk,rfl,rfl,hto,bDk,bJk,bRk,hB,hB0⟩:=hrel;have lk:=z0z bDk sv_sz;have HTO:=zhs hto;clear bD2 bJ2 bR2 B2 hQ2;by_cases hlt:k+1<z
  ·as_aux_lemma=>
   have hlt':(k:Int)+1<z:=by omega
   have hstep:=z7o (x:=x) (F:=F) (q:=q) (k:=k) (by rw[hto])
   rw[hto]at hstep;simp only at hstep
   have hfi:(x.staleTo F q (k+1)).1≠0→x.replay F z=(0,(x.staleTo F q (k+1)).1,x):=fun h=>by
    have h2:=z7u (x:=x) (F:=F) (q:=q) h (show k+1≤z - 1 by omega)
    rw[HRP.out,h2,if_pos h]
   have HFI:=zhs hfi;have hg:=HG.out (F+((k:Int)+1)) wr hB0;unfold z2h frV at hg;generalize x.ge (F+((k:Int)+1))=E at *;generalize x.fr (F+((k:Int)+1))=f at *;have HST:=zhs hstep;have cJ:=bJk.cells;have lJ:=bJk.lt;clear hto hstep hfi;go_wp2_with (refine z02 (by rfl) _ _ rfl (.agg sv) (.pointer (some ⟨w.heap.size,0,none⟩)) rfl lk ?_)
   refine hg.mono ?_;rintro e w4 ⟨rfl,hb4⟩;obtain⟨fk,fs,fd⟩:=f;simp only
   obtain⟨FB,hFB⟩:∃FB,FB=w4.heap.size:=⟨_,rfl⟩;obtain⟨w5,hw5⟩:∃w5,w5=w4.alloc (.cells #[.int .i64 fk,.int .u32 fs,.string fd] 190):=⟨_,rfl⟩;have bF5:Blk w5 FB 190 #[.int .i64 fk,.int .u32 fs,.string fd]:=by rw[hw5,hFB];exact Blk.new _ _ _
   have b45:Below w4.heap.size w4 w5:=by rw[hw5];exact(zho _ _).alloc (zhT _) _
   have hb5:Below wr.heap.size wr w5:=hb4.trans (b45.mono hb4.size);have bD5:=bDk.belowAll hb5;have bJ5:=bJk.belowAll hb5;have bR5:=bRk.belowAll hb5;have B5:=hB.trans (hb5.mono hB.size);have B05:=hB0.trans (hb5.mono hB0.size);have hdv:=z5N E w5;clear hg hb4 b45 hb5 bDk bJk bRk lk cJ lJ hB hB0;go_upto_region 15 with fail
   rw[←hw5,←hFB];clear hw5 hFB;go_wp2_with fail
   refine hdv.mono ?_;rintro e w6 ⟨rfl,hb6⟩;have bF6:=bF5.belowAll hb6;have bD6:=bD5.belowAll hb6;have bJ6:=bJ5.belowAll hb6;have bR6:=bR5.belowAll hb6;have B6:=B5.trans (hb6.mono B5.size);have B06:=B05.trans (hb6.mono B05.size);clear hdv hb6 bF5 bD5 bJ5 bR5 B5 B05;cases hbk:z1c E;rotate_left
   ·have hne:=z9d hbk;have hst1:x.staleTo F q (k+1)=(E,false):=by rw[HST.out,if_pos hbk]
    have HH:Hid (x.replay F z=(0,E,x)):=zhs (by have:=HFI.out (by rw[hst1];exact hne);rw[hst1]at this;exact this)
    have hfin:=RAv.mk (R:=w.heap.size+1+1) 0 E (HQ.out.below B06) B6 (by omega) zR.out
    have hst:=z0l bR6 rfl sv_sz hone;have bR7:=bR6.setRow (cs':=sv);have l6:=z0z bD6 sv_sz;clear hbk hne hst1 HST HFI;go_wp2_with (first|(refine z02 (by rfl) _ _ rfl (.agg sv) (.pointer (some ⟨w.heap.size,0,none⟩)) rfl l6 ?_)|(refine z01 rfl _ _ _ rfl _ _ rfl rfl hst ?_))
    refine bodyPost_ret (z0C (cs:=sv) rfl rfl rfl rfl bR7 underlying34 (by rw[sv_sz];kernel_rfl)) rfl ?_
    rw[HH.out];exact hfin
   have HST2:Hid (x.staleTo F q (k+1)=(0,b||(E==0&&fs==q1&&(fk==2||fk==3)))):=zhs (by rw[HST.out,if_neg (by rw[hbk];simp),HNN.out])
   have cF:=bF6.cells;have lF:=bF6.lt;clear HST HFI hbk;obtain⟨b2,hb2⟩:∃b2,(b||(E==0&&fs==q1&&(fk==2||fk==3)))=b2:=⟨_,rfl⟩;rw[hb2]at HST2;have HB2:=zhs hb2;clear hb2;cases b
   ·cases h1:(E==0)
    ·have HV:Hid (b2=false):=zhs (by rw[←HB2.out,h1];rfl)
     clear HB2;go_wp2_with fail
     go_roundw
     case rel=>exact⟨k+1,b2,by omega,by go_num,by rw[HV.out],HST2.out,bD6,bJ6,bR6,B6,B06⟩
     case measure=>simp[intOf];omega
    ·cases h2:(fs==q1)
     ·have HV:Hid (b2=false):=zhs (by rw[←HB2.out,h1,h2];rfl)
      clear HB2;go_wp2_with fail
      go_roundw
      case rel=>exact⟨k+1,b2,by omega,by go_num,by rw[HV.out],HST2.out,bD6,bJ6,bR6,B6,B06⟩
      case measure=>simp[intOf];omega
     ·cases h3:(fk==2)
      ·have HV:Hid (b2=(fk==3)):=zhs (by rw[←HB2.out,h1,h2,h3];rfl)
       clear HB2;go_wp2_with fail
       go_roundw
       case rel=>exact⟨k+1,b2,by omega,by go_num,by rw[HV.out],HST2.out,bD6,bJ6,bR6,B6,B06⟩
       case measure=>simp[intOf];omega
      ·have HV:Hid (b2=true):=zhs (by rw[←HB2.out,h1,h2,h3];rfl)
       clear HB2;go_wp2_with fail
       go_roundw
       case rel=>exact⟨k+1,b2,by omega,by go_num,by rw[HV.out],HST2.out,bD6,bJ6,bR6,B6,B06⟩
       case measure=>simp[intOf];omega
   ·have HV:Hid (b2=true):=zhs (by rw[←HB2.out];rfl)
    clear HB2;go_wp2_with fail
    go_roundw
    case rel=>exact⟨k+1,b2,by omega,by go_num,by rw[HV.out],HST2.out,bD6,bJ6,bR6,B6,B06⟩
    case measure=>simp[intOf];omega
  ·as_aux_lemma=>
   obtain rfl:z=k+1:=by omega
   have cJ:=bJk.cells;have lJ:=bJk.lt;have HZ4:=zhs hB0.size;have hQk:=HQ.out.below hB0;cases b
   ·have HH:Hid (x.replay F ((k+1:Nat):Int)=(0,0,x)):=zhs (by rw[HRP.out,Nat.add_sub_cancel,HTO.out,if_neg (by simp),if_neg (by simp)])
    have hfin:=RAv.mk (R:=w.heap.size+1+1) 0 0 hQk hB (by omega) zR.out
    have hst:=z0l bRk rfl sv_sz hone;have bR7:=bRk.setRow (cs':=sv);clear hto;go_wp2_with (first|(refine z02 (by rfl) _ _ rfl (.agg sv) (.pointer (some ⟨w.heap.size,0,none⟩)) rfl lk ?_)|(refine z01 rfl _ _ _ rfl _ _ rfl rfl hst ?_))
    refine bodyPost_ret (z0C (cs:=sv) rfl rfl rfl rfl bR7 underlying34 (by rw[sv_sz];kernel_rfl)) rfl ?_
    rw[HH.out];exact hfin
   ·have HCL:Hid (x.replay F ((k+1:Nat):Int)=if (x.clear F ((k+1:Nat):Int)).1≠0 then (0,x.clear F ((k+1:Nat):Int))else (0,0,(x.clear F ((k+1:Nat):Int)).2) ):=zhs (by
     rw[HRP.out,Nat.add_sub_cancel,HTO.out,if_neg (by simp),if_pos (by simp)]
     by_cases h1:(x.clear F ((k+1:Nat):Int)).1=0
     ·rw[if_neg (by rw[h1];simp),←h1]
     ·rw[if_pos h1])
    clear hto cJ lJ lk;have hcl:=z9E hQk HS.out (fun b hb=>HN.out b (zhS HZ4.out hb)) F ((k+1:Nat):Int)
    obtain⟨p,hp⟩:∃p,(x).clear F ((k+1:Nat):Int)=p:=⟨_,rfl⟩;rw[hp]at hcl HCL;have cJ:=bJk.cells;have lJ:=bJk.lt;have l7:=z0z bDk sv_sz;clear hp;go_wp2_with (refine z02 (by rfl) _ _ rfl (.agg sv) (.pointer (some ⟨w.heap.size,0,none⟩)) rfl l7 ?_)
    refine hcl.mono ?_;rintro e w8 ⟨sv8,rfl,hq8,hb8⟩;have hsz8:=hq8.size;have hone8:=hq8.one;have hst:=z0l (bDk.belowAll hb8) sv_sz hsz8 hone8;have bD9:=(bDk.belowAll hb8).setRow (cs':=sv8);have bR9:=(bRk.belowAll hb8).rowFar (cs':=sv8) (show w.heap.size+1+1≠w.heap.size by omega)
    have hQ9:=hq8.row (Apt_.ne (zhT _) (by have:=zR.out;omega)) sv8
    have B9:=Below.setRow (hB.trans (hb8.mono hB.size)) (zhT _) sv8;clear hcl l7 hb8 hq8 cJ lJ;go_upto_region 20 with (refine z01 rfl _ _ _ rfl _ _ rfl rfl hst ?_)
    generalize w8.setRow w.heap.size sv8=W9 at *;clear hst;have l9:=z0z bD9 hsz8;have hst:=z0l bR9 rfl hsz8 hone8;have bR10:=bR9.setRow (cs':=sv8);by_cases hE9:p.1=0
    rotate_left
    ·have HH:Hid (x.replay F ((k+1:Nat):Int)=(0,p.1,p.2)):=zhs (by rw[HCL.out,if_pos hE9])
     generalize p.1=E at *;generalize p.2=zz at *;have hE':(E != 0)=true:=by simpa using hE9
     have hfin:=RAv.mk (R:=w.heap.size+1+1) 0 E hQ9 B9 (by omega) zR.out
     clear hE9;go_wp2_with (first|(refine z02 (by rfl) _ _ rfl (.agg sv8) (.pointer (some ⟨w.heap.size,0,none⟩)) rfl l9 ?_)|(refine z01 rfl _ _ _ rfl _ _ rfl rfl hst ?_))
     refine bodyPost_ret (z0C (cs:=sv8) rfl rfl rfl rfl bR10 underlying34 (by rw[hsz8];kernel_rfl)) rfl ?_
     rw[HH.out];exact hfin
    ·have HH:Hid (x.replay F ((k+1:Nat):Int)=(0,0,p.2)):=zhs (by rw[HCL.out,if_neg (by rw[hE9];simp)])
     rw[hE9];clear hE9;generalize p.2=zz at *;have hfin:=RAv.mk (R:=w.heap.size+1+1) 0 0 hQ9 B9 (by omega) zR.out
     go_wp2_with (first|(refine z02 (by rfl) _ _ rfl (.agg sv8) (.pointer (some ⟨w.heap.size,0,none⟩)) rfl l9 ?_)|(refine z01 rfl _ _ _ rfl _ _ rfl rfl hst ?_))
     refine bodyPost_ret (z0C (cs:=sv8) rfl rfl rfl rfl bR10 underlying34 (by rw[hsz8];kernel_rfl)) rfl ?_
     rw[HH.out];exact hfin
theorem zgm {w:World}{P:Nat→Prop}{x:DevS}{sv:Array Value}(hq:RSv w P x sv)(hP:∀b,w.heap.size≤b→P b):
  Calls prog 57 #[.agg sv,.slice none 0 0] w (RGv w P (0,x.crashed [])):=by
 obtain⟨w0,hw0⟩:∃w0,w0=(w.alloc (.cells sv 34)).alloc (.cells svZ 34):=⟨_,rfl⟩;have bD:Blk w0 w.heap.size 34 sv:=by rw[hw0];exact(Blk.new _ _ _).alloc _
 have bR:Blk w0 (w.heap.size+1) 34 svZ:=by rw[hw0];exact Blk.new' (by simp)
 have B0:Below w.heap.size w w0:=by rw[hw0];(repeat' (first|with_reducible (first|exact zho _ _|assumption|refine zhp ?_ ?_ _|refine zhq ?_|refine z00 ?_ _|refine zhr ?_ ?_ _|exact zhT _)|omega|(simp;done)|(simp;omega)))
 have hzz:=zhs (show w.heap.size+1<w0.heap.size from bR.lt)
 have hsz:=hq.size;have hx:=hq.ok;have HP:=zhs hP;have hcp:∀W,Below w.heap.size w W→Calls prog 129 #[.agg sv] W (zeu W x):=fun W hW=>by
  obtain⟨A,c,C,d,rfl,h⟩:=hq;exact z8M P A C c d x W (h.below hW)
 have HCP:=zhs hcp;clear hq hP hcp;unfold svZ at hw0;go_enter func57,ntmps57
 go_upto_region 1 with fail
 rw[←hw0];clear hw0;go_wp2_with fail
 go_loopw [6] (fun q wr=>q=.int .i64 0∧wr=w0) (fun _ _=>0)
 case atStart=>exact⟨rfl,rfl⟩
 case round=>
  obtain⟨rfl,hw⟩:=hrel;replace hw:=hw.symm;subst hw;go_wp2_with fail
  go_loopw [7] (fun q wr=>q=.int .i64 1∧wr=w0) (fun _ _=>0)
  case atStart=>exact⟨rfl,rfl⟩
  case round=>
   obtain⟨rfl,hw⟩:=hrel;replace hw:=hw.symm;subst hw;have l0:=z0z bD hsz;have hc:=HCP.out w0 B0;go_wp2_with (refine z02 (by rfl) _ _ rfl (.agg sv) (.pointer (some ⟨w.heap.size,0,none⟩)) rfl l0 ?_)
   refine hc.mono ?_;rintro e w1 ⟨sv1,cv1,rfl,own1,own2,B01⟩;obtain⟨a1,c1,rfl⟩:=z0G own1;obtain⟨a2,c2,rfl⟩:=z0G own2;have bR1:=bR.belowAll B01;have B1:=B0.trans (B01.mono B0.size);clear l0 hc bD bR B01 own2;unfold z09;obtain⟨TB,hTB⟩:∃TB,TB=w1.heap.size:=⟨_,rfl⟩;obtain⟨w2,hw2⟩:∃w2,w2=w1.alloc (.cells #[.slice a1 x.stable.length c1,.slice a2 x.cache.length c2,.int .i64 x.taken,.int .i64 x.power,.bool x.off] 34):=⟨_,rfl⟩;have bT2:Blk w2 TB 34 #[.slice a1 x.stable.length c1,.slice a2 x.cache.length c2,.int .i64 x.taken,.int .i64 x.power,.bool x.off]:=by rw[hw2,hTB];exact Blk.new _ _ _
   have b12:Below w1.heap.size w1 w2:=by rw[hw2];exact(zho _ _).alloc (zhT _) _
   have bR2:=bR1.belowAll b12;have own2:=z0a own1 b12;have B2:=B1.trans (b12.mono B1.size);have hTw:w.heap.size+1<TB:=by have:=bR1.lt;omega
   have hoT:∀q,(Value.slice a1 x.stable.length c1).ownBlock=some q→q<TB:=fun q hq=>by rw[hTB];exact(own1.lt q hq).2
   go_upto_region 12 with fail
   rw[←hw2,←hTB];clear hw2 hTB b12 own1 bR1 B1;go_wp2_with fail
   go_loopw [9] (fun q wr=>q=.int .i64 0∧wr=w2) (fun _ _=>0)
   case atStart=>exact⟨rfl,rfl⟩
   case round=>
    obtain⟨rfl,hw⟩:=hrel;replace hw:=hw.symm;subst hw;have cT:=bT2.cells;have lT:=bT2.lt;have fT:=bT2.free;have bT3:=((bT2.set_ 1 (.slice none 0 0)).set_ 3 (.int .i64 (-1))).set_ 4 (.bool false);obtain⟨W3,hW3⟩:∃W3,W3=((w2.setCell ⟨TB,1,none⟩ (.slice none 0 0)).setCell ⟨TB,3,none⟩ (.int .i64 (-1))).setCell ⟨TB,4,none⟩ (.bool false):=⟨_,rfl⟩;have hk3:∀b,b≠TB→W3.heap[b]?=w2.heap[b]?:=fun b hb=>by
     rw[hW3];exact(Below.heap_setCell _ _ _ _ hb).trans ((Below.heap_setCell _ _ _ _ hb).trans (Below.heap_setCell _ _ _ _ hb))
    have B3:Below w.heap.size w W3:=by rw[hW3];exact((B2.setCell (p:=⟨TB,1,none⟩) (by show w.heap.size≤TB;omega) _).setCell (p:=⟨TB,3,none⟩) (by show w.heap.size≤TB;omega) _).setCell (p:=⟨TB,4,none⟩) (by show w.heap.size≤TB;omega) _
    rw[←hW3]at bT3;have bR3:Blk W3 (w.heap.size+1) 34 svZ:=(hk3 _ (by omega)).trans bR2
    have own3:W3.ownsRow w0.heap.size 128 128 (.slice a1 x.stable.length c1) x.stable.length (x.stable.flatMap secV):=z0c own2 fun q hq=>hk3 _ (by have:=hoT q hq;omega)
    go_upto_region 17 with fail
    rw[←hW3];clear hW3 hk3 cT lT fT bT2 bR2 own2 B2;have e3:((((#[.slice a1 x.stable.length c1,.slice a2 x.cache.length c2,.int .i64 x.taken,.int .i64 x.power,.bool x.off]:Array Value).setIfInBounds 1 (.slice none 0 0)).setIfInBounds 3 (.int .i64 (-1))).setIfInBounds 4 (.bool false))=#[.slice a1 x.stable.length c1,.slice none 0 0,.int .i64 x.taken,.int .i64 (-1),.bool false]:=rfl;have bT3':Blk W3 TB 34 #[.slice a1 x.stable.length c1,.slice none 0 0,.int .i64 x.taken,.int .i64 (-1),.bool false]:=bT3;clear bT3 e3;have l3:=z0z bT3' rfl;have hst:=z0l (sv:=#[.slice a1 x.stable.length c1,.slice none 0 0,.int .i64 x.taken,.int .i64 (-1),.bool false]) bR3 rfl rfl (by simp[Value.oneCell'])
    have bR4:=bR3.setRow (cs':=#[.slice a1 x.stable.length c1,.slice none 0 0,.int .i64 x.taken,.int .i64 (-1),.bool false]);have own4:(W3.setRow (w.heap.size+1) #[.slice a1 x.stable.length c1,.slice none 0 0,.int .i64 x.taken,.int .i64 (-1),.bool false]).ownsRow w0.heap.size 128 128 (.slice a1 x.stable.length c1) x.stable.length (x.stable.flatMap secV):=z0c own3 fun q hq=>z0b _ _ _ _ (by have:=(own3.lt q hq).1;have:=hzz.out;omega)
    have B4:=Below.setRow B3 (g:=w.heap.size+1) (by omega) #[.slice a1 x.stable.length c1,.slice none 0 0,.int .i64 x.taken,.int .i64 (-1),.bool false]
    go_wp2_with (first|(refine z02 (by rfl) _ _ rfl (.agg #[.slice a1 x.stable.length c1,.slice none 0 0,.int .i64 x.taken,.int .i64 (-1),.bool false]) (.pointer (some ⟨TB,0,none⟩)) rfl l3 ?_)|(refine z01 rfl _ _ _ rfl _ _ rfl rfl hst ?_))
    refine bodyPost_ret (z08 (cs:=#[.slice a1 x.stable.length c1,.slice none 0 0,.int .i64 x.taken,.int .i64 (-1),.bool false]) rfl rfl rfl bR4 underlying34 (by kernel_rfl)) rfl ?_
    refine⟨_,rfl,⟨a1,c1,none,0,rfl,⟨⟨hx.lo,hx.hi,hx.sec,fun _ h=>(by cases h),zi9 _,hx.tk,(by decide:(-1:Int)≤-1∧(-1:Int)≤1000000000000)⟩,?_,.inl rfl,z2m own4 (fun b hb=>HP.out b (by have:=hzz.out;omega)),.inl rfl⟩⟩,B4⟩
    exact z1z own4 (z2B fun s hs=>(hx.sec s hs).1)
theorem eqFields2 {P : Program} {w : World} {d : Nat} {xs ys : Array Value} {f0 f1 : Field} {a0 b0 a1 b1 : Value} (n0 : f0.name ≠ "_") (n1 : f1.name ≠ "_") (h0 : (part f0.type xs f0.offset).run P w = .ok a0 w) (k0 : (part f0.type ys f0.offset).run P w = .ok b0 w)
  (e0:(Op.equalIn d f0.type a0 b0).run P w=.ok true w) (h1:(part f1.type xs f1.offset).run P w=.ok a1 w) (k1:(part f1.type ys f1.offset).run P w=.ok b1 w) (e1:(Op.equalIn d f1.type a1 b1).run P w=.ok true w):(Op.eqFields d xs ys [f0,f1]).run P w=.ok true w:=by
 simp only[Op.eqFields,ne_eq,n0,n1,not_false_eq_true,if_true,Sem.run_bind,h0,k0,h1,k1,Result.andThen_ok,e0,e1,Bool.not_true,Bool.false_eq_true,if_false,Sem.run_pure]
theorem zgA (p:Int × List Int)(hp:p.2.length=128)(w:World):
  (binOp .neq 130 (.agg (dwV p).toArray) (.agg (dwV p).toArray)).run prog w=.ok (.bool false) w:=by
 have hl:(dwV p).length=129:=by rw[z0I,hp]
 have h0:(part 3 (dwV p).toArray 0).run prog w=.ok (.int .i64 p.1) w:=by
  simp[part,isAgg,run_underlying underlying3,dwV]
 have h1:(part 128 (dwV p).toArray 1).run prog w=.ok (.agg (z03 p.2)) w:=by
  unfold part;simp only[Sem.run_bind,z9g,Result.andThen_ok,if_true,z3r,Sem.run_pure];have e:(dwV p).toArray.extract 1 (1+128)=z03 p.2:=by
   apply Array.toList_inj.1
   rw[Array.toList_extract];show List.take _ (List.drop 1 (.int .i64 p.1::secV p.2))=secV p.2
   rw[List.drop_succ_cons,List.drop_zero];exact List.take_of_length_le (by rw[z0T];omega)
  rw[e]
 have h2:∀d,(Op.equalIn (d+1) 3 (.int .i64 p.1) (.int .i64 p.1)).run prog w=.ok true w:=fun d=>by rw[run_equalIn_int w d 3 .i64 _ _ _ underlying3];simp
 have h3:(Op.equalIn 9999 128 (.agg (z03 p.2)) (.agg (z03 p.2))).run prog w=.ok true w:=by
  have hi:∃i,prog.info? 5=some i:=by
   obtain⟨i,h,_⟩:=info_parts (show (prog.info? 5).map (fun i=>(i.zero,i.size,i.bytes))=some (some (.int .u8 0),1,1) by kernel_rfl)
   exact⟨i,h⟩
  obtain⟨i,hi⟩:=hi;have hc:prog.cellsOf 5=1:=by kernel_rfl
  rw[run_equalIn_array w 9998 (z03 p.2) (z03 p.2) underlying128 hi,hc,z4S 9997 p.2 p.2 w (List.range 128) (fun j hj=>by have:=List.mem_range.1 hj;omega)]
  rw[←hp,z5g rfl];simp
 have hu:=underlying130;have hf:prog.underlying 130=some (.struct (prog.fieldsOf 130)):=by
  unfold Program.fieldsOf;rw[hu]
 rw[run_neq_struct,run_equalIn_struct w 9999 130 _ _ hf Tryz.stoodInHeld130];unfold Program.fieldsOf;rw[hu];have he := eqFields2 (P := prog) (w := w) (d := 9999) (xs := (dwV p).toArray) (ys := (dwV p).toArray) (f0 := { name := "At", type := 3, offset := 0, embedded := false, tag := "", pkgPath := "", byteOffset := 0 }) (f1 := { name := "Data", type := 128, offset := 1, embedded := false, tag := "", pkgPath := "", byteOffset := 8 }) (by decide) (by decide) h0 h0 (h2 9998) h1 h1 h3
 exact(congrArg (fun r=>Result.andThen r fun b w'=>Result.ok (Value.bool !b) w') he).trans rfl
def DwAt (w:World)(p:Addr)(q:Int × List Int):Prop:=q.2.length=128∧z2S w p (dwV q)
theorem z6Q {o:Oper}{a:Act}{p:Addr}{q:Int × List Int}{w:World}(x:Operand)(ho:o.op=.load 130 x)(hx:a.eval x=.pointer (some p))(hs:DwAt w p q):(execOp a.eval o).run prog w=.ok (.value (.agg (dwV q).toArray)) w:=
 z0w 130 x ho hx (z0P hs.2 (zcF w) (by rw[z0I,hs.1];exact z6b w))
theorem RSt.dw {w:World}{P:Nat→Prop}{A C:Option Addr}{x:DevS}(h:RSt w P A C x)(hc:0<x.cache.length):∃g,C=some ⟨g,0,none⟩∧∀k (hk:k<x.cache.length),DwAt w ⟨g,k*129,none⟩ x.cache[k]:=by
 have hne:x.cache≠[]:=fun e=>by rw[e]at hc;simp at hc
 rcases h.cac with h0|⟨b,off,e,hl,hcc⟩
 ·exact absurd h0 (h.cne hne)
 ·have h2:=((h.lc.resolve_left hne) _ e).2;simp only[Addr.mk.injEq,and_true,true_and]at h2;subst h2;refine⟨b,e,fun k hk=>⟨(h.ok.cac _ (zhQ hk)).2.2.1,rfl,fun j u hu=>?_⟩⟩
  have hj:j<129:=by have:=(zhM.1 hu).1;rw[z0I,(h.ok.cac _ (zhQ hk)).2.2.1]at this;exact this
  have:=hcc (k*129+j) u (by
   rw[z1r (f:=dwV) (m:=129) (fun q hq=>by rw[z0I,(h.ok.cac q hq).2.2.1]) hj hk];exact hu)
  rw[zi8]at this;exact this
theorem z5K {P:Program}{o:Oper}{a:Act}{v:Value}{w:World}{xs ys:Array Value}(op:BinOp)(t:TypeId)(x y:Operand)(ty:TypeId)(ho:o.op=.binOp op t x y ty)(hx:a.eval x=.agg xs)(hy:a.eval y=.agg ys)(hm:P.eqGuardType P.depth t=false)
  (hrun:(binOp op t (.agg xs) (.agg ys)).run P w=.ok v w):(execOp a.eval o).run P w=.ok (.value v) w:=by
 unfold execOp;simp only[ho,hx,hy,Sem.run_bind,run_eqGuard_agg w op t x y xs ys hm,Result.andThen_ok,hrun,Sem.run_pure]
theorem zfD {w:World}{P Q:Nat→Prop}{x:DevS}{sv su:Array Value}(h1:RSv w P x sv)(h2:RSv w Q x su):
  Calls prog 11 #[.agg sv,.agg su] w fun e w'=>e=.returned (.bool true)∧Below w.heap.size w w':=by
 obtain⟨A1,c1,C1,d1,rfl,h1⟩:=h1;obtain⟨A2,c2,C2,d2,rfl,h2⟩:=h2;obtain⟨g1,rfl,hg1,hs1⟩:=h1.sec;obtain⟨g2,rfl,hg2,hs2⟩:=h2.sec;have hdw:0<x.cache.length→∃b1 b2,C1=some ⟨b1,0,none⟩∧C2=some ⟨b2,0,none⟩∧∀W,Below w.heap.size w W→∀k (hk:k<x.cache.length),DwAt W ⟨b1,k*129,none⟩ x.cache[k]∧DwAt W ⟨b2,k*129,none⟩ x.cache[k]:=fun hc=>by
  obtain⟨b1,e1,k1⟩:=h1.dw hc;obtain⟨b2,e2,k2⟩:=h2.dw hc;refine⟨b1,b2,e1,e2,fun W hW k hk=>?_⟩
  obtain⟨b1',e1',k1'⟩:=(h1.below hW).dw hc;obtain⟨b2',e2',k2'⟩:=(h2.below hW).dw hc;rw[e1]at e1';rw[e2]at e2';cases e1';cases e2';exact⟨k1' k hk,k2' k hk⟩
 have hok:=h1.ok;have hlo:=hok.lo;have hhi:=hok.hi;have hcl:=hok.len;have hsec:∀W,Below w.heap.size w W→∀k,k<x.stable.length→SecAt W ⟨g1,k*128,none⟩ (x.stable.getD k [])∧SecAt W ⟨g2,k*128,none⟩ (x.stable.getD k []):=fun W hW k hk=>⟨(hs1 k hk).belowAll hW hg1,(hs2 k hk).belowAll hW hg2⟩
 have hs128:∀k,k<x.stable.length→(x.stable.getD k []).length=128:=fun k hk=>(hs1 k hk).1
 have HSEC:=zhs hsec;have HDW:=zhs hdw;have H128:=zhs hs128;clear h1 h2 hs1 hs2 hg1 hg2 hdw hsec hs128 hok;obtain⟨xs,ys,tk,pw,off⟩:=x;simp only at HSEC HDW H128 hlo hhi hcl ⊢
 obtain⟨wA,hA⟩:∃wA,wA=(w.alloc (.cells (z09 (.slice (some ⟨g1,0,none⟩) xs.length c1) (.slice C1 ys.length d1) tk pw off) 34)).alloc (.cells (z09 (.slice (some ⟨g2,0,none⟩) xs.length c2) (.slice C2 ys.length d2) tk pw off) 34):=⟨_,rfl⟩;have bA:Blk wA w.heap.size 34 #[.slice (some ⟨g1,0,none⟩) xs.length c1,.slice C1 ys.length d1,.int .i64 tk,.int .i64 pw,.bool off]:=by rw[hA];exact(Blk.new _ _ _).alloc _
 have bB:Blk wA (w.heap.size+1) 34 #[.slice (some ⟨g2,0,none⟩) xs.length c2,.slice C2 ys.length d2,.int .i64 tk,.int .i64 pw,.bool off]:=by rw[hA];exact Blk.new' (by simp)
 have BA:Below w.heap.size w wA:=by rw[hA];(repeat' (first|with_reducible (first|exact zho _ _|assumption|refine zhp ?_ ?_ _|refine zhq ?_|refine z00 ?_ _|refine zhr ?_ ?_ _|exact zhT _)|omega|(simp;done)|(simp;omega)))
 have cA:=bA.cells;have lA:=bA.lt;have cB:=bB.cells;have lB:=bB.lt;unfold z09 at hA;go_enter func11,ntmps11
 unfold z09;go_upto_region 1 with fail
 rw[←hA];clear hA;go_wp2_with fail
 go_loopw [5] (fun q wr=>∃k:Nat,k≤xs.length∧q=.int .i64 k∧Below wA.heap.size wA wr) (fun q _=>xs.length - (intOf q).toNat)
 case atStart=>exact⟨0,zi9 _,rfl,zho _ _⟩
 case round=>
  obtain⟨k,hk,rfl,hb⟩:=hrel;have B1:=BA.trans (hb.mono BA.size);have bAr:=bA.belowAll hb;have bBr:=bB.belowAll hb;have cA:=bAr.cells;have lA:=bAr.lt;have cB:=bBr.cells;have lB:=bBr.lt;by_cases hlt:k<xs.length
  ·as_aux_lemma=>
   have hNE:=zgJ (xs.getD k []) (H128.out k hlt);obtain⟨s1,s2⟩:=HSEC.out wr.drew B1.drew k hlt;have hlt':(k:Int)<xs.length:=by omega
   generalize xs.getD k []=zs at *;have HS:=zhs (show wr.drew.cell? ⟨w.heap.size,0,none⟩=some (.slice (some ⟨g1,0,none⟩) xs.length c1)∧wr.drew.cell? ⟨w.heap.size+1,0,none⟩=some (.slice (some ⟨g2,0,none⟩) xs.length c2)∧SecAt wr.drew ⟨g1,k*128,none⟩ zs∧SecAt wr.drew ⟨g2,k*128,none⟩ zs from ⟨(cA 0).trans rfl,(cB 0).trans rfl,s1,s2⟩)
   clear s1 s2;go_wp2_with fail
   clear cA lA cB lB;refine z06 [.take 0,.take 1,.take 2,.take 3,.take 4,.take 5,.take 6,.take 7,.take 8,.take 9,.take 10] 11 (fun W=>W.cell? ⟨w.heap.size,0,none⟩=some (.slice (some ⟨g1,0,none⟩) xs.length c1)∧W.cell? ⟨w.heap.size+1,0,none⟩=some (.slice (some ⟨g2,0,none⟩) xs.length c2)∧SecAt W ⟨g1,k*128,none⟩ zs∧SecAt W ⟨g2,k*128,none⟩ zs) (by kernel_rfl) (by kernel_rfl) (fun _ _ _ _ _ h=>h) HS.out ?_
   simp only[zhY,zhZ,Ms.fill,zhy,zhz];iterate 4 (refine z04 (by rfl) ?_ (fun w' hw'=>?_) ?_;rotate_left;(focus (go_simp;(try with_reducible rfl)));(try simp only[Act.put,zht,zhu,zhv]))
   refine z04 (by rfl) _ (fun w' hw'=>z3n _ rfl rfl hw'.2.2.1) ?_
   simp only[Act.put,zht,zhu,zhv];iterate 4 (refine z04 (by rfl) ?_ (fun w' hw'=>?_) ?_;rotate_left;(focus (go_simp;(try with_reducible rfl)));(try simp only[Act.put,zht,zhu,zhv]))
   refine z04 (by rfl) _ (fun w' hw'=>z3n _ rfl rfl hw'.2.2.2) ?_
   simp only[Act.put,zht,zhu,zhv];(refine z04 (by rfl) ?_ (fun w' hw'=>?_) ?_;rotate_left;(focus (go_simp;(try with_reducible rfl)));(try simp only[Act.put,zht,zhu,zhv]))
   refine z0f ?_;go_wp2_with fail
   go_roundw
   case rel=>exact⟨k+1,by omega,by go_num,hb.drew⟩
   case measure=>simp[intOf];omega
  ·have hd:¬((k:Int)<(xs.length:Int)):=by omega
   go_wp2_with fail
   clear cA lA cB lB bAr bBr B1;go_loopw [6] (fun q wr=>∃k:Nat,k≤ys.length∧q=.int .i64 k∧Below wA.heap.size wA wr) (fun q _=>ys.length - (intOf q).toNat)
   case atStart=>exact⟨0,zi9 _,rfl,hb⟩
   case round=>
    obtain⟨k,hk,rfl,hb2⟩:=hrel;have B1:=BA.trans (hb2.mono BA.size);have bAr:=bA.belowAll hb2;have bBr:=bB.belowAll hb2;have cA:=bAr.cells;have lA:=bAr.lt;have cB:=bBr.cells;have lB:=bBr.lt;by_cases hlt:k<ys.length
    ·as_aux_lemma=>
     obtain⟨b1,b2,rfl,rfl,hdw⟩:=HDW.out (by omega)
     obtain⟨s1,s2⟩:=hdw wr.drew B1.drew k hlt;have hNE:=zgA _ s1.1;have hlt':(k:Int)<ys.length:=by omega
     clear hdw;generalize ys[k]=zs at *;have HS:=zhs (show wr.drew.cell? ⟨w.heap.size,1,none⟩=some (.slice (some ⟨b1,0,none⟩) ys.length d1)∧wr.drew.cell? ⟨w.heap.size+1,1,none⟩=some (.slice (some ⟨b2,0,none⟩) ys.length d2)∧DwAt wr.drew ⟨b1,k*129,none⟩ zs∧DwAt wr.drew ⟨b2,k*129,none⟩ zs from ⟨(cA 1).trans rfl,(cB 1).trans rfl,s1,s2⟩)
     clear s1 s2;go_wp2_with fail
     clear cA lA cB lB;refine z06 [.take 0,.take 1,.take 2,.take 3,.take 4,.take 5,.take 6,.take 7,.take 8,.take 9,.take 10] 11 (fun W=>W.cell? ⟨w.heap.size,1,none⟩=some (.slice (some ⟨b1,0,none⟩) ys.length d1)∧W.cell? ⟨w.heap.size+1,1,none⟩=some (.slice (some ⟨b2,0,none⟩) ys.length d2)∧DwAt W ⟨b1,k*129,none⟩ zs∧DwAt W ⟨b2,k*129,none⟩ zs) (by kernel_rfl) (by kernel_rfl) (fun _ _ _ _ _ h=>h) HS.out ?_
     simp only[zhY,zhZ,Ms.fill,zhy,zhz];iterate 4 (refine z04 (by rfl) ?_ (fun w' hw'=>?_) ?_;rotate_left;(focus (go_simp;(try with_reducible rfl)));(try simp only[Act.put,zht,zhu,zhv]))
     refine z04 (by rfl) _ (fun w' hw'=>z6Q _ rfl rfl hw'.2.2.1) ?_
     simp only[Act.put,zht,zhu,zhv];iterate 4 (refine z04 (by rfl) ?_ (fun w' hw'=>?_) ?_;rotate_left;(focus (go_simp;(try with_reducible rfl)));(try simp only[Act.put,zht,zhu,zhv]))
     refine z04 (by rfl) _ (fun w' hw'=>z6Q _ rfl rfl hw'.2.2.2) ?_
     simp only[Act.put,zht,zhu,zhv];refine z04 (by rfl) (.bool false) (fun w' hw'=>z5K .neq 130 _ _ _ rfl rfl rfl Tryz.eqGuardType130 (hNE w')) ?_
     simp only[Act.put,zht,zhu,zhv];refine z0f ?_;go_wp2_with fail
     go_roundw
     case rel=>exact⟨k+1,by omega,by go_num,hb2.drew⟩
     case measure=>simp[intOf];omega
    ·have hd:¬((k:Int)<(ys.length:Int)):=by omega
     go_wp2_with fail
     go_ret
     exact⟨rfl,B1⟩
theorem eqFields3 {P : Program} {w : World} {d : Nat} {xs ys : Array Value} {f0 f1 f2 : Field} {a0 b0 a1 b1 a2 b2 : Value} (n0 : f0.name ≠ "_") (n1 : f1.name ≠ "_") (n2 : f2.name ≠ "_") (h0 : (part f0.type xs f0.offset).run P w = .ok a0 w) (k0 : (part f0.type ys f0.offset).run P w = .ok b0 w)
  (e0:(Op.equalIn d f0.type a0 b0).run P w=.ok true w) (h1:(part f1.type xs f1.offset).run P w=.ok a1 w) (k1:(part f1.type ys f1.offset).run P w=.ok b1 w) (e1:(Op.equalIn d f1.type a1 b1).run P w=.ok true w)
  (h2:(part f2.type xs f2.offset).run P w=.ok a2 w) (k2:(part f2.type ys f2.offset).run P w=.ok b2 w) (e2:(Op.equalIn d f2.type a2 b2).run P w=.ok true w):(Op.eqFields d xs ys [f0,f1,f2]).run P w=.ok true w:=by
 simp only[Op.eqFields,ne_eq,n0,n1,n2,not_false_eq_true,if_true,Sem.run_bind,h0,k0,h1,k1,h2,k2,Result.andThen_ok,e0,e1,e2,Bool.not_true,Bool.false_eq_true,if_false,Sem.run_pure]
theorem zh3 (r:Rec)(w:World):(binOp .neq 118 (.agg (recC r)) (.agg (recC r))).run prog w=.ok (.bool false) w:=by
 have h0:(part 3 (recC r) 0).run prog w=.ok (.int .i64 r.at_) w:=by simp[part,isAgg,run_underlying underlying3,recC]
 have h1:(part 3 (recC r) 1).run prog w=.ok (.int .i64 r.kind) w:=by simp[part,isAgg,run_underlying underlying3,recC]
 have h2:(part 9 (recC r) 2).run prog w=.ok (.string r.data) w:=by simp[part,isAgg,run_underlying underlying9,recC]
 have e0:∀(d:Nat) (a:Int),(Op.equalIn (d+1) 3 (.int .i64 a) (.int .i64 a)).run prog w=.ok true w:=fun d a=>by rw[run_equalIn_int w d 3 .i64 _ _ _ underlying3];simp
 have e2:∀(d:Nat) (a:ByteArray),(Op.equalIn (d+1) 9 (.string a) (.string a)).run prog w=.ok true w:=fun d a=>by rw[run_equalIn_string w d 9 _ _ underlying9];simp
 have hu:=underlying118;have hf:prog.underlying 118=some (.struct (prog.fieldsOf 118)):=by
  unfold Program.fieldsOf;rw[hu]
 rw[run_neq_struct,run_equalIn_struct w 9999 118 _ _ hf Tryz.stoodInHeld118];unfold Program.fieldsOf;rw[hu];have he := eqFields3 (P := prog) (w := w) (d := 9999) (xs := recC r) (ys := recC r) (f0 := { name := "At", type := 3, offset := 0, embedded := false, tag := "", pkgPath := "", byteOffset := 0 }) (f1 := { name := "Kind", type := 3, offset := 1, embedded := false, tag := "", pkgPath := "", byteOffset := 8 }) (f2 := { name := "Data", type := 9, offset := 2, embedded := false, tag := "", pkgPath := "", byteOffset := 16 }) (by decide) (by decide) (by decide) h0 h0 (e0 9998 _) h1 h1 (e0 9998 _) h2 h2 (e2 9998 _)
 exact(congrArg (fun r=>Result.andThen r fun b w'=>Result.ok (Value.bool !b) w') he).trans rfl
theorem z8E {w:World}{A1 A2:Option Addr}{c1 c2:Nat}{l:List Rec}(hl:l.length≤1000)(h1:RunAt w A1 l)(h2:RunAt w A2 l):
  Calls prog 74 #[.slice A1 l.length c1,.slice A2 l.length c2] w fun e w'=>e=.returned (.bool true)∧Below w.heap.size w w':=by
 go_enter func74,ntmps74
 go_wp2_with fail
 go_loopw [5] (fun q wr=>∃k:Nat,k≤l.length∧q=.int .i64 k∧Below w.heap.size w wr) (fun q _=>l.length - (intOf q).toNat)
 case atStart=>exact⟨0,zi9 _,rfl,zho _ _⟩
 case round=>
  obtain⟨k,hk,rfl,hb⟩:=hrel;by_cases hlt:k<l.length
  ·as_aux_lemma=>
   obtain⟨b1,o1,rfl,hb1,c0,c1',c2'⟩:=RunAt.at_ (Reads.below h1 hb) hlt;obtain⟨b2,o2,rfl,hb2,d0,d1,d2⟩:=RunAt.at_ (Reads.below h2 hb) hlt;have hNE:=fun W=>zh3 l[k] W
   have hlt':(k:Int)<l.length:=by omega
   have hk0:(0:Int)≤k:=by omega
   generalize l[k]=r at *;have HS:=zhs (And.intro c0 (And.intro c1' (And.intro c2' (And.intro d0 (And.intro d1 d2)))));clear c0 c1' c2' d0 d1 d2;go_wp2_with fail
   refine z06 [.take 0,.take 1,.take 2,.take 3,.take 4,.take 5,.take 6,.take 7,.take 8] 9 (fun W=>W.cell? ⟨b1,o1+k*3,none⟩=some (.int .i64 r.at_)∧W.cell? ⟨b1,o1+k*3+1,none⟩=some (.int .i64 r.kind)∧W.cell? ⟨b1,o1+k*3+2,none⟩=some (.string r.data)∧W.cell? ⟨b2,o2+k*3,none⟩=some (.int .i64 r.at_)∧W.cell? ⟨b2,o2+k*3+1,none⟩=some (.int .i64 r.kind)∧W.cell? ⟨b2,o2+k*3+2,none⟩=some (.string r.data)) (by kernel_rfl) (by kernel_rfl) (fun _ _ _ _ _ h=>h) HS.out ?_
   simp only[zhY,zhZ,Ms.fill,zhy,zhz];iterate 8 (refine z04 (by rfl) ?_ (fun w' hw'=>?_) ?_;rotate_left;(focus (go_simp;(try with_reducible rfl)));(try simp only[Act.put,zht,zhu,zhv]))
   refine z04 (by rfl) (.bool false) (fun w' hw'=>z5K .neq 118 _ _ _ rfl rfl rfl Tryz.eqGuardType118 (hNE w')) ?_
   simp only[Act.put,zht,zhu,zhv];refine z0f ?_;go_wp2_with fail
   go_roundw
   case rel=>exact⟨k+1,by omega,by go_num,hb.drew⟩
   case measure=>simp[intOf];omega
  ·have hd:¬((k:Int)<(l.length:Int)):=by omega
   go_wp2_with fail
   go_ret
   exact⟨rfl,hb⟩
end Go.Proofs.YtejmknghkbobnaaGreatDoor
