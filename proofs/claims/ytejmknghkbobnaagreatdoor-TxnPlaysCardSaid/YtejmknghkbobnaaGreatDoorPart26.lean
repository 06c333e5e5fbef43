import Derived.Test.YtejmknghkbobnaaGreatDoorPart00
import Derived.Test.YtejmknghkbobnaaGreatDoorPart25
import Derived.Test.YtejmknghkbobnaaGreatDoorPart15
set_option linter.unusedVariables false
set_option linter.unusedSimpArgs false
set_option maxRecDepth 100000
set_option maxHeartbeats 8000000
namespace Go.Proofs.YtejmknghkbobnaaGreatDoor
open Go.Proofs.Tryz
open Go.RowKit Go.Maps
theorem z6m (F Z:Int)(w:World):
  Calls prog 104 #[.agg #[.int .i64 F,.int .i64 Z]] w fun e w'=>e=.returned (.int .i64 (z0p F Z))∧Below w.heap.size w w':=by
 by_cases a1:Z<8
 rotate_left;by_cases a2:96<Z
 rotate_left;by_cases a3:F<0
 rotate_left;by_cases a4:256 - Z<F
 rotate_left
 all_goals
  first
   | (have HE:Hid (z0p F Z=0):=zhs (by unfold z0p;rw[if_neg (by omega)]))
   | (have HE:Hid (z0p F Z=7):=zhs (by unfold z0p;rw[if_pos (by omega)]))
  go_enter func104,ntmps104
  (try (have hw:IntKind.i64.wrap (256 - Z)=256 - Z:=by rw[IntKind.wrap_i64];omega))
  go_wp2_with fail
  go_ret
  exact⟨by rw[HE.out];rfl,by (repeat' (first|with_reducible (first|exact zho _ _|assumption|refine zhp ?_ ?_ _|refine zhq ?_|refine z00 ?_ _|refine zhr ?_ ?_ _|exact zhT _)|omega|(simp;done)|(simp;omega)))⟩
theorem z6c (F Z a:Int)(h:0≤F∧F≤256∧0≤Z∧Z≤256)(w:World):
  Calls prog 224 #[.agg #[.int .i64 F,.int .i64 Z],.int .i64 a] w fun e w'=>e=.returned (.bool (z0U F Z a))∧Below w.heap.size w w':=by
 have hw:IntKind.i64.wrap (F+Z)=F+Z:=by rw[IntKind.wrap_i64];omega
 by_cases a1:a<F
 rotate_left;by_cases a2:a<F+Z
 rotate_left
 all_goals
  first
   | (have HE:Hid (z0U F Z a=true):=zhs (by unfold z0U;simp;omega))
   | (have HE:Hid (z0U F Z a=false):=zhs (by unfold z0U;simp;omega))
  go_enter func224,ntmps224
  go_wp2_with fail
  go_ret
  exact⟨by rw[HE.out];rfl,by (repeat' (first|with_reducible (first|exact zho _ _|assumption|refine zhp ?_ ?_ _|refine zhq ?_|refine z00 ?_ _|refine zhr ?_ ?_ _|exact zhT _)|omega|(simp;done)|(simp;omega)))⟩
theorem z5X (F Z:Int)(h:0≤Z∧Z≤256)(w:World):
  Calls prog 195 #[.agg #[.int .i64 F,.int .i64 Z]] w fun e w'=>e=.returned (.int .i64 (z0Z Z))∧Below w.heap.size w w':=by
 have hw:IntKind.i64.wrap (Z - 2)=Z - 2:=by rw[IntKind.wrap_i64];omega
 unfold z0Z;go_enter func195,ntmps195
 go_wp2_with fail
 go_ret
 exact⟨rfl,by (repeat' (first|with_reducible (first|exact zho _ _|assumption|refine zhp ?_ ?_ _|refine zhq ?_|refine z00 ?_ _|refine zhr ?_ ?_ _|exact zhT _)|omega|(simp;done)|(simp;omega)))⟩
theorem z7S (n:Int)(h0:0≤n)(h1:n≤9223372036854775807)(w:World):
  Calls prog 182 #[.int .i64 n] w fun e w'=>e=.returned (.string (z0k n))∧Below w.heap.size w w':=by
 have bS:Blk (w.alloc (.cells #[.int .u8 (n % 256),.int .u8 (n / 256 % 256)] 5)) w.heap.size 5 #[.int .u8 (n % 256),.int .u8 (n / 256 % 256)]:=Blk.new _ _ _;have hR:Reads (w.alloc (.cells #[.int .u8 (n % 256),.int .u8 (n / 256 % 256)] 5)) (some ⟨w.heap.size,0,none⟩) ([n % 256,n / 256 % 256].map (Value.int .u8)):=.inr ⟨_,0,rfl,bS.lt,fun j u hu=>by rw[zi8,bS.cells];simpa using hu⟩
 have hcv:=z1T _ 2 2 _ rfl _ hR;have HS:Hid (strOfNums [n % 256,n / 256 % 256]=z0k n):=zhs rfl;have g1:n.tmod 256=n % 256:=zhV h0;have g2:n.tdiv 256=n / 256:=Int.tdiv_eq_ediv_of_nonneg h0;have g5:IntKind.i64.wrap (n / 256)=n / 256:=by rw[IntKind.wrap_i64];omega
 have g3:IntKind.u8.wrap (n % 256)=n % 256:=by rw[IntKind.wrap_u8];omega
 have g4:IntKind.u8.wrap (n / 256)=n / 256 % 256:=by rw[IntKind.wrap_u8]
 clear bS hR;go_enter func182,ntmps182
 go_wp2_with fail
 go_ret
 exact⟨by rw[←HS.out];rfl,by (repeat' (first|with_reducible (first|exact zho _ _|assumption|refine zhp ?_ ?_ _|refine zhq ?_|refine z00 ?_ _|refine zhr ?_ ?_ _|exact zhT _)|omega|(simp;done)|(simp;omega)))⟩
theorem z5N (E:Int)(w:World):
  Calls prog 133 #[.int .i64 E] w fun e w'=>e=.returned (.bool (z1c E))∧Below w.heap.size w w':=by
 by_cases h1:E=13
 ·subst h1;go_enter func133,ntmps133
  go_wp2_with fail
  go_ret
  exact⟨rfl,zho _ _⟩
 by_cases h2:E=7
 ·subst h2;go_enter func133,ntmps133
  go_wp2_with fail
  go_ret
  exact⟨rfl,zho _ _⟩
 have e1:(E==13)=false:=by simpa using h1
 have e2:(E==7)=false:=by simpa using h2
 have HB:Hid (z1c E=(E==1)):=zhs (by unfold z1c;rw[e1,e2];simp)
 go_enter func133,ntmps133
 go_wp2_with fail
 go_ret
 exact⟨by rw[HB.out];rfl,zho _ _⟩
theorem zax (A:Option Addr)(c:Nat)(l:List Rec)(hl:l.length≤1000)(a:Int)(w:World)(hr:RunAt w A l):
  Calls prog 194 #[.slice A l.length c,.int .i64 a] w fun e w'=>e=.returned (.bool (decide (a∈l.map (·.at_))))∧w'=w:=by
 go_enter func194,ntmps194
 go_wp2_with fail
 go_loopw [5] (fun q wr=>∃k:Nat,k≤l.length∧q=.int .i64 k∧a∉(l.take k).map (·.at_)∧wr=w) (fun q _=>l.length - (intOf q).toNat)
 case atStart=>exact⟨0,zi9 _,rfl,by simp,rfl⟩
 case round=>
  obtain⟨k,hk,rfl,hne,hw⟩:=hrel;subst hw;by_cases hlt:k<l.length
  ·obtain⟨b,off,rfl,hb,hc,-,-⟩:=hr.at_ hlt;have hsn:(l.take (k+1)).map (·.at_)=(l.take k).map (·.at_)++[l[k].at_]:=by rw[zhE hlt,List.map_append];rfl
   by_cases he:l[k].at_=a
   ·have hm:a∈l.map (·.at_):=by rw[←he];exact List.mem_map_of_mem (zhQ hlt)
    have he':(l[k].at_==a)=true:=by simpa using he
    generalize l[k].at_=y at hc he';have HM:=zhs hm;clear he hm hne hsn;go_wp2_with fail
    go_ret
    exact⟨by simp[HM.out],rfl⟩
   ·have he':(l[k].at_==a)=false:=by simpa using he
    have hs:Hid (a∉(l.take (k+1)).map (·.at_)):=zhs (by
     rw[hsn];intro h;rcases zi0.1 h with h|h
     ·exact hne h
     ·exact he (by simpa using (zi4.1 h).symm))
    generalize l[k].at_=y at hc he';clear he hne hsn;go_wp2_with fail
    go_roundw
    case rel=>exact⟨k+1,by omega,by go_num,hs.out,by first|trivial|rfl⟩
    case measure=>simp[intOf];omega
  ·obtain rfl:k=l.length:=by omega
   rw[zia]at hne;have HM:=zhs hne;clear hne;go_wp2_with fail
   go_ret
   exact⟨by simp[HM.out],rfl⟩
def z2D (x:DevS)(F Z:Int)(w:World)(e:Ending)(w':World):Prop:=
 e=.returned (.tuple #[.int .u32 (x.head F Z).2,.int .i64 (x.head F Z).1])∧Below w.heap.size w w'
theorem z8Q {w:World}{P:Nat→Prop}{x:DevS}{sv:Array Value}(hq:RSv w P x sv)(hs:x.Calm)(F Z:Int):
  Calls prog 131 #[.agg sv,.agg #[.int .i64 F,.int .i64 Z]] w (z2D x F Z w):=by
 obtain⟨w0,hw0⟩:∃w0,w0=(w.alloc (.cells sv 34)).alloc (.cells #[.int .i64 F,.int .i64 Z] 109):=⟨_,rfl⟩;have bD:Blk w0 w.heap.size 34 sv:=by rw[hw0];exact(Blk.new _ _ _).alloc _
 have bJ:Blk w0 (w.heap.size+1) 109 #[.int .i64 F,.int .i64 Z]:=by rw[hw0];exact Blk.new' (by simp)
 have B0:Below w.heap.size w w0:=by rw[hw0];(repeat' (first|with_reducible (first|exact zho _ _|assumption|refine zhp ?_ ?_ _|refine zhq ?_|refine z00 ?_ _|refine zhr ?_ ?_ _|exact zhT _)|omega|(simp;done)|(simp;omega)))
 have hsz:=hq.size;have HQ:=zhs hq;have hck:=z6m F Z w0;have HH0:Hid (x.head F Z=if z0p F Z≠0 then (z0p F Z,0)else if x.ge F≠0 then (x.ge F,0)else if (x.fr F).kind≠1∨(x.fr F).data≠⟨#[]⟩then (6,0)else (0,(x.fr F).seq)):=zhs rfl
 clear hq;unfold z2D;go_enter func131,ntmps131
 go_upto_region 1 with fail
 rw[←hw0];clear hw0;have cJ:=bJ.cells;have lJ:=bJ.lt;go_wp2_with fail
 refine hck.mono ?_;rintro e w1 ⟨rfl,hb1⟩;have B1:=B0.trans (hb1.mono B0.size);have bD1:=bD.belowAll hb1;have bJ1:=bJ.belowAll hb1;clear hck bD bJ B0 hb1 cJ lJ;by_cases hc:z0p F Z=0
 rotate_left
 ·have HH:Hid (x.head F Z=(z0p F Z,0)):=zhs (by rw[HH0.out,if_pos hc])
  generalize z0p F Z=E at *;have hc':(E != 0)=true:=by simpa using hc
  clear hc;go_wp2_with fail
  go_ret2
  exact⟨by rw[HH.out];rfl,B1⟩
 have HH1:Hid (x.head F Z=if x.ge F≠0 then (x.ge F,0)else if (x.fr F).kind≠1∨(x.fr F).data≠⟨#[]⟩then (6,0)else (0,(x.fr F).seq)):=zhs (by rw[HH0.out,if_neg (by rw[hc];simp)])
 rw[hc];clear hc HH0;have cJ:=bJ1.cells;have lJ:=bJ1.lt;have hg:=zeH (HQ.out.below B1) hs F;unfold z2h frV at hg;generalize x.ge F=E at *;generalize x.fr F=f at *;have l1:=z0z bD1 hsz;go_wp2_with (refine z02 (by rfl) _ _ rfl (.agg sv) (.pointer (some ⟨w.heap.size,0,none⟩)) rfl l1 ?_)
 refine hg.mono ?_;rintro e w2 ⟨rfl,hb2⟩;have B2:=B1.trans (hb2.mono B1.size);have Z2:=B2.size;clear hg hb2 l1 bD1 bJ1 cJ lJ B1;by_cases hE:E=0
 rotate_left
 ·have HH:Hid (x.head F Z=(E,0)):=zhs (by rw[HH1.out,if_pos hE])
  have hE':(E==0)=false:=by simpa using hE
  have hE2:(E != 0)=true:=by simpa using hE
  clear hE HH1;go_wp2_with fail
  go_ret2
  exact⟨by rw[HH.out];rfl,by (repeat' (first|with_reducible (first|exact zho _ _|assumption|refine zhp ?_ ?_ _|refine zhq ?_|refine z00 ?_ _|refine zhr ?_ ?_ _|exact zhT _)|omega|(simp;done)|(simp;omega)))⟩
 subst hE;by_cases hk:f.kind=1
 ·by_cases hd:f.data=⟨#[]⟩
  ·have HH:Hid (x.head F Z=(0,f.seq)):=zhs (by rw[HH1.out,if_neg (by simp),if_neg (by simp[hk,hd])])
   have hk':(f.kind != 1)=false:=by simpa using hk
   have hd':f.data.toList.isEmpty=true:=z4j.2 hd;clear hk hd HH1;go_wp2_with fail
   go_ret2
   exact⟨by rw[HH.out];rfl,by (repeat' (first|with_reducible (first|exact zho _ _|assumption|refine zhp ?_ ?_ _|refine zhq ?_|refine z00 ?_ _|refine zhr ?_ ?_ _|exact zhT _)|omega|(simp;done)|(simp;omega)))⟩
  ·have HH:Hid (x.head F Z=(6,0)):=zhs (by rw[HH1.out,if_neg (by simp),if_pos (by simp[hd])])
   have hk':(f.kind != 1)=false:=by simpa using hk
   have hd':f.data.toList.isEmpty=false:=by rw[Bool.eq_false_iff];exact fun h=>hd (z4j.1 h)
   clear hk hd HH1;go_wp2_with fail
   go_ret2
   exact⟨by rw[HH.out];rfl,by (repeat' (first|with_reducible (first|exact zho _ _|assumption|refine zhp ?_ ?_ _|refine zhq ?_|refine z00 ?_ _|refine zhr ?_ ?_ _|exact zhT _)|omega|(simp;done)|(simp;omega)))⟩
 ·have HH:Hid (x.head F Z=(6,0)):=zhs (by rw[HH1.out,if_neg (by simp),if_pos (by simp[hk])])
  have hk':(f.kind != 1)=true:=by simpa using hk
  clear hk HH1;go_wp2_with fail
  go_ret2
  exact⟨by rw[HH.out];rfl,by (repeat' (first|with_reducible (first|exact zho _ _|assumption|refine zhp ?_ ?_ _|refine zhq ?_|refine z00 ?_ _|refine zhr ?_ ?_ _|exact zhT _)|omega|(simp;done)|(simp;omega)))⟩
theorem z9E {w:World}{P:Nat→Prop}{x:DevS}{sv:Array Value}(hq:RSv w P x sv)(hs:x.Calm)(hP:∀b,w.heap.size≤b→P b)(F Z:Int):
  Calls prog 111 #[.agg sv,.agg #[.int .i64 F,.int .i64 Z]] w (RGv w P (x.clear F Z)):=by
 obtain⟨w0,hw0⟩:∃w0,w0=((w.alloc (.cells sv 34)).alloc (.cells #[.int .i64 F,.int .i64 Z] 109)).alloc (.cells svZ 34):=⟨_,rfl⟩;have bD:Blk w0 w.heap.size 34 sv:=by rw[hw0];exact((Blk.new _ _ _).alloc _).alloc _
 have bJ:Blk w0 (w.heap.size+1) 109 #[.int .i64 F,.int .i64 Z]:=by rw[hw0];exact(Blk.new' (by simp)).alloc _
 have bR:Blk w0 (w.heap.size+1+1) 34 svZ:=by rw[hw0];exact Blk.new' (by simp)
 have B0:Below w.heap.size w w0:=by rw[hw0];(repeat' (first|with_reducible (first|exact zho _ _|assumption|refine zhp ?_ ?_ _|refine zhq ?_|refine z00 ?_ _|refine zhr ?_ ?_ _|exact zhT _)|omega|(simp;done)|(simp;omega)))
 have hQ0:=hq.apt B0 w0.heap.size;have HN:=zhs (Apt_.new hP B0.size);have hsz:=hq.size;have hone:=hq.one;have zR:=zhs bR.lt;have hhd:=z8Q hQ0 hs F Z;unfold z2D at hhd;have HC:Hid (x.clear F Z=if (x.head F Z).1≠0 then ((x.head F Z).1,x)else DevS.done (x.put F 1 (next (x.head F Z).2) ⟨#[]⟩)):=zhs rfl
 have hnx:0≤next (x.head F Z).2∧next (x.head F Z).2<4294967296:=by unfold next;omega
 have hwr:IntKind.u32.wrap ((x.head F Z).2+1)=next (x.head F Z).2:=by unfold next;rw[IntKind.wrap_u32]
 have HQ:=zhs hQ0;clear hq hQ0 hP;unfold svZ at hw0;go_enter func111,ntmps111
 go_upto_region 1 with fail
 rw[←hw0];clear hw0;have cJ:=bJ.cells;have lJ:=bJ.lt;have l0:=z0z bD hsz;go_wp2_with (refine z02 (by rfl) _ _ rfl (.agg sv) (.pointer (some ⟨w.heap.size,0,none⟩)) rfl l0 ?_)
 refine hhd.mono ?_;rintro e w1 ⟨rfl,hb1⟩;have B1:=B0.trans (hb1.mono B0.size);have bD1:=bD.belowAll hb1;have bJ1:=bJ.belowAll hb1;have bR1:=bR.belowAll hb1;have hQ1:=HQ.out.below hb1;have HN1:=zhs (fun b hb=>HN.out b (zhS hb1.size hb))
 clear hhd bD bJ bR B0 hb1 cJ lJ l0;have l1:=z0z bD1 hsz;by_cases hE:(x.head F Z).1=0
 rotate_left
 ·have HH:Hid (x.clear F Z=((x.head F Z).1,x)):=zhs (by rw[HC.out,if_pos hE])
  clear HC hwr hnx;generalize (x.head F Z).1=E at *;generalize (x.head F Z).2=q at *;have hE':(E != 0)=true:=by simpa using hE
  have hst:=z0l bR1 rfl hsz hone;have bR2:=bR1.setRow (cs':=sv);have hfin:=RGv.mk (R:=w.heap.size+1+1) E hQ1 B1 (by omega) zR.out
  clear hE;go_wp2_with (first|(refine z02 (by rfl) _ _ rfl (.agg sv) (.pointer (some ⟨w.heap.size,0,none⟩)) rfl l1 ?_)|(refine z01 rfl _ _ _ rfl _ _ rfl rfl hst ?_))
  refine bodyPost_ret (z08 (cs:=sv) rfl rfl rfl bR2 underlying34 (by rw[hsz];kernel_rfl)) rfl ?_
  rw[HH.out];exact hfin
 have HC1:Hid (x.clear F Z=DevS.done (x.put F 1 (next (x.head F Z).2) ⟨#[]⟩)):=zhs (by rw[HC.out,if_neg (by rw[hE];simp)])
 rw[hE];clear hE HC;generalize next (x.head F Z).2=q' at *;generalize (x.head F Z).2=q at *;have hput:=zdE hQ1 HN1.out F 1 q' hnx ⟨#[]⟩ (by decide)
 obtain⟨p,hp⟩:∃p,x.put F 1 q' ⟨#[]⟩=p:=⟨_,rfl⟩;rw[hp]at hput HC1;have cJ:=bJ1.cells;have lJ:=bJ1.lt;clear hp;go_wp2_with (refine z02 (by rfl) _ _ rfl (.agg sv) (.pointer (some ⟨w.heap.size,0,none⟩)) rfl l1 ?_)
 refine hput.mono ?_;rintro e w2 ⟨sv2,rfl,hq2,hb2⟩;have B2:=B1.trans (hb2.mono B1.size);have hsz2:=hq2.size;have hone2:=hq2.one;have hst:=z0l (bD1.belowAll hb2) hsz hsz2 hone2;have bD3:=(bD1.belowAll hb2).setRow (cs':=sv2);have bR3:=(bR1.belowAll hb2).rowFar (cs':=sv2) (show w.heap.size+1+1≠w.heap.size by omega)
 have hQ3:=hq2.row (Apt_.ne (zhT _) (by have:=zR.out;omega)) sv2
 have B3:=Below.setRow B2 (zhT _) sv2;have HN3:Hid (∀b,(w2.setRow w.heap.size sv2).heap.size≤b→Apt_ P w.heap.size w0.heap.size b):=zhs fun b hb=>HN1.out b (zhS hb2.size (by simpa using hb))
 clear hput l1 bD1 bJ1 bR1 hQ1 HN1 B1 hb2 hq2 cJ lJ HQ HN;go_upto_region 5 with (refine z01 rfl _ _ _ rfl _ _ rfl rfl hst ?_)
 generalize w2.setRow w.heap.size sv2=W3 at *;clear hst B2;have l3:=z0z bD3 hsz2;by_cases hE:p.1=0
 rotate_left
 ·have HH:Hid (x.clear F Z=(p.1,p.2)):=zhs (by rw[HC1.out,z3f hE])
  generalize p.1=E at *;have hE':(E != 0)=true:=by simpa using hE
  have hst:=z0l bR3 rfl hsz2 hone2;have bR4:=bR3.setRow (cs':=sv2);have hfin:=RGv.mk (R:=w.heap.size+1+1) E hQ3 B3 (by omega) zR.out
  clear hE;go_wp2_with (first|(refine z02 (by rfl) _ _ rfl (.agg sv2) (.pointer (some ⟨w.heap.size,0,none⟩)) rfl l3 ?_)|(refine z01 rfl _ _ _ rfl _ _ rfl rfl hst ?_))
  refine bodyPost_ret (z08 (cs:=sv2) rfl rfl rfl bR4 underlying34 (by rw[hsz2];kernel_rfl)) rfl ?_
  rw[HH.out];exact hfin
 have HH:Hid (x.clear F Z=p.2.flush):=zhs (by rw[HC1.out,z2w hE])
 rw[hE];clear hE;have hfl:=z7B hQ3 HN3.out;generalize p.2=z at *;go_wp2_with (refine z02 (by rfl) _ _ rfl (.agg sv2) (.pointer (some ⟨w.heap.size,0,none⟩)) rfl l3 ?_)
 refine hfl.mono ?_;rintro e w4 ⟨sv4,rfl,hq4,hb4⟩;have hsz4:=hq4.size;have hst:=z0l (bR3.belowAll hb4) rfl hsz4 hq4.one;have bR5:=(bR3.belowAll hb4).setRow (cs':=sv4);have hfin:=RGv.mk (R:=w.heap.size+1+1) z.flush.1 hq4 (B3.trans (hb4.mono B3.size)) (by omega) zR.out
 clear hfl l3 bD3 bR3 hb4;go_wp2_with (refine z01 rfl _ _ _ rfl _ _ rfl rfl hst ?_)
 refine bodyPost_ret (z08 (cs:=sv4) rfl rfl rfl bR5 underlying34 (by rw[hsz4];kernel_rfl)) rfl ?_
 rw[HH.out];exact hfin
def fmtB (p:Int × DevS)(F:Int)(k:Nat):Int × DevS:=if p.1≠0 then p else p.2.blanks (F+1) k
theorem zcC (p:Int × DevS)(F:Int):fmtB p F 0=p:=by
 unfold fmtB;by_cases h:p.1=0
 ·rw[if_neg (by rw[h];simp)]
  show ((0:Int),p.2)=p
  rw[←h]
 ·rw[if_pos h]
theorem zcZ {p:Int × DevS}{F:Int}{k:Nat}(h:(fmtB p F k).1=0):fmtB p F (k+1)=(fmtB p F k).2.write (F+((k:Int)+1)) zsec:=by
 unfold fmtB at h ⊢;by_cases h1:p.1=0
 ·rw[if_neg (by rw[h1];simp)]at h ⊢
  rw[if_neg (by rw[h1];simp)]
  show (if (p.2.blanks (F+1) k).1≠0 then _ else _)=_
  rw[if_neg (by rw[h];simp),show F+1+(k:Int)=F+((k:Int)+1) by omega]
 ·rw[if_pos h1]at h;exact absurd h h1
theorem zdX {p:Int × DevS}{F:Int}{k m:Nat}(h:(fmtB p F k).1≠0)(hm:k≤m):fmtB p F m=fmtB p F k:=by
 unfold fmtB at h ⊢;by_cases h1:p.1=0
 ·rw[if_neg (by rw[h1];simp)]at h ⊢
  rw[if_neg (by rw[h1];simp)]
  exact z68 h hm
 ·rw[if_pos h1,if_pos h1]
theorem zg1 (x:DevS)(F Z:Int):x.jfmt F Z=if z0p F Z≠0 then (z0p F Z,x)else DevS.done (fmtB (x.put F 1 0 ⟨#[]⟩) F (Z - 1).toNat):=by
 unfold DevS.jfmt DevS.done fmtB;generalize x.put F 1 0 ⟨#[]⟩=p;by_cases h2:p.1=0
 ·simp[h2]
 ·simp[h2]
theorem zfn {w:World}{P:Nat→Prop}{x:DevS}{sv:Array Value}(hq:RSv w P x sv)(hP:∀b,w.heap.size≤b→P b)(F Z:Int):
  Calls prog 43 #[.agg sv,.agg #[.int .i64 F,.int .i64 Z]] w (RGv w P (x.jfmt F Z)):=by
 obtain⟨w0,hw0⟩:∃w0,w0=((w.alloc (.cells sv 34)).alloc (.cells #[.int .i64 F,.int .i64 Z] 109)).alloc (.cells svZ 34):=⟨_,rfl⟩;have bD:Blk w0 w.heap.size 34 sv:=by rw[hw0];exact((Blk.new _ _ _).alloc _).alloc _
 have bJ:Blk w0 (w.heap.size+1) 109 #[.int .i64 F,.int .i64 Z]:=by rw[hw0];exact(Blk.new' (by simp)).alloc _
 have bR:Blk w0 (w.heap.size+1+1) 34 svZ:=by rw[hw0];exact Blk.new' (by simp)
 have B0:Below w.heap.size w w0:=by rw[hw0];(repeat' (first|with_reducible (first|exact zho _ _|assumption|refine zhp ?_ ?_ _|refine zhq ?_|refine z00 ?_ _|refine zhr ?_ ?_ _|exact zhT _)|omega|(simp;done)|(simp;omega)))
 have hQ0:=hq.apt B0 w0.heap.size;have HN:=zhs (Apt_.new hP B0.size);have hsz:=hq.size;have hone:=hq.one;have zR:=zhs bR.lt;have hck:=z6m F Z w0;have HC:Hid (x.jfmt F Z=if z0p F Z≠0 then (z0p F Z,x)else DevS.done (fmtB (x.put F 1 0 ⟨#[]⟩) F (Z - 1).toNat)):=zhs (zg1 x F Z)
 have HQ:=zhs hQ0;clear hq hQ0 hP;unfold svZ at hw0;go_enter func43,ntmps43
 go_upto_region 1 with fail
 rw[←hw0];clear hw0;have cJ:=bJ.cells;have lJ:=bJ.lt;go_wp2_with fail
 refine hck.mono ?_;rintro e w1 ⟨rfl,hb1⟩;have B1:=B0.trans (hb1.mono B0.size);have bD1:=bD.belowAll hb1;have bJ1:=bJ.belowAll hb1;have bR1:=bR.belowAll hb1;have hQ1:=HQ.out.below hb1;have HN1:=zhs (fun b hb=>HN.out b (zhS hb1.size hb))
 have HZ1:=zhs hb1.size;clear hck bD bJ bR B0 hb1 cJ lJ;have l1:=z0z bD1 hsz;by_cases hE:z0p F Z=0
 rotate_left
 ·have HH:Hid (x.jfmt F Z=(z0p F Z,x)):=zhs (by rw[HC.out,if_pos hE])
  clear HC;generalize z0p F Z=E at *;have hE':(E != 0)=true:=by simpa using hE
  have hst:=z0l bR1 rfl hsz hone;have bR2:=bR1.setRow (cs':=sv);have hfin:=RGv.mk (R:=w.heap.size+1+1) E hQ1 B1 (by omega) zR.out
  clear hE;go_wp2_with (first|(refine z02 (by rfl) _ _ rfl (.agg sv) (.pointer (some ⟨w.heap.size,0,none⟩)) rfl l1 ?_)|(refine z01 rfl _ _ _ rfl _ _ rfl rfl hst ?_))
  refine bodyPost_ret (z08 (cs:=sv) rfl rfl rfl bR2 underlying34 (by rw[hsz];kernel_rfl)) rfl ?_
  rw[HH.out];exact hfin
 have HC1:Hid (x.jfmt F Z=DevS.done (fmtB (x.put F 1 0 ⟨#[]⟩) F (Z - 1).toNat)):=zhs (by rw[HC.out,if_neg (by rw[hE];simp)])
 have hFZ:=z1e hE;rw[hE];clear hE HC;have hput:=zdE hQ1 HN1.out F 1 0 (by decide) ⟨#[]⟩ (by decide)
 obtain⟨p,hp⟩:∃p,x.put F 1 0 ⟨#[]⟩=p:=⟨_,rfl⟩;rw[hp]at hput HC1;have cJ:=bJ1.cells;have lJ:=bJ1.lt;clear hp;go_wp2_with (refine z02 (by rfl) _ _ rfl (.agg sv) (.pointer (some ⟨w.heap.size,0,none⟩)) rfl l1 ?_)
 refine hput.mono ?_;rintro e w2 ⟨sv2,rfl,hq2,hb2⟩;have B2:=B1.trans (hb2.mono B1.size);have hsz2:=hq2.size;have hone2:=hq2.one;have hst:=z0l (bD1.belowAll hb2) hsz hsz2 hone2;have bD3:=(bD1.belowAll hb2).setRow (cs':=sv2);have bJ3:=(bJ1.belowAll hb2).rowFar (cs':=sv2) (show w.heap.size+1≠w.heap.size by omega)
 have bR3:=(bR1.belowAll hb2).rowFar (cs':=sv2) (show w.heap.size+1+1≠w.heap.size by omega)
 have hQ3:=hq2.row (Apt_.ne (zhT _) (by have:=zR.out;omega)) sv2
 have B3:=Below.setRow B2 (zhT _) sv2;have hz3:w0.heap.size≤(w2.setRow w.heap.size sv2).heap.size:=by
  have h1:=hb2.size;have h2:=HZ1.out;simp
  omega
 clear hput l1 bD1 bJ1 bR1 hQ1 HN1 B1 hb2 hq2 cJ lJ HQ;go_upto_region 5 with (refine z01 rfl _ _ _ rfl _ _ rfl rfl hst ?_)
 generalize w2.setRow w.heap.size sv2=W3 at *;clear hst B2;obtain⟨z,rfl⟩:=Int.eq_ofNat_of_zero_le (show 0≤Z by omega)
 rw[show (((z:Int) - 1).toNat)=z - 1 by omega]at HC1
 have hbz:=z2X;go_wp2_with fail
 go_loopw [6,7] (fun e6 q wr=>∃(k:Nat) (svk:Array Value),k+1≤z∧q=.int .i64 ((k:Int)+1)∧e6=.int .i64 (fmtB p F k).1∧RSv wr (Apt_ P w.heap.size w0.heap.size) (fmtB p F k).2 svk∧Blk wr w.heap.size 34 svk∧Blk wr (w.heap.size+1) 109 #[.int .i64 F,.int .i64 z]∧Blk wr (w.heap.size+1+1) 34 svZ∧Below w.heap.size w wr∧w0.heap.size≤wr.heap.size) (fun _ q _=>z - (intOf q).toNat)
 case atStart=>
  have e0:=zcC p F;exact⟨0,sv2,by omega,rfl,by rw[e0],by rw[e0];exact hQ3,bD3,bJ3,bR3,B3,hz3⟩
 case round=>
  obtain⟨k,svk,hk,rfl,rfl,hqk,bDk,bJk,bRk,hB,hzr⟩:=hrel;have cJ:=bJk.cells;have lJ:=bJk.lt;have hszk:=hqk.size;have honek:=hqk.one;have lk:=z0z bDk hszk;by_cases hE:(fmtB p F k).1=0
  ·by_cases hlt:k+1<z
   ·have hwr:=zcV hqk (fun b hb=>HN.out b (zhS hzr hb)) (F+((k:Int)+1)) zsec ⟨z07,z29⟩
    rw[←zcZ hE]at hwr;rw[hE];have hlt':(k:Int)+1<z:=by omega
    obtain⟨p2,hp2⟩:∃p2,fmtB p F (k+1)=p2:=⟨_,rfl⟩;rw[hp2]at hwr;have HP2:=zhs hp2;clear hE hp2 hqk;go_wp2_with (first|(refine z02 (by rfl) _ _ rfl (.agg svk) (.pointer (some ⟨w.heap.size,0,none⟩)) rfl lk ?_)|(refine z0A rfl 128 _ rfl (z03 zsec) z2X ?_))
    refine hwr.mono ?_;rintro e w5 ⟨sv5,rfl,hq5,hb5⟩;have hst:=z0l (bDk.belowAll hb5) hszk hq5.size hq5.one;have bD6:=(bDk.belowAll hb5).setRow (cs':=sv5);have bJ6:=(bJk.belowAll hb5).rowFar (cs':=sv5) (show w.heap.size+1≠w.heap.size by omega)
    have bR6:=(bRk.belowAll hb5).rowFar (cs':=sv5) (show w.heap.size+1+1≠w.heap.size by omega)
    have hQ6:=hq5.row (Apt_.ne (zhT _) (by have:=zR.out;omega)) sv5
    have B6:=Below.setRow (hB.trans (hb5.mono hB.size)) (zhT _) sv5;have hz6:w0.heap.size≤(w5.setRow w.heap.size sv5).heap.size:=by have:=hb5.size;simp;omega
    clear hwr lk bDk bJk bRk hB hb5 hq5 cJ lJ;go_wp2_with (refine z01 rfl _ _ _ rfl _ _ rfl rfl hst ?_)
    go_roundw
    case rel=>exact⟨k+1,sv5,by omega,by go_num,by rw[HP2.out],by rw[HP2.out];exact hQ6,bD6,bJ6,bR6,B6,hz6⟩
    case measure=>simp[intOf];omega
   ·obtain rfl:z=k+1:=by omega
    have HH:Hid (x.jfmt F ((k+1:Nat):Int)=(fmtB p F k).2.flush):=zhs (by rw[HC1.out,Nat.add_sub_cancel,z2w hE])
    have hfl:=z7B hqk (fun b hb=>HN.out b (zhS hzr hb))
    rw[hE];generalize (fmtB p F k).2=zz at *;clear hE;go_wp2_with (refine z02 (by rfl) _ _ rfl (.agg svk) (.pointer (some ⟨w.heap.size,0,none⟩)) rfl lk ?_)
    refine hfl.mono ?_;rintro e w4 ⟨sv4,rfl,hq4,hb4⟩;have hsz4:=hq4.size;have hst:=z0l (bRk.belowAll hb4) rfl hsz4 hq4.one;have bR5:=(bRk.belowAll hb4).setRow (cs':=sv4);have hfin:=RGv.mk (R:=w.heap.size+1+1) zz.flush.1 hq4 (hB.trans (hb4.mono hB.size)) (by omega) zR.out
    clear hfl lk bDk bRk hb4;go_wp2_with (refine z01 rfl _ _ _ rfl _ _ rfl rfl hst ?_)
    refine bodyPost_ret (z08 (cs:=sv4) rfl rfl rfl bR5 underlying34 (by rw[hsz4];kernel_rfl)) rfl ?_
    rw[HH.out];exact hfin
  ·have HH:Hid (x.jfmt F (z:Int)=((fmtB p F k).1,(fmtB p F k).2)):=zhs (by rw[HC1.out,zdX hE (by omega:k≤z - 1),z3f hE])
   generalize (fmtB p F k).1=E at *;generalize (fmtB p F k).2=zz at *;have hE':(E==0)=false:=by simpa using hE
   have hE2:(E != 0)=true:=by simpa using hE
   have hst:=z0l bRk rfl hszk honek;have bR4:=bRk.setRow (cs':=svk);have hfin:=RGv.mk (R:=w.heap.size+1+1) E hqk hB (by omega) zR.out
   clear hE;by_cases hlt:(k:Int)+1<z
   all_goals
    go_wp2_with (first|(refine z02 (by rfl) _ _ rfl (.agg svk) (.pointer (some ⟨w.heap.size,0,none⟩)) rfl lk ?_)|(refine z01 rfl _ _ _ rfl _ _ rfl rfl hst ?_))
    refine bodyPost_ret (z08 (cs:=svk) rfl rfl rfl bR4 underlying34 (by rw[hszk];kernel_rfl)) rfl ?_
    rw[HH.out];exact hfin
def z1U (s:ByteArray):Rec:=if s.size<3∨99<s.size then z9r else ⟨(strL s).getD 0 0+256*(strL s).getD 1 0,(strL s).getD 2 0,s.extract 3 s.size⟩
def z3m (F Z:Int)(s:ByteArray):Bool:=if s.size<3∨99<s.size then false else decide ((z1U s).at_<256)&&!z0U F Z (z1U s).at_&&decide (1≤(z1U s).kind)
theorem z9Q (p q:Nat)(hp:p<256)(hq:q<256):bits .or .i64 (p:Int) ((q:Int)*256)=(p:Int)+256*q:=by
 have h3:p ||| q*256=p+256*q:=by
  have h:=Nat.two_pow_add_eq_or_of_lt (i:=8) hp q;rw[Nat.or_comm,show q*256=2 ^ 8*q by omega,←h]
  omega
 have h1:(BitVec.ofInt 64 (p:Int)).toNat=p:=by
  rw[BitVec.ofInt_natCast,BitVec.toNat_ofNat];exact Nat.mod_eq_of_lt (by omega)
 have h2:(BitVec.ofInt 64 ((q:Int)*256)).toNat=q*256:=by
  rw[show (q:Int)*256=((q*256:Nat):Int) by omega,BitVec.ofInt_natCast,BitVec.toNat_ofNat];exact Nat.mod_eq_of_lt (by omega)
 show IntKind.i64.wrap ((BitVec.ofInt 64 (p:Int) ||| BitVec.ofInt 64 ((q:Int)*256)).toNat:Int)=_
 rw[BitVec.toNat_or,h1,h2,h3,IntKind.wrap_i64];omega
theorem z6u {f:Fr}(hk:f.kind=2):z0i f=z1U f.data:=by
 unfold z0i z1U;by_cases h:f.data.size<3∨99<f.data.size
 ·rw[if_pos (.inr h),if_pos h]
 ·rw[if_neg (by omega),if_neg h]
  have y0:=z0x (z14 f.data) 0;have y1:=z0x (z14 f.data) 1;obtain⟨p,hp⟩:=Int.eq_ofNat_of_zero_le y0.1;obtain⟨q,hq⟩:=Int.eq_ofNat_of_zero_le y1.1;rw[hp,hq,z9Q p q (by omega) (by omega)]
theorem zd8 {n F Z:Int}{f:Fr}(hk:f.kind=2)(hn:n≤256):z1F n F Z f=(z3m F Z f.data&&decide ((z1U f.data).at_<n)):=by
 unfold z1F z3m;rw[z6u hk];by_cases h:f.data.size<3∨99<f.data.size
 ·rw[if_pos (.inr h),if_pos h];rfl
 ·rw[if_neg (by omega),if_neg h]
  by_cases h1:(z1U f.data).at_<n
  ·rw[decide_eq_true h1,decide_eq_true (show (z1U f.data).at_<256 by omega)]
   simp only[Bool.true_and,Bool.and_true];rfl
  ·rw[decide_eq_false h1];simp
theorem z3Z {n F Z:Int}{f:Fr}(hk:f.kind≠2):z1F n F Z f=false:=by unfold z1F;rw[if_pos (.inl hk)]
theorem Tryz.builtRec (a k:Int)(s:ByteArray):prog.built 118 [(0,.int .i64 a),(1,.int .i64 k),(2,.string s)]=some #[.int .i64 a,.int .i64 k,.string s]:=by kernel_rfl
theorem z5l {fn:Func}{m n R:Nat}{ty t:TypeId}{tmps:Array Value}{w:World}{cs:Array Value}{fr:Nat × Nat}{v:Value}{fs:_}(hr:fn.results=#[.cell m ty,.tmp n])(hm:tmps.getD m undef=.pointer (some ⟨R,0,none⟩))(hn:tmps.getD n undef=v)
  (hg:w.heap[R]?=some (.cells cs t fr)) (hu:prog.underlying ty=some (.struct fs)) (hi:(prog.info? ty).map (·.size)=some cs.size):
  (results fn tmps).run prog w=.ok (.tuple #[.agg cs,v]) w:=by
 have h:=run_loadVar_row (P:=prog) w R t ty cs fr _ hg hu rfl hi;have h1:(asAddr (.pointer (some ⟨R,0,none⟩))).run prog w=.ok ⟨R,0,none⟩ w:=rfl;have hm':tmps[m]?.getD undef=.pointer (some ⟨R,0,none⟩):=by simpa using hm
 have hn':tmps[n]?.getD undef=v:=by simpa using hn
 simp[results,hr,hm',hn',h1,h]
theorem za2 (F Z:Int)(hFZ:0≤F∧F≤256∧0≤Z∧Z≤256)(s:ByteArray)(w:World):
  Calls prog 193 #[.agg #[.int .i64 F,.int .i64 Z],.string s] w fun e w'=>e=.returned (.tuple #[.agg (recC (z1U s)),.bool (z3m F Z s)])∧Below w.heap.size w w':=by
 obtain⟨W,hW⟩:∃W,W=(w.alloc (.cells #[.int .i64 F,.int .i64 Z] 109)).alloc (.cells #[.int .i64 0,.int .i64 0,.string ⟨#[]⟩] 118):=⟨_,rfl⟩;have bJ:Blk W w.heap.size 109 #[.int .i64 F,.int .i64 Z]:=by rw[hW];exact(by (repeat' (first|(with_reducible assumption)|exact Blk.new' (by simp)|refine Blk.alloc ?_ _)))
 have bR:Blk W (w.heap.size+1) 118 #[.int .i64 0,.int .i64 0,.string ⟨#[]⟩]:=by rw[hW];exact Blk.new' (by simp)
 have hB:Below w.heap.size w W:=by rw[hW];(repeat' (first|with_reducible (first|exact zho _ _|assumption|refine zhp ?_ ?_ _|refine zhq ?_|refine z00 ?_ _|refine zhr ?_ ?_ _|exact zhT _)|omega|(simp;done)|(simp;omega)))
 by_cases hb:s.size<3∨99<s.size
 ·have h1:z1U s=z9r:=by unfold z1U;rw[if_pos hb]
  have h2:z3m F Z s=false:=by unfold z3m;rw[if_pos hb]
  rw[h1,h2];clear h1 h2;unfold z9r recC;have cR:=bR.cells;have lR:=bR.lt;have fR:=bR.free;have hd:s.size<3∨(¬s.size<3∧99<s.size):=by omega
  clear hb;rcases hd with hd|⟨hd,hd2⟩
  all_goals
   go_enter func193,ntmps193
   go_upto_region 1 with fail
   rw[←hW];go_wp2_with fail
   refine bodyPost_ret (v:=.tuple #[.agg #[.int .i64 0,.int .i64 0,.string ⟨#[]⟩],.bool false]) (by simp[results,results193,go_sem,cR,lR]) rfl ?_
   exact⟨rfl,by (repeat' (first|with_reducible (first|exact zho _ _|assumption|refine zhp ?_ ?_ _|refine zhq ?_|refine z00 ?_ _|refine zhr ?_ ?_ _|exact zhT _)|omega|(simp;done)|(simp;omega)))⟩
 have HREC:Hid (z1U s=⟨(strL s).getD 0 0+256*(strL s).getD 1 0,(strL s).getD 2 0,s.extract 3 s.size⟩):=zhs (by unfold z1U;rw[if_neg hb])
 have HIS:Hid (z3m F Z s=(decide ((z1U s).at_<256)&&!z0U F Z (z1U s).at_&&decide (1≤(z1U s).kind))):=zhs (by unfold z3m;rw[if_neg hb])
 have c1:¬s.size<3:=by omega
 have c2:¬99<s.size:=by omega
 go_enter func193,ntmps193
 go_upto_region 1 with fail
 rw[←hW];clear hW;go_upto_region 3 with fail
 have hi0:=z1o s 0 0 rfl (by omega)
 have hi1:=z1o s 1 1 rfl (by omega)
 have hi2:=z1o s 2 2 rfl (by omega)
 have y0:=z0x (z14 s) 0;have y1:=z0x (z14 s) 1;have y2:=z0x (z14 s) 2;have h3i:(3:Int)≤s.size:=by omega
 generalize (strL s).getD 0 0=d0 at *;generalize (strL s).getD 1 0=d1 at *;generalize (strL s).getD 2 0=d2 at *;have hw0:IntKind.i64.wrap d0=d0:=by rw[IntKind.wrap_i64];omega
 have hw1:IntKind.i64.wrap d1=d1:=by rw[IntKind.wrap_i64];omega
 have hw2:IntKind.i64.wrap d2=d2:=by rw[IntKind.wrap_i64];omega
 have hw3:IntKind.i64.wrap (256*d1)=256*d1:=by rw[IntKind.wrap_i64];omega
 have hw4:IntKind.i64.wrap (d0+256*d1)=d0+256*d1:=by rw[IntKind.wrap_i64];omega
 obtain⟨X,hX⟩:∃X,X=W.drew.alloc (.cells #[.int .i64 0,.int .i64 0,.string ⟨#[]⟩] 118):=⟨_,rfl⟩;have bX:Blk X W.heap.size 118 #[.int .i64 0,.int .i64 0,.string ⟨#[]⟩]:=by rw[hX];exact Blk.new W.drew _ _
 have DX:Below W.heap.size W X:=by rw[hX];exact(zho _ _).drew.alloc (zhT _) _
 have HX:=zhs (show W.drew.alloc (.cells #[.int .i64 0,.int .i64 0,.string ⟨#[]⟩] 118)=X from hX.symm)
 have HX2:=zhs (show (W.alloc (.cells #[.int .i64 0,.int .i64 0,.string ⟨#[]⟩] 118)).drew=X from hX.symm)
 clear hX;go_cut [6]from 16 to 29 (fun s6 wx=>s6=.pointer (some ⟨W.heap.size,0,none⟩)∧Blk wx W.heap.size 118 #[.int .i64 (d0+256*d1),.int .i64 d2,.string (s.extract 3 s.size)]∧Below W.heap.size W wx)
 case first=>
  as_aux_lemma=>
   refine z3y (Tr.takes [0,1,2,3,4,5,6,7,8,9,10,11,12,13] (.one 14 (.last 15))) 15 (fun _=>True) (by kernel_rfl) (by kernel_rfl) (fun _ _ _ _ _ h=>h) trivial ?_
   simp only[Tr.takes,Tr.fill,zhy,zhz];iterate 13 (refine z2v (by rfl) ?_ (fun w' hw'=>?_) ?_;rotate_left;(focus (go_simp;(try with_reducible rfl)));(try simp only[Act.put,zht,zhu,zhv]))
   refine z7e 118 _ rfl (by rfl) #[.int .i64 (d0+256*d1),.int .i64 d2,.string (s.extract 3 s.size)] (Tryz.builtRec _ _ _) ?_
   try simp only[Act.put,zht,zhu,zhv]
   refine z2P fun K hK=>?_
   go_simp;first|rw[HX.out]|rw[HX2.out]
   refine hK _ _ trivial ?_;clear hK K HX HX2;have hst:=z0q (ty:=118) (vs:=#[.int .i64 (d0+256*d1),.int .i64 d2,.string (s.extract 3 s.size)]) bX rfl (by simp[Value.oneCell']) (by kernel_rfl)
   have bX2:=bX.setRow (cs':=#[.int .i64 (d0+256*d1),.int .i64 d2,.string (s.extract 3 s.size)]);have D2:=Below.setRow DX (zhT _) #[.int .i64 (d0+256*d1),.int .i64 d2,.string (s.extract 3 s.size)];refine z4z fun K hK=>?_
   refine z0h _ _ _ rfl _ _ rfl rfl hst ?_;refine hK _ _ ?_;clear hK K;try simp only[Act.put,zht,zhu,zhv]
   have HF:=zhs (And.intro bX2 D2);generalize X.setRow W.heap.size #[.int .i64 (d0+256*d1),.int .i64 d2,.string (s.extract 3 s.size)]=V at *;clear hst bX2 D2 bX DX;go_wp2_with fail
   go_meet
   case rel=>exact⟨rfl,HF.out⟩
 case rest=>
  as_aux_lemma=>
   obtain⟨rfl,bX3,D3⟩:=hcut;rw[HREC.out]at HIS;simp only at HIS
   clear hi0 hi1 hi2 h3i hw0 hw1 hw2 hw3 hw4 y0 y1 y2 HX HX2 bX DX c1 c2 hb;generalize d0+256*d1=av at *;generalize s.extract 3 s.size=sx at *;have bJ3:=bJ.belowAll D3;have bR3:=bR.belowAll D3;have B3:=hB.trans (D3.mono hB.size);have zX:=bX3.lt;have zR:=bR.lt;have hid:=z6c F Z av hFZ wc.drew;have HS:Hid (∀V,Below wc.heap.size wc V→V.cell? ⟨W.heap.size,0,none⟩=some (.int .i64 av)∧V.cell? ⟨W.heap.size,1,none⟩=some (.int .i64 d2)∧V.cell? ⟨W.heap.size,2,none⟩=some (.string sx)∧V.cell? ⟨w.heap.size,0,none⟩=some (.int .i64 F)∧V.cell? ⟨w.heap.size,1,none⟩=some (.int .i64 Z)):=zhs fun V hV=>by
    have b1:=(bX3.belowAll hV).cells;have b2:=(bJ3.belowAll hV).cells;exact⟨(b1 0).trans rfl,(b1 1).trans rfl,(b1 2).trans rfl,(b2 0).trans rfl,(b2 1).trans rfl⟩
   have HB:∀b:Bool,z3m F Z s=b→Hid (z3m F Z s=b):=fun _ h=>zhs h
   clear bJ bR hB D3 bJ3;have lX:=bX3.lt;go_wp2_with fail
   by_cases c1:av<256
   ·have hd1:decide (av<(256:Int))=true:=decide_eq_true c1;have HE:=HB (!z0U F Z av&&decide (1≤d2)) (by rw[HIS.out];simp only[hd1,Bool.true_and])
    clear c1;refine z06 [.take 0,.take 1,.take 2,.take 3,.take 4,.take 5,.take 6,.take 7,.one 8,.take 9,.take 10,.take 11,.take 12,.take 13,.take 14,.take 15,.one 16,.one 17] 18 (fun w'=>w'.cell? ⟨W.heap.size,0,none⟩=some (.int .i64 av)∧w'.cell? ⟨W.heap.size,1,none⟩=some (.int .i64 d2)∧w'.cell? ⟨W.heap.size,2,none⟩=some (.string sx)∧w'.cell? ⟨w.heap.size,0,none⟩=some (.int .i64 F)∧w'.cell? ⟨w.heap.size,1,none⟩=some (.int .i64 Z)) (by kernel_rfl) (by kernel_rfl) (fun _ _ _ _ _ h=>h) (HS.out _ (zho _ _).drew) ?_
    simp only[zhY,zhZ,Ms.fill,zhy,zhz];iterate 8 (refine z04 (by rfl) ?_ (fun w' hw'=>?_) ?_;rotate_left;(focus (go_simp;(try with_reducible rfl)));(try simp only[Act.put,zht,zhu,zhv]))
    refine z05 (by rfl) fun K hK=>?_
    go_simp;refine hid.mono ?_;rintro e w5 ⟨rfl,hb5⟩;have hb5':Below wc.heap.size wc w5:=(zho wc.heap.size wc).drew.trans hb5;refine hK _ _ (fun _=>HS.out _ hb5') ?_
    clear hK K hid;have bR5:=bR3.belowAll hb5';have B5:=B3.trans (hb5'.mono B3.size);have hst:=z0q (ty:=118) (vs:=#[.int .i64 av,.int .i64 d2,.string sx]) bR5 rfl (by simp[Value.oneCell']) (by kernel_rfl)
    have bR6:=bR5.setRow (cs':=#[.int .i64 av,.int .i64 d2,.string sx]);have B6:=Below.setRow B5 (g:=w.heap.size+1) (by omega) #[.int .i64 av,.int .i64 d2,.string sx]
    have HS6:=zhs (show (w5.setRow (w.heap.size+1) #[.int .i64 av,.int .i64 d2,.string sx]).cell? ⟨W.heap.size,0,none⟩=some (.int .i64 av)∧(w5.setRow (w.heap.size+1) #[.int .i64 av,.int .i64 d2,.string sx]).cell? ⟨W.heap.size,1,none⟩=some (.int .i64 d2)∧(w5.setRow (w.heap.size+1) #[.int .i64 av,.int .i64 d2,.string sx]).cell? ⟨W.heap.size,2,none⟩=some (.string sx)∧(w5.setRow (w.heap.size+1) #[.int .i64 av,.int .i64 d2,.string sx]).cell? ⟨w.heap.size,0,none⟩=some (.int .i64 F)∧(w5.setRow (w.heap.size+1) #[.int .i64 av,.int .i64 d2,.string sx]).cell? ⟨w.heap.size,1,none⟩=some (.int .i64 Z)from by
     have h:=HS.out _ hb5';have k:∀b j,b≠w.heap.size+1→(w5.setRow (w.heap.size+1) #[.int .i64 av,.int .i64 d2,.string sx]).cell? ⟨b,j,none⟩=w5.cell? ⟨b,j,none⟩:=fun b j hb=>World.cell?_of_block (w:=w5) (a:=⟨b,j,none⟩) (z0b _ _ _ _ hb)
     rw[k _ _ (by omega),k _ _ (by omega),k _ _ (by omega),k _ _ (by omega),k _ _ (by omega)]
     exact h)
    obtain⟨ib,hin⟩:∃ib,z0U F Z av=ib:=⟨_,rfl⟩;rw[hin]at HE ⊢;clear hin;cases ib
    all_goals
     iterate 3 (refine z04 (by rfl) ?_ (fun w' hw'=>?_) ?_;rotate_left;(focus (go_simp;(try with_reducible rfl)));(try simp only[Act.put,zht,zhu,zhv]))
     first
      | (iterate 3 ((first|(refine z0E (by rfl) ?_)|(refine z0F (by rfl) ?_));(try simp only[Act.put,zht,zhu,zhv])))
      | (iterate 3 (refine z04 (by rfl) ?_ (fun w' hw'=>?_) ?_;rotate_left;(focus (go_simp;(try with_reducible rfl)));(try simp only[Act.put,zht,zhu,zhv])))
     iterate 1 (refine z04 (by rfl) ?_ (fun w' hw'=>?_) ?_;rotate_left;(focus (go_simp;(try with_reducible rfl)));(try simp only[Act.put,zht,zhu,zhv]))
     refine z05 (by rfl) fun K hK=>?_
     refine z0h _ _ _ rfl _ _ rfl rfl hst ?_;refine hK _ _ (fun _=>HS6.out) ?_
     clear hK K;(try simp only[Act.put,zht,zhu,zhv])
     refine z05 (by rfl) fun K hK=>?_
     go_simp;refine hK _ _ (fun _=>HS6.out) ?_
     clear hK K;refine z0f ?_;go_wp2_with fail
     refine bodyPost_ret (z5l (cs:=#[.int .i64 av,.int .i64 d2,.string sx]) rfl rfl rfl bR6 underlying118 (by kernel_rfl)) rfl ?_
     exact⟨by unfold recC;rw[HREC.out,HE.out]<;>try rfl,B6⟩
   ·have hd1:decide (av<(256:Int))=false:=decide_eq_false c1;have HE:=HB false (by rw[HIS.out];simp only[hd1,Bool.false_and])
    clear c1;refine z06 [.take 0,.take 1,.take 2,.take 3,.take 4,.take 5,.take 6,.take 7,.one 8,.take 9,.take 10,.take 11,.take 12,.take 13,.take 14,.take 15,.one 16,.one 17] 18 (fun w'=>w'.cell? ⟨W.heap.size,0,none⟩=some (.int .i64 av)∧w'.cell? ⟨W.heap.size,1,none⟩=some (.int .i64 d2)∧w'.cell? ⟨W.heap.size,2,none⟩=some (.string sx)∧w'.cell? ⟨w.heap.size,0,none⟩=some (.int .i64 F)∧w'.cell? ⟨w.heap.size,1,none⟩=some (.int .i64 Z)) (by kernel_rfl) (by kernel_rfl) (fun _ _ _ _ _ h=>h) (HS.out _ (zho _ _).drew) ?_
    simp only[zhY,zhZ,Ms.fill,zhy,zhz];iterate 5 (refine z04 (by rfl) ?_ (fun w' hw'=>?_) ?_;rotate_left;(focus (go_simp;(try with_reducible rfl)));(try simp only[Act.put,zht,zhu,zhv]))
    iterate 5 ((first|(refine z0E (by rfl) ?_)|(refine z0F (by rfl) ?_));(try simp only[Act.put,zht,zhu,zhv]))
    iterate 2 (refine z04 (by rfl) ?_ (fun w' hw'=>?_) ?_;rotate_left;(focus (go_simp;(try with_reducible rfl)));(try simp only[Act.put,zht,zhu,zhv]))
    iterate 3 ((first|(refine z0E (by rfl) ?_)|(refine z0F (by rfl) ?_));(try simp only[Act.put,zht,zhu,zhv]))
    iterate 1 (refine z04 (by rfl) ?_ (fun w' hw'=>?_) ?_;rotate_left;(focus (go_simp;(try with_reducible rfl)));(try simp only[Act.put,zht,zhu,zhv]))
    have bR5:=bR3.drew;have B5:=B3.drew;have hst:=z0q (ty:=118) (vs:=#[.int .i64 av,.int .i64 d2,.string sx]) bR5 rfl (by simp[Value.oneCell']) (by kernel_rfl)
    have bR6:=bR5.setRow (cs':=#[.int .i64 av,.int .i64 d2,.string sx]);have B6:=Below.setRow B5 (g:=w.heap.size+1) (by omega) #[.int .i64 av,.int .i64 d2,.string sx]
    have HS6:=zhs (show (wc.drew.setRow (w.heap.size+1) #[.int .i64 av,.int .i64 d2,.string sx]).cell? ⟨W.heap.size,0,none⟩=some (.int .i64 av)∧(wc.drew.setRow (w.heap.size+1) #[.int .i64 av,.int .i64 d2,.string sx]).cell? ⟨W.heap.size,1,none⟩=some (.int .i64 d2)∧(wc.drew.setRow (w.heap.size+1) #[.int .i64 av,.int .i64 d2,.string sx]).cell? ⟨W.heap.size,2,none⟩=some (.string sx)∧(wc.drew.setRow (w.heap.size+1) #[.int .i64 av,.int .i64 d2,.string sx]).cell? ⟨w.heap.size,0,none⟩=some (.int .i64 F)∧(wc.drew.setRow (w.heap.size+1) #[.int .i64 av,.int .i64 d2,.string sx]).cell? ⟨w.heap.size,1,none⟩=some (.int .i64 Z)from by
     have h:=HS.out _ (zho _ _).drew;have k:∀b j,b≠w.heap.size+1→(wc.drew.setRow (w.heap.size+1) #[.int .i64 av,.int .i64 d2,.string sx]).cell? ⟨b,j,none⟩=wc.drew.cell? ⟨b,j,none⟩:=fun b j hb=>World.cell?_of_block (w:=wc.drew) (a:=⟨b,j,none⟩) (z0b _ _ _ _ hb)
     rw[k _ _ (by omega),k _ _ (by omega),k _ _ (by omega),k _ _ (by omega),k _ _ (by omega)]
     exact h)
    refine z05 (by rfl) fun K hK=>?_
    refine z0h _ _ _ rfl _ _ rfl rfl hst ?_;refine hK _ _ (fun _=>HS6.out) ?_
    clear hK K;(try simp only[Act.put,zht,zhu,zhv])
    refine z05 (by rfl) fun K hK=>?_
    go_simp;refine hK _ _ (fun _=>HS6.out) ?_
    clear hK K;refine z0f ?_;go_wp2_with fail
    refine bodyPost_ret (z5l (cs:=#[.int .i64 av,.int .i64 d2,.string sx]) rfl rfl rfl bR6 underlying118 (by kernel_rfl)) rfl ?_
    exact⟨by unfold recC;rw[HREC.out,HE.out]<;>try rfl,B6⟩
end Go.Proofs.YtejmknghkbobnaaGreatDoor
