import Derived.Test.YtejmknghkbobnaaGreatDoorPart00
import Derived.Test.YtejmknghkbobnaaGreatDoorPart29
import Derived.Test.YtejmknghkbobnaaGreatDoorPart22
import Derived.Test.YtejmknghkbobnaaGreatDoorPart31
import Derived.Deep.CutRange
import Derived.Deep.CutBlock
import Derived.Test.YtejmknghkbobnaaGreatDoorPart01
import Derived.Test.YtejmknghkbobnaaGreatDoorPart19
import Derived.Test.YtejmknghkbobnaaGreatDoorPart38
set_option linter.unusedVariables false
set_option linter.unusedSimpArgs false
set_option maxRecDepth 100000
set_option maxHeartbeats 8000000
namespace Go.Proofs.YtejmknghkbobnaaGreatDoor
open Go.Proofs.Tryz
open Go.RowKit Go.Maps
def z91 (l:List Nat):List Value:=l.map fun i:Nat=>Value.int .i64 (i:Int)
theorem z2K (l:List Nat):(z91 l).length=l.length:=by unfold z91;rw[zhX]
theorem zbq (D S n c M X L cc:Nat)(A:Option Addr)(tk pw:Int)(off:Bool)(i:Nat)(hi:i<L)(w:World)(bD:Blk w D 133 (devC S n c (.slice A L cc) tk pw off M))(bX:Blk w X 27 #[.pointer (some ⟨D,0,none⟩)]):
  Calls prog 135 #[.int .i64 (i:Int),.pointer (some ⟨X,0,none⟩)] w fun e w'=>e=.returned (.bool false)∧w'=w:=by
 unfold devC at bD;have cD:=bD.cells;have lD:=bD.lt;have cX:=bX.cells;have lX:=bX.lt;have h0:¬(i:Int)<0:=by omega
 have h1:¬(L:Int)≤i:=by omega
 go_enter func135,ntmps135
 go_wp2_with fail
 go_ret
 exact⟨rfl,rfl⟩
theorem z6Z (D S n c M X L cc cb:Nat)(A Bl:Option Addr)(tk pw:Int)(off:Bool)(l:List Nat)(hin:∀i∈l,i<L)(hl:l.length≤1000)(w:World)(bD:Blk w D 133 (devC S n c (.slice A L cc) tk pw off M))(bX:Blk w X 27 #[.pointer (some ⟨D,0,none⟩)])(hB:Reads w Bl (z91 l)):
  Calls prog 198 #[.slice Bl l.length cb,.func (.func 135) #[] #[.pointer (some ⟨X,0,none⟩)]] w fun e w'=>e=.returned (.int .i64 (-1))∧w'=w:=by
 have HIN:=zhs hin;clear hin;go_enter func198,ntmps198
 go_wp2_with fail
 go_loopw [5,8] (fun _ q wr=>∃k:Nat,k≤l.length∧q=.int .i64 k∧wr=w) (fun _ q _=>l.length - (RowKit.intOf q).toNat)
 case atStart=>exact⟨0,zi9 _,rfl,rfl⟩
 case round=>
  obtain⟨k,hk,rfl,hw⟩:=hrel;subst hw;by_cases hlt:k<l.length
  ·obtain⟨b,off',rfl,hb,hc⟩:=hB.at_ (k:=k) (by rw[z2K];exact hlt)
   have hx:=HIN.out l[k] (zhQ hlt);unfold z91 at hc;rw[List.getElem_map]at hc;generalize l[k]=x at hc hx;go_wp2_with fail
   refine(zbq D S n c M X L cc A tk pw off x hx _ bD bX).mono ?_;rintro e w2 ⟨rfl,rfl⟩;go_wp2_with fail
   go_roundw
   case rel=>exact⟨k+1,by omega,by go_num,by first|rfl|trivial⟩
   case measure=>simp[RowKit.intOf];omega
  ·obtain rfl:k=l.length:=by omega
   go_wp2_with fail
   go_ret
   exact⟨rfl,rfl⟩
theorem z4I (D S n c M X L cc cb:Nat)(A Bl:Option Addr)(tk pw:Int)(off:Bool)(l:List Nat)(hin:∀i∈l,i<L)(hl:l.length≤1000)(w:World)(bD:Blk w D 133 (devC S n c (.slice A L cc) tk pw off M))(bX:Blk w X 27 #[.pointer (some ⟨D,0,none⟩)])(hB:Reads w Bl (z91 l)):
  Calls prog 134 #[.slice Bl l.length cb,.func (.func 135) #[] #[.pointer (some ⟨X,0,none⟩)]] w fun e w'=>e=.returned (.bool false)∧w'=w:=by
 go_enter func134,ntmps134
 go_wp2_with fail
 refine(z6Z D S n c M X L cc cb A Bl tk pw off l hin hl _ bD bX hB).mono ?_;rintro e w2 ⟨rfl,rfl⟩;go_wp2_with fail
 go_ret
 exact⟨rfl,rfl⟩
theorem z92 {w W:World}{bs:List Nat}{A:Option Addr}{xs:List Value}(hR:Reads w A xs)(hx:KeepEx w.heap.size bs w W)(ha:∀ad,A=some ad→ad.block∉bs):Reads W A xs:=by
 rcases hR with h|⟨b,off,e,hb,hc⟩
 ·exact .inl h
 ·exact .inr ⟨b,off,e,zhR hb hx.size,fun j u hu=>(hx.cell (p:=⟨b,off+j,none⟩) hb (show b∉bs from ha ⟨b,off,none⟩ e)).trans (hc j u hu)⟩
theorem DevAt.off_ {w:World}{D:Nat}{B:List Nat}{x:DevS}(h:DevAt w D B x)(b:Bool):DevAt (w.setCell ⟨D,4,none⟩ (.bool b)) D B { x with off:=b }:=by
 obtain⟨ok,half,⟨S,c,M,cv,m,hD,hS,hM,hc⟩,lt⟩:=h;obtain⟨n1,n2,n3,n4,n5,n6⟩:=m.ne;have hk:∀q,q≠D→(w.setCell ⟨D,4,none⟩ (.bool b)).heap[q]?=w.heap[q]?:=fun q hq=>Below.heap_setCell w ⟨D,4,none⟩ _ q hq
 have hD0:D≠0:=by have:=(lt D hD).1;omega
 have hS':∀g,(Value.slice (some ⟨S,0,none⟩) x.stable.length c).ownBlock=some g→g≠D:=fun g e=>by cases e;exact fun e=>n1 e.symm
 refine⟨⟨ok.lo,ok.hi,ok.sec,ok.cac,ok.len,ok.tk,ok.pw⟩,⟨by simpa using half.1,fun j hj=>(World.cell?_of_block (w:=w) (a:=⟨0,j,none⟩) (hk 0 (fun e=>hD0 e.symm))).trans (half.2 j hj)⟩,⟨S,c,M,cv,⟨m.dev.set_ 4 (.bool b),z0c m.sta fun g e=>hk g (hS' g e),z0c m.cac fun g e=>hk g (fun e2=>n4 (by rw[←e2];exact e)),z0j m.map (hk M (fun e=>n2 e.symm))⟩,hD,hS,hM,hc⟩,fun q hq=>⟨(lt q hq).1,by simpa using (lt q hq).2⟩⟩
def z83 (x:DevS)(keep:List Nat):List (Int × List Int):=keep.map fun i=>x.cache.getD i (0,[])
theorem zcq {st:List (List Int)}{x:DevS}{keep:List Nat}{k:Nat}(hk:k<keep.length)(hi:keep[k]<x.cache.length):z0B st (z83 x (keep.take (k+1)))=(z0B st (z83 x (keep.take k))).set (x.cache[keep[k]]).1.toNat (x.cache[keep[k]]).2:=by
 unfold z0B z83;rw[zhE hk,List.map_append,List.foldl_append,zhY,zhZ,zhw,zhx hi];rfl
theorem z8D {x:DevS}(ok:x.Ok){keep:List Nat}(hk:z6r x keep)(k:Nat):∀s∈z0B x.stable (z83 x (keep.take k)),s.length=128∧z0V s:=
 z2A ok.sec fun p hp=>by
  obtain⟨i,hi,rfl⟩:=List.mem_map.1 hp;have:=hk i (List.mem_of_mem_take hi)
  rw[zhw,zhx this];exact(ok.cac _ (zhQ this)).2.2
theorem zcU (D:Nat)(B:List Nat)(x:DevS)(A:Option Addr)(ca:Nat)(keep:List Nat)(hk:z6r x keep)(hasc:keep.Pairwise (·<·))(hl:keep.length≤1000)(w:World)(h:DevAt w D B x)(hR:Reads w A (z91 keep))(hAB:∀ad,A=some ad→ad.block∉B):
  Calls prog 59 #[.pointer (some ⟨D,0,none⟩),.slice A keep.length ca] w (z1j w D B (0,x.crashed keep)):=by
 obtain⟨S,c,M,cv,m,hD,hS,hM,hcv⟩:=h.mem;have ok:=h.ok;have hhalf:=h.half;have hltB:=h.lt;have hz:=zeo;obtain⟨Ac,cc,g,hcvE,hA⟩:=z4W m;subst hcvE;have hL:=ok.len;have hN:=ok.hi;obtain⟨wA,hwA⟩:∃wA,wA=w.alloc (.cells #[.pointer (some ⟨D,0,none⟩)] 27):=⟨_,rfl⟩;have bX:Blk wA w.heap.size 27 #[.pointer (some ⟨D,0,none⟩)]:=by rw[hwA];exact Blk.new _ _ _
 have BA:Below w.heap.size w wA:=by rw[hwA];(repeat' (first|with_reducible (first|exact zho _ _|assumption|refine zhp ?_ ?_ _|refine zhq ?_|refine z00 ?_ _|refine zhr ?_ ?_ _|exact zhT _)|omega|(simp;done)|(simp;omega)))
 have mA:DevMem wA D S c M (.slice Ac x.cache.length cc) x:=⟨m.dev.belowAll BA,z0a m.sta BA,z0a m.cac BA,z0j m.map (BA.block M m.map.lt)⟩;have hRA:=hR.below BA;have hXl:∀b∈B,b<w.heap.size:=fun b hb=>(hltB b hb).2
 have HKP:=zhs hk;have HASC:=zhs hasc;have HB:=zhs (And.intro hD (And.intro hS (And.intro hM hcv)));have HH:=zhs hhalf;have HLT:=zhs hltB;have HXL:=zhs hXl;have HAB:=zhs hAB;clear hk hasc h m hR hD hS hM hcv hhalf hltB hXl hAB;have hok:=z2W D S x.stable.length c (.slice Ac x.cache.length cc) x.taken x.power x.off M wA mA.dev;have hcf:=z4I D S x.stable.length c M w.heap.size x.cache.length cc ca Ac A x.taken x.power x.off keep HKP.out hl wA mA.dev bX hRA;have hmf:∀(fn:Fn) (first cap:Array Value) (w:World),(Instr.makeFunc fn first cap).run prog w=.ok (.func fn first cap) w:=fun _ _ _ _=>rfl
 have cX:=bX.cells;have lX:=bX.lt;go_enter func59,ntmps59
 go_wp2_with fail
 rw[←hwA];clear hwA;go_wp2_with fail
 refine hok.mono ?_;rintro e w1 ⟨rfl,hw1⟩;replace hw1:=hw1.symm;subst hw1;go_wp2_with fail
 refine hcf.mono ?_;rintro e w1 ⟨rfl,hw1⟩;replace hw1:=hw1.symm;subst hw1;clear hok hcf cX lX;go_wp2_with fail
 go_loopw [5] (fun q wr=>∃k:Nat,q=.int .i64 ((k:Int)+1)∧(k=0∨k<keep.length)∧Below wA.heap.size wA wr) (fun q _=>keep.length - (RowKit.intOf q).toNat)
 case atStart=>exact⟨0,rfl,.inl rfl,zho _ _⟩
 case round=>
  obtain⟨k,rfl,hk0,hb⟩:=hrel;by_cases hlt:k+1<keep.length
  ·obtain⟨b,off,rfl,hb0,hc0⟩:=(hRA.below hb).at_ (k:=k) (by rw[z2K];omega)
   obtain⟨b',off',he,hb1,hc1⟩:=(hRA.below hb).at_ (k:=k+1) (by rw[z2K];exact hlt)
   cases he;have hp:=List.pairwise_iff_getElem.1 HASC.out k (k+1) (by omega) hlt (by omega)
   unfold z91 at hc0 hc1;rw[List.getElem_map]at hc0 hc1;generalize keep[k]=x0 at hc0 hp;generalize keep[k+1]=x1 at hc1 hp;have hlt':(k:Int)+1<keep.length:=by omega
   have hle:¬(x1:Int)≤x0:=by omega
   go_wp2_with fail
   go_quiet (fail)
   go_wp2_with fail
   go_roundw
   case rel=>exact⟨k+1,by go_num,.inr hlt,z00 hb _⟩
   case measure=>simp[RowKit.intOf];omega
  ·have hlt':¬(k:Int)+1<keep.length:=by omega
   have B0:=BA.trans (hb.mono BA.size);have m0:DevMem wr D S c M (.slice Ac x.cache.length cc) x:=⟨mA.dev.belowAll hb,z0a mA.sta hb,z0a mA.cac hb,z0j mA.map (hb.block M mA.map.lt)⟩;have bX0:=bX.belowAll hb;obtain⟨n1,n2,n3,n4,n5,n6⟩:=m0.ne;have hDSM:∀b∈[D,S,M],b∈B:=fun b hb=>by
    obtain⟨h1,h2,h3,-⟩:=HB.out;simp only[List.mem_cons,List.mem_nil_iff,or_false]at hb;rcases hb with rfl|rfl|rfl
    ·exact h1
    ·exact h2
    ·exact h3
   have hXn:w.heap.size∉[D,S,M]:=fun hm=>by have:=HXL.out _ (hDSM _ hm);omega
   have HAD:Hid (∀ad,A=some ad→ad.block∉[D,S,M]):=zhs fun ad e hm=>HAB.out ad e (hDSM _ hm)
   have HRW:=zhs (hRA.below hb);have HXN:=zhs hXn;have HDSM:=zhs hDSM;have HB0:=zhs B0;clear hDSM hXn B0 mA bX hRA hb BA hk0 hlt;obtain⟨W9,hW9⟩:∃W9,W9=wr:=⟨_,rfl⟩;subst hW9;go_wp2_with fail
   go_loopw [7,8,33] (fun _ _ q W=>∃k:Nat,k≤keep.length∧q=.int .i64 k∧DevMem W D S c M (.slice Ac x.cache.length cc) { x with stable:=z0B x.stable (z83 x (keep.take k)) }∧KeepEx W9.heap.size [D,S,M] W9 W∧Blk W w.heap.size 27 #[.pointer (some ⟨D,0,none⟩)]) (fun _ _ q _=>keep.length - (RowKit.intOf q).toNat)
   case atStart=>exact⟨0,by omega,rfl,m0,KeepEx.refl _ _ _,bX0⟩
   case round=>
    obtain⟨k,hk,rfl,mk,hx,bXk⟩:=hrel;clear m0 bX0;by_cases hlt2:k<keep.length
    ·have hi:keep[k]<x.cache.length:=HKP.out _ (zhQ hlt2);have hA':=hA (by omega)
     subst hA';have hstep:=zcq (st:=x.stable) hlt2 hi;obtain⟨b,off,rfl,hb0,hc0⟩:=(z92 HRW.out hx HAD.out).at_ (k:=k) (by rw[z2K];exact hlt2)
     unfold z91 at hc0;rw[List.getElem_map]at hc0;obtain⟨iN,hiN⟩:∃iN,keep[k]=iN:=⟨_,rfl⟩;have HI:=zhs hiN;simp only[hiN]at hi hc0 hstep;obtain⟨h0,h1,h2,h3⟩:=ok.cac _ (zhQ hi);have bDk:=mk.dev;unfold devC at bDk;have cDk:=bDk.cells;have lDk:=bDk.lt;have cXk:=bXk.cells;have lXk:=bXk.lt;obtain⟨p,hp⟩:∃p,x.cache[iN]=p:=⟨_,rfl⟩;rw[hp]at h0 h1 h2 h3 hstep;have hEl:z2S wr ⟨g,iN*129,none⟩ (dwV p):=⟨rfl,fun j u hu=>z2n mk.cac (by
      have hj:j<129:=by have:=(zhM.1 hu).1;rw[z0I,h2]at this;exact this
      show (x.cache.flatMap dwV)[iN*129+j]?=some u
      rw[z1r (fun q hq=>by rw[z0I,(ok.cac q hq).2.2.1]) hj hi,hp];exact hu)⟩
     have hpl:(dwV p).length=129:=by rw[z0I,h2]
     have hld:=z0P (P:=prog) hEl (zcF wr) (by rw[hpl];exact z6b wr)
     have bW0:Blk (wr.alloc (.cells (dwV (0,zsec)).toArray 130)) wr.heap.size 130 (dwV (0,zsec)).toArray:=Blk.new _ _ _;have hpz:(dwV (0,zsec)).toArray.size=129:=by simp[z0I,z07]
     have hst:=z0W (P:=prog) (ty:=130) bW0 (o:=0) (vs:=dwV p) (by rw[hpz,hpl];omega) (z3o p) (by rw[hpl];exact z6b _)
     generalize dwV (0,zsec)=z0 at *;have hiL:(iN:Int)<x.cache.length:=by omega
     go_wp2_with (first
      | (refine z4c rfl _ _ rfl (.agg (dwV p).toArray) (.pointer (some ⟨g,iN*129,none⟩)) rfl hld ?_)
      | (refine z01 rfl _ _ _ rfl _ _ rfl rfl hst ?_))
     have hz0:z0.drop 129=[]:=List.drop_eq_nil_of_le (by simpa using Nat.le_of_eq hpz)
     rw[hz0,zi5];obtain⟨W2,hW2⟩:∃W2,W2=(wr.alloc (.cells z0.toArray 130)).setRow wr.heap.size (dwV p).toArray:=⟨_,rfl⟩;rw[←hW2];have bW:Blk W2 wr.heap.size 130 (dwV p).toArray:=by rw[hW2];exact bW0.setRow
     have B2:Below wr.heap.size wr W2:=by rw[hW2];exact Below.setRow ((zho _ _).alloc (zhT _) _) (zhT _) _
     clear hW2 hst hld hEl hz0 bW0 hpz hz hc0 cDk lDk cXk lXk;have m2:DevMem W2 D S c M (.slice (some ⟨g,0,none⟩) x.cache.length cc) { x with stable:=z0B x.stable (z83 x (keep.take k)) }:=
      ⟨bDk.belowAll B2,z0a mk.sta B2,z0a mk.cac B2,z0j mk.map (B2.block M mk.map.lt)⟩
     have bX2:=bXk.belowAll B2;have bD2:=m2.dev;simp only[devC,z0e]at bD2;have cD2:=bD2.cells;have cX2:=bX2.cells;have lX2:=bX2.lt;have cW:=bW.cells;have lW:=bW.lt;have lD2:=bD2.lt;have cW0:W2.cell? ⟨wr.heap.size,0,none⟩=some (.int .i64 p.1):=by rw[cW];rfl
     have hpl2:(secV p.2).length=128:=by rw[z0T,h2]
     have hld2:=z0P (P:=prog) (w:=W2.drew) (ty:=128) (p:=⟨wr.heap.size,1,none⟩) (vs:=secV p.2) (bW.drew.at_ 1 _ (fun j u hu=>by rw[Nat.add_comm];simpa[dwV]using hu)) (z9g _) (by rw[hpl2];exact z3r _)
     obtain⟨pn,hpn⟩:=Int.eq_ofNat_of_zero_le h0;rw[hpn]at h1 cW0;clear cW bDk;refine wp_region_still_tail 10 (by kernel_rfl) (by kernel_rfl) ?_
     simp only[List.take_succ_cons,zi2,List.drop_succ_cons,List.drop_zero];change wpStill _ _ W2.drew _ _ _
     repeat (first|(refine z3p rfl _ _ rfl (.agg (secV p.2).toArray) (.pointer (some ⟨wr.heap.size,1,none⟩)) rfl hld2 ?_)|still_step)
     refine wpStill_nil ?_;change wpList _ _ _ _ _ W2.drew
     obtain⟨cur,bS,hfit,own'⟩:=z4J m2.sta (pn*128) (secV p.2) (by simp only[z0e];rw[hpl2];omega)
     have hst2:=z0W (P:=prog) (w:=W2.drew) (ty:=128) bS hfit (z3H p.2) (by rw[hpl2];exact z3r _)
     obtain⟨W3,hW3⟩:∃W3,W3=W2.drew.setRow S (cur.toList.take (pn*128)++secV p.2++cur.toList.drop (pn*128+(secV p.2).length)).toArray:=⟨_,rfl⟩;rw[←hW3]at hst2;have hx3:KeepEx W9.heap.size [D,S,M] W9 W3:=(hx.trans (KeepEx.of_below (B2.mono hx.size))).trans (by rw[hW3];exact(KeepEx.of_below (zho _ _).drew).trans (KeepEx.setRow _ (.inl (by simp)) _))
     have hXS:w.heap.size≠S:=fun e=>HXN.out (by simp[e])
     have bX3:Blk W3 w.heap.size 27 #[.pointer (some ⟨D,0,none⟩)]:=by rw[hW3];exact bX2.drew.rowFar hXS
     have m3:DevMem W3 D S c M (.slice (some ⟨g,0,none⟩) x.cache.length cc) { x with stable:=z0B x.stable (z83 x (keep.take (k+1))) }:=by
      rw[hW3];refine⟨?_,?_,?_,?_⟩
      ·have:=bD2.drew.rowFar (cs':=(cur.toList.take (pn*128)++secV p.2++cur.toList.drop (pn*128+(secV p.2).length)).toArray) n1
       simp only[devC,z0e];exact this
      ·rw[hstep,z5D (f:=secV) (m:=128) (fun s hs=>by rw[z0T];exact(z8D ok HKP.out k s hs).1) hpl2 (by rw[z0e];omega),hpn]
       simp only[List.length_set,z0e]at own' ⊢;exact own'
      ·exact z0c m2.cac fun j e=>z0b _ _ _ _ (fun e'=>by subst e';exact n6 e)
      ·exact z0j m2.map (z0b _ _ _ _ (fun e'=>n3 e'.symm))
     clear hW3 own' bS hfit hstep hpn cD2 cX2 cW0;go_wp2_with (refine z01 rfl _ _ _ rfl _ _ rfl rfl hst2 ?_)
     go_roundw
     case rel=>exact⟨k+1,by omega,by go_num,m3,hx3,bX3⟩
     case measure=>simp[RowKit.intOf];omega
    ·obtain rfl:k=keep.length:=by omega
     rw[zia]at mk;have cXk:=bXk.cells;have lXk:=bXk.lt;go_wp2_with fail
     refine(z8z D S c M _ _ wr mk).mono ?_;rintro e w1 ⟨⟨v,rfl⟩,m1,hx1⟩;have bX1:Blk w1 w.heap.size 27 #[.pointer (some ⟨D,0,none⟩)]:=hx1.blk bXk lXk (fun hm=>HXN.out (by simp only[List.mem_cons,List.mem_nil_iff,or_false]at hm ⊢;rcases hm with h|h<;>simp[h]))
     have hxA:KeepEx W9.heap.size [D,S,M] W9 w1:=hx.trans ⟨hx1.os,hx1.tape,hx1.output,hx1.size,fun b hb hn=>hx1.block b (by have:=hx.size;omega) (by simp at hn ⊢;omega)⟩
     have kx:KeepEx w.heap.size B w w1:=(KeepEx.of_below HB0.out).trans ⟨hxA.os,hxA.tape,hxA.output,hxA.size,fun b hb hn=>hxA.block b (zhR hb HB0.out.size) (fun hm=>hn (HDSM.out b hm))⟩
     have g1:Grow w B w1 B:=⟨kx,fun b hb=>.inl hb⟩
     have h0:0∉B:=fun hm=>by have:=(HLT.out 0 hm).1;omega
     obtain⟨hD,hS,hM,-⟩:=HB.out;have oky:({ x with stable:=z0B x.stable (z83 x keep),cache:=[] }:DevS).Ok:=
      ⟨by show 64≤(z0B _ _).length;rw[z0e];exact ok.lo,by show (z0B _ _).length≤256;rw[z0e];exact ok.hi,fun s hs=>z8D ok HKP.out keep.length s (by rw[zia];exact hs),fun p hp=>(by cases hp),by show 0≤400;omega,ok.tk,ok.pw⟩
     have d1:DevAt w1 D B { x with stable:=z0B x.stable (z83 x keep),cache:=[] }:=
      ⟨oky,g1.half HH.out h0,⟨S,c,M,_,m1,hD,hS,hM,fun g e=>by simp[Value.ownBlock]at e⟩,fun b hb=>⟨(HLT.out b hb).1,zhR (HLT.out b hb).2 g1.keep.size⟩⟩
     have d2:=(d1.below (zho w1.heap.size w1).drew).limit (n:=-1) (by omega)
     have d3:=d2.off_ false;have gF:Grow w B ((w1.drew.setCell ⟨D,3,none⟩ (.int .i64 (-1))).setCell ⟨D,4,none⟩ (.bool false)) B:=
      (g1.trans (Grow.of_below (zho w1.heap.size w1).drew B)).trans ⟨(KeepEx.setCell _ (.inl hD) _).trans (KeepEx.setCell _ (.inl hD) _),fun b hb=>.inl hb⟩
     have bD1:=m1.dev;unfold devC at bD1;have c3:w1.cell? ⟨D,3,none⟩=some (.int .i64 x.power):=(bD1.cells 3).trans rfl;have c4:w1.cell? ⟨D,4,none⟩=some (.bool x.off):=(bD1.cells 4).trans rfl;have lD:=bD1.lt;have fD:=bD1.free;have cB:w1.cell? ⟨w.heap.size,0,none⟩=some (.pointer (some ⟨D,0,none⟩)):=(bX1.cells 0).trans rfl;have nXD:w.heap.size≠D:=fun e=>HXN.out (by simp[e])
     have HF:=zhs (And.intro d3 gF);clear d1 d2 d3 gF bD1 m1 hx1 hxA kx g1 mk hx bXk cXk lXk hD hS hM oky n1 n2 n3 n4 n5 n6;go_upto_region 17 with fail
     refine z06 [.take 0,.take 1,.take 2,.take 3,.take 4,.one 5,.take 6,.take 7,.take 8,.one 9] 10 (fun W=>W.cell? ⟨w.heap.size,0,none⟩=some (.pointer (some ⟨D,0,none⟩))) (by kernel_rfl) (by kernel_rfl) (fun _ _ _ _ _ h=>h) cB ?_
     simp only[zhY,zhZ,Ms.fill,zhy,zhz];iterate 5 (refine z04 (by rfl) ?_ (fun w' hw'=>?_) ?_;rotate_left;(focus (go_simp;(try with_reducible rfl)));(try simp only[Act.put,zht,zhu,zhv]))
     refine z05 (by rfl) fun K hK=>?_
     go_simp;refine hK _ _ (fun _=>((Blk.far bX1 (p:=⟨D,3,none⟩) nXD (.int .i64 (-1))).cells 0).trans rfl) ?_
     clear hK K;iterate 3 (refine z04 (by rfl) ?_ (fun w' hw'=>?_) ?_;rotate_left;(focus (go_simp;(try with_reducible rfl)));(try simp only[Act.put,zht,zhu,zhv]))
     refine z05 (by rfl) fun K hK=>?_
     go_simp;refine hK _ _ (fun _=>((Blk.far (Blk.far bX1 (p:=⟨D,3,none⟩) nXD (.int .i64 (-1))) (p:=⟨D,4,none⟩) nXD (.bool false)).cells 0).trans rfl) ?_
     clear hK K;refine z0f ?_;go_wp2_with fail
     go_ret
     exact⟨rfl,B,HF.out.1,HF.out.2⟩
theorem z2J (s j i:Int)(w:World):
  Calls prog 44 #[.agg #[.int .i64 s,.int .i64 j,.int .i64 i]] w fun e w'=>e=.returned (.agg #[.int .i64 (rgJ s j i),.int .i64 j])∧Below w.heap.size w w':=by
 obtain⟨w0,hw0⟩:∃w0,w0=(w.alloc (.cells #[.int .i64 s,.int .i64 j,.int .i64 i] 23)).alloc (.cells #[.int .i64 0,.int .i64 0] 109):=⟨_,rfl⟩;have bL:Blk w0 w.heap.size 23 #[.int .i64 s,.int .i64 j,.int .i64 i]:=by rw[hw0];exact(Blk.new _ _ _).alloc _
 have bR:Blk w0 (w.heap.size+1) 109 #[.int .i64 0,.int .i64 0]:=by rw[hw0];exact Blk.new' (by simp)
 have B0:Below w.heap.size w w0:=by rw[hw0];(repeat' (first|with_reducible (first|exact zho _ _|assumption|refine zhp ?_ ?_ _|refine zhq ?_|refine z00 ?_ _|refine zhr ?_ ?_ _|exact zhT _)|omega|(simp;done)|(simp;omega)))
 go_enter func44,ntmps44
 go_upto_region 1 with fail
 rw[←hw0];clear hw0;have cL:=bL.cells;have lL:=bL.lt;go_wp2_with fail
 refine(z1S s j i w0).mono ?_;rintro e w1 ⟨rfl,hb1⟩;have bL1:=bL.belowAll hb1;have bR1:=bR.belowAll hb1;have B1:=B0.trans (hb1.mono B0.size);obtain⟨a2,a3,a4,a5,hv⟩:∃a2 a3 a4 a5:Int,rgV s j i=.agg #[.int .i64 (rgJ s j i),.int .i64 a2,.int .i64 a3,.int .i64 a4,.int .i64 a5]:=⟨_,_,_,_,rfl⟩;rw[hv];obtain⟨J,hJ⟩:∃J,rgJ s j i=J:=⟨_,rfl⟩;have HJ:=zhs hJ;rw[hJ];clear hJ;clear hv cL lL bL bR B0 hb1;have cL:=bL1.cells;have lL:=bL1.lt;have cR:=bR1.cells;have fR:=bR1.free;have lR:=bR1.lt;go_wp2_with fail
 refine bodyPost_ret (v:=.agg #[.int .i64 J,.int .i64 j]) (by simp[results,results44,go_sem,cR,lR]) rfl ?_
 exact⟨by rw[HJ.out],by (repeat' (first|with_reducible (first|exact zho _ _|assumption|refine zhp ?_ ?_ _|refine zhq ?_|refine z00 ?_ _|refine zhr ?_ ?_ _|exact zhT _)|omega|(simp;done)|(simp;omega)))⟩
theorem zdg {y:TxS}(hc:y.Clean):y.left=z0Z y.j - y.recs.length:=by
 unfold TxS.left TxS.most z0Z;rw[z28 hc];split<;>omega
theorem z9P {w:World}{P:Nat→Prop}{x:DevS}{y:TxS}{tv:Array Value}(hq:RTx w P x y tv)(ok:y.Ok)(hc:y.Clean):
  Calls prog 146 #[.agg tv] w fun e w'=>e=.returned (.int .i64 y.left)∧Below w.heap.size w w':=by
 obtain⟨w0,hw0⟩:∃w0,w0=w.alloc (.cells tv 50):=⟨_,rfl⟩;have bT:Blk w0 w.heap.size 50 tv:=by rw[hw0];exact Blk.new _ _ _
 have B0:Below w.heap.size w w0:=by rw[hw0];(repeat' (first|with_reducible (first|exact zho _ _|assumption|refine zhp ?_ ?_ _|refine zhq ?_|refine z00 ?_ _|refine zhr ?_ ?_ _|exact zhT _)|omega|(simp;done)|(simp;omega)))
 have hsz:=hq.size;obtain⟨n5,n6,n7,-,-⟩:=hq.nums;have hbd:=z10 ok.rg;have hJ:=(z3R ok.rg).1;have HQ:=zhs hq;have HL:=zhs (zdg hc);have hrl:y.recs.length≤81:=by have:=z5G hc (i:=y.writes.length+1) (d:=true) (out:=y.recs) (.inl ⟨rfl,rfl⟩);have:=ok.len;unfold TxS.left TxS.most at this;split at this<;>omega
 have hm0:(0:Int)≤z0Z y.j∧z0Z y.j≤80:=by unfold z0Z;omega
 have hjr:=fun W=>z2J y.s y.j y.i W
 rw[hJ]at hjr;have hS1:∀W,Below w0.heap.size w0 W→Blk W w.heap.size 50 tv∧W.cell? ⟨w.heap.size,5,none⟩=some (.int .i64 y.s)∧W.cell? ⟨w.heap.size,6,none⟩=some (.int .i64 y.j)∧W.cell? ⟨w.heap.size,7,none⟩=some (.int .i64 y.i):=fun W hW=>by
  have b:=bT.belowAll hW;exact⟨b,(b.cells 5).trans n5,(b.cells 6).trans n6,(b.cells 7).trans n7⟩
 clear hq;go_enter func146,ntmps146
 go_upto_region 1 with fail
 rw[←hw0];clear hw0;refine z06 [.take 0,.take 1,.take 4,.one 2,.one 3,.one 5,.take 6,.take 7,.one 8] 9 (fun W=>Blk W w.heap.size 50 tv∧W.cell? ⟨w.heap.size,5,none⟩=some (.int .i64 y.s)∧W.cell? ⟨w.heap.size,6,none⟩=some (.int .i64 y.j)∧W.cell? ⟨w.heap.size,7,none⟩=some (.int .i64 y.i)) (by kernel_rfl) (by kernel_rfl) (fun _ _ _ _ _ h=>h) (hS1 _ (zho _ _).drew) ?_
 simp only[zhY,zhZ,Ms.fill,zhy,zhz];iterate 2 (refine z04 (by rfl) ?_ (fun w' hw'=>?_) ?_;rotate_left;(focus (go_simp;(try with_reducible rfl)));(try simp only[Act.put,zht,zhu,zhv]))
 refine z04 (by rfl) (.agg tv) (fun w' hw'=>z0w 50 _ rfl rfl (z0n hw'.1 hsz)) ?_
 (try simp only[Act.put,zht,zhu,zhv])
 refine z05 (by rfl) fun K hK=>?_
 go_simp;refine(hjr w0.drew).mono ?_;rintro e w1 ⟨rfl,hb1⟩;have hb1':Below w0.heap.size w0 w1:=(zho _ _).drew.trans hb1;refine hK _ _ (fun _=>hS1 _ hb1') ?_
 clear hK K;refine z05 (by rfl) fun K hK=>?_
 go_simp;refine(z5X 1 y.j (by omega) w1).mono ?_
 rintro e w2 ⟨rfl,hb2⟩;have hb2':Below w0.heap.size w0 w2:=hb1'.trans (hb2.mono hb1'.size);refine hK _ _ (fun _=>hS1 _ hb2') ?_
 clear hK K;have hB2:=B0.trans (hb2'.mono B0.size);have hrec:=z3M (HQ.out.below hB2) ok hc;refine z05 (by rfl) fun K hK=>?_
 go_simp;refine hrec.mono ?_;rintro e w3 ⟨A,c,rfl,ho3,hb3⟩;have hb3':Below w0.heap.size w0 w3:=hb2'.trans (hb3.mono hb2'.size);have hB3:=hB2.trans (hb3.mono hB2.size);refine hK _ _ (fun _=>hS1 _ hb3') ?_
 clear hK K hrec ho3;have hwr:IntKind.i64.wrap (z0Z y.j - y.recs.length)=z0Z y.j - y.recs.length:=by rw[IntKind.wrap_i64];omega
 iterate 2 (refine z04 (by rfl) ?_ (fun w' hw'=>?_) ?_;rotate_left;(focus (go_simp;(try with_reducible rfl)));(try simp only[Act.put,zht,zhu,zhv]))
 refine z05 (by rfl) fun K hK=>?_
 go_simp;refine hK _ _ (fun _=>hS1 _ hb3') ?_
 clear hK K;refine z0f ?_;go_wp2_with fail
 go_ret
 exact⟨by rw[HL.out];rfl,hB3⟩
theorem zcf {w:World}{P:Nat→Prop}{x:DevS}{y:TxS}{tv:Array Value}(hq:RTx w P x y tv)(ok:y.Ok)(hc:y.Clean):
  Calls prog 72 #[.agg tv] w fun e w'=>Below w.heap.size w w'∧((y.stateE≠0∧e=.returned (.tuple #[.slice none 0 0,.int .i64 y.stateE]))∨(y.stateE=0∧∃A c,e=.returned (.tuple #[.slice A y.recs.length c,.int .i64 0])∧w'.ownsRow w.heap.size 118 3 (.slice A y.recs.length c) y.recs.length (y.recs.flatMap recV))):=by
 obtain⟨w0,hw0⟩:∃w0,w0=w.alloc (.cells tv 50):=⟨_,rfl⟩;have bT:Blk w0 w.heap.size 50 tv:=by rw[hw0];exact Blk.new _ _ _
 have B0:Below w.heap.size w w0:=by rw[hw0];(repeat' (first|with_reducible (first|exact zho _ _|assumption|refine zhp ?_ ?_ _|refine zhq ?_|refine z00 ?_ _|refine zhr ?_ ?_ _|exact zhT _)|omega|(simp;done)|(simp;omega)))
 have hsz:=hq.size;have HQ:=zhs hq;have hst:=z2R (hq.below B0);clear hq;go_enter func72,ntmps72
 go_upto_region 1 with fail
 rw[←hw0];clear hw0;have l0:=z0n bT hsz;go_wp2_with (refine z02 (by rfl) _ _ rfl (.agg tv) (.pointer (some ⟨w.heap.size,0,none⟩)) rfl l0 ?_)
 refine hst.mono ?_;rintro e w1 ⟨rfl,hb1⟩;have bT1:=bT.belowAll hb1;have B1:=B0.trans (hb1.mono B0.size);have l1:=z0n bT1 hsz;clear hst l0;by_cases hE:y.stateE=0
 rotate_left
 ·obtain⟨E,hEE⟩:∃E,E=y.stateE:=⟨_,rfl⟩;have HEQ:=zhs hEE;rw[←hEE]at hE ⊢;have HN:=zhs hE;have hE':(E != 0)=true:=by simpa using hE
  clear hE hEE;go_wp2_with fail
  go_ret2
  refine⟨B1,.inl ⟨?_,?_⟩⟩<;>first|exact HN.out|(rw[←HEQ.out];exact HN.out)|rfl|(rw[←HEQ.out];try rfl)
 have HE:=zhs hE;rw[hE];clear hE;have hrec:=z3M (HQ.out.below B1) ok hc;go_wp2_with (refine z02 (by rfl) _ _ rfl (.agg tv) (.pointer (some ⟨w.heap.size,0,none⟩)) rfl l1 ?_)
 refine hrec.mono ?_;rintro e w2 ⟨A,c,rfl,ho,hb2⟩;have HO:=zhs ho;clear hrec ho;go_wp2_with fail
 go_ret2
 exact⟨B1.trans (hb2.mono B1.size),.inr ⟨HE.out,A,c,rfl,z0y HO.out B1.size⟩⟩
theorem zdF {w:World}{P:Nat→Prop}{x:DevS}{y:TxS}{tv:Array Value}(hq:RTx w P x y tv):
  Calls prog 71 #[.agg tv] w fun e w'=>Below w.heap.size w w'∧((y.stateE≠0∧e=.returned (.tuple #[.agg #[.int .i64 0,.int .i64 0,.int .i64 0,.slice none 0 0],.int .i64 y.stateE]))∨(y.stateE=0∧∃A c,e=.returned (.tuple #[.agg #[.int .i64 y.s,.int .i64 y.j,.int .i64 y.i,.slice A y.now.length c],.int .i64 0])∧Reads w A (y.now.map .bool))):=by
 obtain⟨w0,hw0⟩:∃w0,w0=(w.alloc (.cells tv 50)).alloc (.cells #[.int .i64 0,.int .i64 0,.int .i64 0,.slice none 0 0] 47):=⟨_,rfl⟩;have bT:Blk w0 w.heap.size 50 tv:=by rw[hw0];exact(Blk.new _ _ _).alloc _
 have bR:Blk w0 (w.heap.size+1) 47 #[.int .i64 0,.int .i64 0,.int .i64 0,.slice none 0 0]:=by rw[hw0];exact Blk.new' (by simp)
 have B0:Below w.heap.size w w0:=by rw[hw0];(repeat' (first|with_reducible (first|exact zho _ _|assumption|refine zhp ?_ ?_ _|refine zhq ?_|refine z00 ?_ _|refine zhr ?_ ?_ _|exact zhT _)|omega|(simp;done)|(simp;omega)))
 have hsz:=hq.size;have hst:=z2R (hq.below B0);obtain⟨p,htv,hp⟩:=hq;have c17:tv[17]?=some (.int .i64 y.s)∧tv[18]?=some (.int .i64 y.j)∧tv[19]?=some (.int .i64 y.i)∧tv[20]?=some (.slice p.N y.now.length p.nc):=by rw[htv];exact⟨rfl,rfl,rfl,rfl⟩
 have HN:=zhs hp.now;clear htv hp;go_enter func71,ntmps71
 go_upto_region 1 with fail
 rw[←hw0];clear hw0;have l0:=z0n bT hsz;go_wp2_with (refine z02 (by rfl) _ _ rfl (.agg tv) (.pointer (some ⟨w.heap.size,0,none⟩)) rfl l0 ?_)
 refine hst.mono ?_;rintro e w1 ⟨rfl,hb1⟩;have bT1:=bT.belowAll hb1;have bR1:=bR.belowAll hb1;have B1:=B0.trans (hb1.mono B0.size);have cR:=bR1.cells;have lR:=bR1.lt;have fR:=bR1.free;clear hst l0;by_cases hE:y.stateE=0
 rotate_left
 ·obtain⟨E,hEE⟩:∃E,E=y.stateE:=⟨_,rfl⟩;have HEQ:=zhs hEE;rw[←hEE]at hE ⊢;have HN:=zhs hE;have hE':(E != 0)=true:=by simpa using hE
  clear hE hEE;go_wp2_with fail
  refine bodyPost_ret (v:=.tuple #[.agg #[.int .i64 0,.int .i64 0,.int .i64 0,.slice none 0 0],.int .i64 E]) (by simp[results,results71,go_sem,cR,lR]) rfl ?_
  refine⟨by (repeat' (first|with_reducible (first|exact zho _ _|assumption|refine zhp ?_ ?_ _|refine zhq ?_|refine z00 ?_ _|refine zhr ?_ ?_ _|exact zhT _)|omega|(simp;done)|(simp;omega))),.inl ⟨?_,?_⟩⟩<;>first|exact HN.out|(rw[←HEQ.out];exact HN.out)|rfl|(rw[←HEQ.out];try rfl)
 have HE:=zhs hE;rw[hE];clear hE;have d17:=(bT1.cells 17).trans c17.1;have d18:=(bT1.cells 18).trans c17.2.1;have d19:=(bT1.cells 19).trans c17.2.2.1;have d20:=(bT1.cells 20).trans c17.2.2.2;have lT:=bT1.lt;go_wp2_with fail
 refine bodyPost_ret (v:=.tuple #[.agg #[.int .i64 y.s,.int .i64 y.j,.int .i64 y.i,.slice p.N y.now.length p.nc],.int .i64 0]) (by simp[results,results71,go_sem,cR,lR]) rfl ?_
 exact⟨by (repeat' (first|with_reducible (first|exact zho _ _|assumption|refine zhp ?_ ?_ _|refine zhq ?_|refine z00 ?_ _|refine zhr ?_ ?_ _|exact zhT _)|omega|(simp;done)|(simp;omega))),.inr ⟨HE.out,p.N,p.nc,rfl,HN.out⟩⟩
theorem RTx.sv {w:World}{P:Nat→Prop}{x:DevS}{y:TxS}{tv:Array Value}(h:RTx w P x y tv):RSv w P x (tv.toList.take 5).toArray:=by
 obtain⟨p,rfl,h⟩:=h;exact⟨p.A,p.c,p.C,p.d,rfl,h.dev⟩
theorem RTx.putsv {w:World}{P:Nat→Prop}{x x':DevS}{y:TxS}{tv sv:Array Value}(h:RTx w P x y tv)(k:RSv w P x' sv):RTx w P x' y (tv.toList.take 0++sv.toList++tv.toList.drop (0+sv.toList.length)).toArray:=by
 obtain⟨p,rfl,h⟩:=h;obtain⟨A,c,C,d,rfl,k⟩:=k;exact⟨{ p with A:=A,c:=c,C:=C,d:=d },rfl,k,h.was,h.now,h.run,h.lw,h.ln,h.ll,h.nc,h.lc⟩
theorem z5H {w:World}{base:Nat}{e:TypeId}{size n m c:Nat}{A:Option Addr}{xs:List Value}(h:w.ownsRow base e size (.slice A m c) n xs):n≤c:=by
 rcases h.2 with ⟨h1,rfl⟩|⟨g,cap,cur,h1,_,_,h2,_⟩
 ·omega
 ·injection h1 with _ _ h3;omega
theorem zgI (w:World):(isAgg 34).run prog w=.ok true w:=by kernel_rfl
theorem zay {W:World}{D:Nat}{t:TypeId}{tv:Array Value}(b:Blk W D t tv)(h:tv.size=25):(Instr.loadAt 34 (.pointer (some ⟨D,0,none⟩))).run prog W=.ok (.agg (tv.toList.take 5).toArray) W:=by
 have hl:(tv.toList.take 5).length=5:=by rw[zi6];simp[h]
 refine z0P (vs:=tv.toList.take 5) (b.at_ 0 _ fun j u hu=>?_) (zgI W) (by rw[hl];kernel_rfl)
 rw[zi8];rw[List.getElem?_take]at hu;split at hu
 ·simpa using hu
 ·cases hu
theorem zdq {w:World}{P:Nat→Prop}{x:DevS}{y:TxS}{tv:Array Value}(hq:RTx w P x y tv)(hcalm:x.Calm)(hP:∀b,w.heap.size≤b→P b)(ok:y.Ok)(hc:y.Clean):
  Calls prog 15 #[.agg tv] w fun e w'=>(y.stateE≠0∧RTgot w P x (y.stateE,y) e w')∨(y.stateE=0∧RTgot w P (y.commit x).2 ((y.commit x).1,y.end_) e w'):=by
 obtain⟨w0,hw0⟩:∃w0,w0=(w.alloc (.cells tv 50)).alloc (.cells txZ 50):=⟨_,rfl⟩;have bT:Blk w0 w.heap.size 50 tv:=by rw[hw0];exact(Blk.new _ _ _).alloc _
 have bR:Blk w0 (w.heap.size+1) 50 txZ:=by rw[hw0];exact Blk.new' (by simp)
 have B0:Below w.heap.size w w0:=by rw[hw0];(repeat' (first|with_reducible (first|exact zho _ _|assumption|refine zhp ?_ ?_ _|refine zhq ?_|refine z00 ?_ _|refine zhr ?_ ?_ _|exact zhT _)|omega|(simp;done)|(simp;omega)))
 have hQ0:=hq.apt B0 w0.heap.size;have HN:=zhs (Apt_.new hP B0.size);have hsz:=hq.size;have hone:=hq.one;have zR:=zhs bR.lt;have hst0:=z2R hQ0;have HQ:=zhs hQ0;clear hq hQ0 hP;unfold txZ txR at hw0;go_enter func15,ntmps15
 go_upto_region 1 with fail
 rw[←hw0];clear hw0;have l0:=z0n bT hsz;go_wp2_with (refine z02 (by rfl) _ _ rfl (.agg tv) (.pointer (some ⟨w.heap.size,0,none⟩)) rfl l0 ?_)
 refine hst0.mono ?_;rintro e w1 ⟨rfl,hb1⟩;have bT1:=bT.belowAll hb1;have bR1:=bR.belowAll hb1;have B1:=B0.trans (hb1.mono B0.size);have hQ1:=HQ.out.below hb1;have HZ1:=zhs hb1.size;clear hst0 l0 bT bR B0 hb1;by_cases hE:y.stateE=0
 rotate_left
 ·as_aux_lemma=>
  obtain⟨E,hEE⟩:∃E,E=y.stateE:=⟨_,rfl⟩;have HEQ:=zhs hEE;rw[←hEE]at hE ⊢;have HNE:=zhs hE;have hE':(E != 0)=true:=by simpa using hE
  have l1:=z0n bT1 hsz;have hst:=z0v bR1 rfl hsz hone;have bR2:=bR1.setRow (cs':=tv);have hfin:=RTgot.mk (R:=w.heap.size+1) E hQ1 B1 (by omega) zR.out
  clear hE hEE;go_wp2_with (first|(refine z02 (by rfl) _ _ rfl (.agg tv) (.pointer (some ⟨w.heap.size,0,none⟩)) rfl l1 ?_)|(refine z01 rfl _ _ _ rfl _ _ rfl rfl hst ?_))
  refine bodyPost_ret (z08 (cs:=tv) rfl rfl rfl bR2 underlying50 (by rw[hsz];kernel_rfl)) rfl (.inl ?_)
  first|exact⟨HNE.out,hfin⟩|(rw[←HEQ.out];exact⟨HNE.out,hfin⟩)
 have HE:=zhs hE;rw[hE];clear hE;have c24:=(bT1.cells 24).trans hQ1.flags.2.2;have lT:=bT1.lt;have fT:=bT1.free;have bT2:=bT1.set_ 24 (.bool true);have bR2:Blk (w1.setCell ⟨w.heap.size,24,none⟩ (.bool true)) (w.heap.size+1) 50 txZ:=(Below.heap_setCell w1 _ _ _ (by show w.heap.size+1≠w.heap.size;omega)).trans bR1
 have B2:Below w.heap.size w (w1.setCell ⟨w.heap.size,24,none⟩ (.bool true)):=zhr B1 (zhT _) _;have hQ2:=(hQ1.cell (q:=⟨w.heap.size,24,none⟩) (Apt_.ne (zhT _) (by show w.heap.size<w0.heap.size;have:=zR.out;omega)) (.bool true)).end_
 have HZ2:Hid (w0.heap.size≤(w1.setCell ⟨w.heap.size,24,none⟩ (.bool true)).heap.size):=zhs (by simpa using HZ1.out)
 have ok2:y.end_.Ok:=⟨ok.rg,ok.was,ok.now,ok.recs,ok.len⟩;have hc2:y.end_.Clean:=⟨hc.asc,hc.out,hc.small,hc.j0⟩;go_upto_region 5 with fail
 generalize w1.setCell ⟨w.heap.size,24,none⟩ (.bool true)=W2 at *;generalize tv.setIfInBounds 24 (.bool true)=tv2 at *;clear c24 lT fT bT1 bR1 B1 hQ1;have hsz2:=hQ2.size;have l2:=z0n bT2 hsz2;have hrec:=z3M hQ2 ok2 hc2;have HRS:=zhs (show y.end_.recs=y.recs from rfl)
 rw[show y.end_.recs=y.recs from rfl]at hrec
 go_wp2_with (refine z02 (by rfl) _ _ rfl (.agg tv2) (.pointer (some ⟨w.heap.size,0,none⟩)) rfl l2 ?_)
 refine hrec.mono ?_;rintro e w3 ⟨A,c,rfl,ho3,hb3⟩;have bT3:=bT2.belowAll hb3;have bR3:=bR2.belowAll hb3;have B3:=B2.trans (hb3.mono B2.size);have hQ3:=hQ2.below hb3;have hone3:=hQ3.one;have HZ3:=zhs (zhS HZ2.out hb3.size);have HO:=zhs ho3;have HCM:Hid (y.commit x=if y.recs=[]then (0,x)else x.commit 1 y.j y.recs):=zhs rfl
 clear hrec l2 bT2 bR2 B2 hb3 ho3 hQ2;by_cases hr0:y.recs=[]
 ·as_aux_lemma=>
  have HC0:Hid (y.commit x=(0,x)):=zhs (by rw[HCM.out,if_pos hr0])
  have hlen:((y.recs.length:Int)==0)=true:=by rw[hr0];rfl
  have l3:=z0n bT3 hsz2;have hst:=z0v bR3 rfl hsz2 hone3;have bR4:=bR3.setRow (cs':=tv2);have hfin:=RTgot.mk (R:=w.heap.size+1) 0 hQ3 B3 (by omega) zR.out
  clear hr0 HO;go_wp2_with (first|(refine z02 (by rfl) _ _ rfl (.agg tv2) (.pointer (some ⟨w.heap.size,0,none⟩)) rfl l3 ?_)|(refine z01 rfl _ _ _ rfl _ _ rfl rfl hst ?_))
  refine bodyPost_ret (z08 (cs:=tv2) rfl rfl rfl bR4 underlying50 (by rw[hsz2];kernel_rfl)) rfl (.inr ⟨HE.out,?_⟩)
  rw[HC0.out];exact hfin
 as_aux_lemma=>
 have HC1:Hid (y.commit x=x.commit 1 y.j y.recs):=zhs (by rw[HCM.out,if_neg hr0])
 have hlen:((y.recs.length:Int)==0)=false:=by
  rw[beq_eq_false_iff_ne];intro e;exact hr0 (List.eq_nil_of_length_eq_zero (by omega))
 obtain⟨n5,n6,n7,-,-⟩:=hQ3.nums;have hJ:=(z3R ok.rg).1;have hjr:=fun W=>z2J y.s y.j y.i W
 rw[hJ]at hjr;have hok:=ze4 ok hc;have hSv:=hQ3.sv;have hlc:y.recs.length≤c:=(z5H HO.out);have hS1:∀W,Below w3.heap.size w3 W→Blk W w.heap.size 50 tv2∧W.cell? ⟨w.heap.size,5,none⟩=some (.int .i64 y.s)∧W.cell? ⟨w.heap.size,6,none⟩=some (.int .i64 y.j)∧W.cell? ⟨w.heap.size,7,none⟩=some (.int .i64 y.i):=fun W hW=>by
  have b:=bT3.belowAll hW;exact⟨b,(b.cells 5).trans n5,(b.cells 6).trans n6,(b.cells 7).trans n7⟩
 go_upto_region 8 with fail
 refine z13 (Us.takes [0,1,2,3,5] (.one 4 (.one 6 (Us.pures [7,8,9,10] (.late 11 (.late 12 .done)))))) 11 (fun W=>Blk W w.heap.size 50 tv2∧W.cell? ⟨w.heap.size,5,none⟩=some (.int .i64 y.s)∧W.cell? ⟨w.heap.size,6,none⟩=some (.int .i64 y.j)∧W.cell? ⟨w.heap.size,7,none⟩=some (.int .i64 y.i)) (by kernel_rfl) (by kernel_rfl) (fun _ _ _ _ _ h=>h) (hS1 _ (zho _ _).drew) ?_
 simp only[Us.takes,Us.pures,Us.fill,zhy,zhz];iterate 1 (refine z0K (by rfl) ?_ (fun w' hw'=>?_) ?_;rotate_left;(focus (go_simp;(try with_reducible rfl)));(try simp only[Act.put,zht,zhu,zhv]))
 refine z0K (by rfl) (.agg (tv2.toList.take 5).toArray) (fun w' hw'=>z0w 34 _ rfl rfl (zay hw'.1 hsz2)) ?_
 (try simp only[Act.put,zht,zhu,zhv])
 iterate 3 (refine z0K (by rfl) ?_ (fun w' hw'=>?_) ?_;rotate_left;(focus (go_simp;(try with_reducible rfl)));(try simp only[Act.put,zht,zhu,zhv]))
 refine z1b fun K hK=>?_
 go_simp;refine(hjr w3.drew).mono ?_;rintro e w4 ⟨rfl,hb4⟩;have hb4':Below w3.heap.size w3 w4:=(zho _ _).drew.trans hb4;refine hK _ _ (hS1 _ hb4') ?_;clear hK K;have hcm:=z5x (hSv.below hb4') hcalm (fun b hb=>HN.out b (zhS HZ3.out (zhS hb4'.size hb))) 1 y.j A c y.recs hlc hok (Reads.below (z1z HO.out (z2F _)) hb4')
 rw[←HC1.out]at hcm;obtain⟨r,hr⟩:∃r,y.commit x=r:=⟨_,rfl⟩;rw[hr]at hcm;have HR:=zhs hr;clear hr;refine z1b fun K hK=>?_
 go_simp;refine hcm.mono ?_;rintro e w5 ⟨sv5,rfl,hq5,hb5⟩;have hb5':Below w3.heap.size w3 w5:=hb4'.trans (hb5.mono hb4'.size);refine hK _ _ (hS1 _ hb5') ?_;clear hK K hcm;iterate 4 (refine z1s (by rfl) ?_ (fun w' hw'=>?_) ?_;rotate_left;(focus (go_simp;(try with_reducible rfl)));(try simp only[Act.put,zht,zhu,zhv]))
 have hsz5:=hq5.size;have bT5:=bT3.belowAll hb5';have bR5:=bR3.belowAll hb5';have hst:=z2b (ty:=34) (o:=0) (vs:=sv5) bT5 (by rw[hsz5,hsz2];decide) hq5.one (by rw[hsz5];kernel_rfl)
 have hQ5:=((hQ3.below hb5').putsv hq5);have hQ6:=hQ5.row (g:=w.heap.size) (Apt_.ne (zhT _) (by have:=zR.out;omega)) (tv2.toList.take 0++sv5.toList++tv2.toList.drop (0+sv5.toList.length)).toArray
 have bT6:=bT5.setRow (cs':=(tv2.toList.take 0++sv5.toList++tv2.toList.drop (0+sv5.toList.length)).toArray);have bR6:=bR5.rowFar (cs':=(tv2.toList.take 0++sv5.toList++tv2.toList.drop (0+sv5.toList.length)).toArray) (show w.heap.size+1≠w.heap.size by omega)
 have B6:=Below.setRow (B3.trans (hb5'.mono B3.size)) (zhT _) (tv2.toList.take 0++sv5.toList++tv2.toList.drop (0+sv5.toList.length)).toArray;refine z0H fun K hK=>?_
 refine z0h _ _ _ rfl _ _ rfl rfl hst ?_;refine hK _ _ ?_;clear hK K hst;(try simp only[Act.put,zht,zhu,zhv])
 generalize (tv2.toList.take 0++sv5.toList++tv2.toList.drop (0+sv5.toList.length)).toArray=tv6 at *;generalize w5.setRow w.heap.size tv6=W6 at *;refine z0H fun K hK=>?_
 go_simp;refine hK _ _ ?_;clear hK K;refine z1G ?_;have hsz6:=hQ6.size;have l6:=z0n bT6 hsz6;have hst:=z0v bR6 rfl hsz6 hQ6.one;have bR7:=bR6.setRow (cs':=tv6);have hfin:=RTgot.mk (R:=w.heap.size+1) r.1 hQ6 B6 (by omega) zR.out
 clear hS1 bT3 bR3 bT5 bR5 hQ5;go_wp2_with (first|(refine z02 (by rfl) _ _ rfl (.agg tv6) (.pointer (some ⟨w.heap.size,0,none⟩)) rfl l6 ?_)|(refine z01 rfl _ _ _ rfl _ _ rfl rfl hst ?_))
 refine bodyPost_ret (z08 (cs:=tv6) rfl rfl rfl bR7 underlying50 (by rw[hsz6];kernel_rfl)) rfl (.inr ⟨HE.out,?_⟩)
 rw[HR.out];exact hfin
end Go.Proofs.YtejmknghkbobnaaGreatDoor
