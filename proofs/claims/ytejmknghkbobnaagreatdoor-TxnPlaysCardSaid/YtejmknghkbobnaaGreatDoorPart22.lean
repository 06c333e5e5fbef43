import Derived.Test.YtejmknghkbobnaaGreatDoorPart00
import Derived.Test.YtejmknghkbobnaaGreatDoorPart21
import Derived.Test.YtejmknghkbobnaaGreatDoorPart16
import Derived.Test.YtejmknghkbobnaaGreatDoorPart01
import Derived.Test.YtejmknghkbobnaaGreatDoorPart19
set_option linter.unusedVariables false
set_option linter.unusedSimpArgs false
set_option maxRecDepth 100000
set_option maxHeartbeats 8000000
namespace Go.Proofs.YtejmknghkbobnaaGreatDoor
open Go.Proofs.Tryz
open Go.RowKit Go.Maps
def zeu (w:World)(x:DevS)(e:Ending)(w':World):Prop:=
 ∃sv cv,e=.returned (.agg (z09 sv cv x.taken x.power x.off))∧w'.ownsRow w.heap.size 128 128 sv x.stable.length (x.stable.flatMap secV)∧w'.ownsRow w.heap.size 130 129 cv x.cache.length (x.cache.flatMap dwV)∧Below w.heap.size w w'
theorem z8M (P:Nat→Prop)(A C:Option Addr)(c d:Nat)(x:DevS)(w:World)(h:RSt w P A C x):
  Calls prog 129 #[stV A c C d x] w (zeu w x):=by
 have hN:=h.ok.hi;have hL:=h.ok.len;obtain⟨w0,hw0⟩:∃w0,w0=(w.alloc (.cells (z09 (.slice A x.stable.length c) (.slice C x.cache.length d) x.taken x.power x.off) 34)).alloc (.cells (z09 (.slice none 0 0) (.slice none 0 0) 0 0 false) 34):=⟨_,rfl⟩;have bD:Blk w0 w.heap.size 34 (z09 (.slice A x.stable.length c) (.slice C x.cache.length d) x.taken x.power x.off):=by rw[hw0];exact(Blk.new _ _ _).alloc _
 have bR:Blk w0 (w.heap.size+1) 34 (z09 (.slice none 0 0) (.slice none 0 0) 0 0 false):=by rw[hw0];exact Blk.new' (by simp)
 have B0:Below w.heap.size w w0:=by rw[hw0];(repeat' (first|with_reducible (first|exact zho _ _|assumption|refine zhp ?_ ?_ _|refine zhq ?_|refine z00 ?_ _|refine zhr ?_ ?_ _|exact zhT _)|omega|(simp;done)|(simp;omega)))
 have z0:w.heap.size+2=w0.heap.size:=by rw[hw0];simp
 have h0:=h.below B0;obtain⟨sv,w1,hrun1,own1,B01⟩:=zcl A x.stable.length c _ (z2B fun s hs=>(h.ok.sec s hs).1) (by omega) w0 h0.sta zfs
 obtain⟨a1,c1,rfl⟩:=z0G own1;have bD1:=bD.belowAll B01;have bR1:=bR.belowAll B01;have B1:=B0.trans (B01.mono B0.size);unfold stV z09 at *;go_enter func129,ntmps129
 go_upto_region 1 with fail
 rw[←hw0];clear hw0;have cD:=bD.cells;have lD:=bD.lt;have cD1:=bD1.cells;have lD1:=bD1.lt;have fD1:=bD1.free;go_upto_region 2 with (first
  | (refine z0m rfl _ _ _ rfl (.slice (some ⟨w0.heap.size,0,none⟩) 0 0) (.slice A x.stable.length c) (.slice a1 x.stable.length c1) rfl rfl hrun1 ?_))
 have bD2:Blk (w1.setCell ⟨w.heap.size,0,none⟩ (.slice a1 x.stable.length c1)) w.heap.size 34 #[.slice a1 x.stable.length c1,.slice C x.cache.length d,.int .i64 x.taken,.int .i64 x.power,.bool x.off]:=bD1.set_ 0 (.slice a1 x.stable.length c1);have bR2:Blk (w1.setCell ⟨w.heap.size,0,none⟩ (.slice a1 x.stable.length c1)) (w.heap.size+1) 34 #[.slice none 0 0,.slice none 0 0,.int .i64 0,.int .i64 0,.bool false]:=(Below.heap_setCell w1 ⟨w.heap.size,0,none⟩ _ (w.heap.size+1) (by simp)).trans bR1
 have B2:Below w.heap.size w (w1.setCell ⟨w.heap.size,0,none⟩ (.slice a1 x.stable.length c1)):=zhr B1 (zhT _) _;have own2:(w1.setCell ⟨w.heap.size,0,none⟩ (.slice a1 x.stable.length c1)).ownsRow w0.heap.size 128 128 (.slice a1 x.stable.length c1) x.stable.length (x.stable.flatMap secV):=
  z0c own1 fun q hq=>Below.heap_setCell w1 ⟨w.heap.size,0,none⟩ _ q (by have:=(own1.lt q hq).1;simp;omega)
 obtain⟨W2,hW2⟩:∃W2,W2=w1.setCell ⟨w.heap.size,0,none⟩ (.slice a1 x.stable.length c1):=⟨_,rfl⟩;rw[←hW2]at bD2 bR2 B2 own2 ⊢;have z2:=zhs (show W2.heap.size=w1.heap.size by rw[hW2];simp)
 clear hW2;clear cD lD cD1 lD1 fD1 bD1 bR1 bD bR hrun1 own1;have h2:=h.below B2;obtain⟨cv,w3,hrun3,own3,B23⟩:=zc2 C x.cache.length d _ (z5A fun s hs=>(h.ok.cac s hs).2.2.1) (by omega) W2 h2.cac zdM
 obtain⟨a3,c3,rfl⟩:=z0G own3;have bD3:=bD2.belowAll B23;have bR3:=bR2.belowAll B23;have B3:=B2.trans (B23.mono B2.size);have own2':w3.ownsRow w0.heap.size 128 128 (.slice a1 x.stable.length c1) x.stable.length (x.stable.flatMap secV):=z0c own2 fun q hq=>B23.block q (own2.lt q hq).2
 have cD2:=bD2.cells;have lD2:=bD2.lt;have cD3:=bD3.cells;have lD3:=bD3.lt;have fD3:=bD3.free;go_upto_region 3 with (first
  | (refine z0m rfl _ _ _ rfl (.slice (some ⟨W2.heap.size,0,none⟩) 0 0) (.slice C x.cache.length d) (.slice a3 x.cache.length c3) rfl rfl hrun3 ?_))
 have bD4:Blk (w3.setCell ⟨w.heap.size,1,none⟩ (.slice a3 x.cache.length c3)) w.heap.size 34 #[.slice a1 x.stable.length c1,.slice a3 x.cache.length c3,.int .i64 x.taken,.int .i64 x.power,.bool x.off]:=bD3.set_ 1 (.slice a3 x.cache.length c3);have bR4:Blk (w3.setCell ⟨w.heap.size,1,none⟩ (.slice a3 x.cache.length c3)) (w.heap.size+1) 34 #[.slice none 0 0,.slice none 0 0,.int .i64 0,.int .i64 0,.bool false]:=(Below.heap_setCell w3 ⟨w.heap.size,1,none⟩ _ (w.heap.size+1) (by simp)).trans bR3
 have B4:Below w.heap.size w (w3.setCell ⟨w.heap.size,1,none⟩ (.slice a3 x.cache.length c3)):=zhr B3 (zhT _) _;have z2':=B23.size;have o2:(w3.setCell ⟨w.heap.size,1,none⟩ (.slice a3 x.cache.length c3)).ownsRow w0.heap.size 128 128 (.slice a1 x.stable.length c1) x.stable.length (x.stable.flatMap secV):=
  z0c own2' fun q hq=>Below.heap_setCell w3 ⟨w.heap.size,1,none⟩ _ q (by have:=(own2.lt q hq).1;simp;omega)
 have o3:(w3.setCell ⟨w.heap.size,1,none⟩ (.slice a3 x.cache.length c3)).ownsRow W2.heap.size 130 129 (.slice a3 x.cache.length c3) x.cache.length (x.cache.flatMap dwV):=
  z0c own3 fun q hq=>Below.heap_setCell w3 ⟨w.heap.size,1,none⟩ _ q (by have:=(own3.lt q hq).1;have:=B2.size;have:=z2.out;have:=B01.size;simp;omega)
 obtain⟨W4,hW4⟩:∃W4,W4=w3.setCell ⟨w.heap.size,1,none⟩ (.slice a3 x.cache.length c3):=⟨_,rfl⟩;rw[←hW4]at bD4 bR4 B4 o2 o3 ⊢;clear hW4 cD2 lD2 cD3 lD3 fD3 hrun3 own3 own2 own2';have cD4:=bD4.cells;have lD4:=bD4.lt;have hst:=z0q (ty:=34) (vs:=z09 (.slice a1 x.stable.length c1) (.slice a3 x.cache.length c3) x.taken x.power x.off) bR4 rfl (by simp[z09,Value.oneCell']) (by kernel_rfl)
 have bR5:=bR4.setRow (cs':=z09 (.slice a1 x.stable.length c1) (.slice a3 x.cache.length c3) x.taken x.power x.off);unfold z09 at hst bR5;go_wp2_with (first
  | (refine z01 rfl _ _ _ rfl _ _ rfl rfl hst ?_))
 have cR5:=bR5.cells;have lR5:=bR5.lt;have z3:=B2.size;refine bodyPost_ret (v:=.agg (z09 (.slice a1 x.stable.length c1) (.slice a3 x.cache.length c3) x.taken x.power x.off)) (by simp[results,results129,go_sem,cR5,lR5,z09]) rfl ?_
 refine⟨_,_,rfl,z0y (z0c o2 fun q hq=>z0b _ _ _ _ (by have:=(o2.lt q hq).1;omega)) (by omega),z0y (z0c o3 fun q hq=>z0b _ _ _ _ (by have:=(o3.lt q hq).1;have:=z2.out;have:=B01.size;omega)) z3,Below.setRow B4 (Nat.le_succ _) _⟩
theorem zef {w:World}{base sz n:Nat}{t:TypeId}{v:Value}{xs:List Value}(h:w.ownsRow base t sz v n xs)(hn:0<n):∃S c,v=.slice (some ⟨S,0,none⟩) n c∧base≤S:=by
 rcases h.2 with ⟨_,h0⟩|⟨g,cap,cur,rfl,hg,-⟩
 ·omega
 ·exact⟨g,cap,rfl,hg⟩
theorem z6A (P:Nat→Prop)(A C:Option Addr)(c d:Nat)(x:DevS)(w:World)(h:RSt w P A C x):
  Calls prog 180 #[stV A c C d x] w fun e w'=>∃sv,e=.returned (.agg (z09 sv (.slice none 0 0) x.taken x.power x.off))∧w'.ownsRow w.heap.size 128 128 sv x.stable.length (x.flushed.stable.flatMap secV)∧Below w.heap.size w w':=by
 have hN:=h.ok.hi;have hlo:=h.ok.lo;have hL:=h.ok.len;obtain⟨w0,hw0⟩:∃w0,w0=(w.alloc (.cells (z09 (.slice A x.stable.length c) (.slice C x.cache.length d) x.taken x.power x.off) 34)).alloc (.cells (z09 (.slice none 0 0) (.slice none 0 0) 0 0 false) 34):=⟨_,rfl⟩;have bD:Blk w0 w.heap.size 34 (z09 (.slice A x.stable.length c) (.slice C x.cache.length d) x.taken x.power x.off):=by rw[hw0];exact(Blk.new _ _ _).alloc _
 have bR:Blk w0 (w.heap.size+1) 34 (z09 (.slice none 0 0) (.slice none 0 0) 0 0 false):=by rw[hw0];exact Blk.new' (by simp)
 have B0:Below w.heap.size w w0:=by rw[hw0];(repeat' (first|with_reducible (first|exact zho _ _|assumption|refine zhp ?_ ?_ _|refine zhq ?_|refine z00 ?_ _|refine zhr ?_ ?_ _|exact zhT _)|omega|(simp;done)|(simp;omega)))
 have z0:w.heap.size+2=w0.heap.size:=by rw[hw0];simp
 have h0:=h.below B0;have hc:=z8M P A C c d x w0 h0;unfold stV z09 at hc;unfold stV z09 at *;go_enter func180,ntmps180
 go_upto_region 1 with fail
 rw[←hw0];clear hw0;have cD:=bD.cells;have lD:=bD.lt;go_wp2_with fail
 refine hc.mono ?_;rintro e w1 ⟨sv,cv,rfl,own1,own2,B01⟩;obtain⟨S,c1,rfl,hS⟩:=zef own1 (by omega)
 obtain⟨a2,c2,rfl⟩:=z0G own2;have bD1:=bD.belowAll B01;have bR1:=bR.belowAll B01;have B1:=B0.trans (B01.mono B0.size);have hst:=z0q (ty:=34) (vs:=z09 (.slice (some ⟨S,0,none⟩) x.stable.length c1) (.slice a2 x.cache.length c2) x.taken x.power x.off) bD1 rfl (by simp[z09,Value.oneCell']) (by kernel_rfl)
 have bD2:=bD1.setRow (cs':=z09 (.slice (some ⟨S,0,none⟩) x.stable.length c1) (.slice a2 x.cache.length c2) x.taken x.power x.off);have bR2:=bR1.rowFar (cs':=z09 (.slice (some ⟨S,0,none⟩) x.stable.length c1) (.slice a2 x.cache.length c2) x.taken x.power x.off) (show w.heap.size+1≠w.heap.size by omega)
 unfold z09 at *;clear cD lD bD bR hc h0;go_wp2_with (first
  | (refine z01 rfl _ _ _ rfl _ _ rfl rfl hst ?_))
 obtain⟨W2,hW2⟩:∃W2,W2=w1.setRow w.heap.size #[.slice (some ⟨S,0,none⟩) x.stable.length c1,.slice a2 x.cache.length c2,.int .i64 x.taken,.int .i64 x.power,.bool x.off]:=⟨_,rfl⟩;have own3:W2.ownsRow w0.heap.size 128 128 (.slice (some ⟨S,0,none⟩) x.stable.length c1) x.stable.length (x.stable.flatMap secV):=by
  rw[hW2];exact z0c own1 fun q hq=>z0b _ _ _ _ (by have:=(own1.lt q hq).1;omega)
 have own4:W2.ownsRow w0.heap.size 130 129 (.slice a2 x.cache.length c2) x.cache.length (x.cache.flatMap dwV):=by
  rw[hW2];exact z0c own2 fun q hq=>z0b _ _ _ _ (by have:=(own2.lt q hq).1;omega)
 have B2:Below w.heap.size w W2:=by rw[hW2];exact Below.setRow B1 (zhT _) _
 rw[←hW2]at bD2 bR2 ⊢;clear hW2 own1 own2 B1 B01 hst bD1 bR1;have Z0:=zhs z0;clear z0;go_loopw [3] (fun q wr=>∃k:Nat,k≤x.cache.length∧q=.int .i64 k∧Blk wr w.heap.size 34 #[.slice (some ⟨S,0,none⟩) x.stable.length c1,.slice a2 x.cache.length c2,.int .i64 x.taken,.int .i64 x.power,.bool x.off]∧Blk wr (w.heap.size+1) 34 #[.slice none 0 0,.slice none 0 0,.int .i64 0,.int .i64 0,.bool false]∧wr.ownsRow w0.heap.size 128 128 (.slice (some ⟨S,0,none⟩) x.stable.length c1) x.stable.length ((z0B x.stable (x.cache.take k)).flatMap secV)∧wr.ownsRow w0.heap.size 130 129 (.slice a2 x.cache.length c2) x.cache.length (x.cache.flatMap dwV)∧Below w.heap.size w wr) (fun q _=>x.cache.length - (intOf q).toNat)
 case atStart=>exact⟨0,by omega,rfl,bD2,bR2,own3,own4,B2⟩
 case round=>
  obtain⟨k,hk,rfl,bDk,bRk,ownk,ownc,Bk⟩:=hrel;have cDk:=bDk.cells;have lDk:=bDk.lt;by_cases hlt:k<x.cache.length
  ·obtain⟨g,c4,hg,hg0⟩:=zef ownc (by omega)
   cases hg;obtain⟨h0,h1,h2,h3⟩:=h.ok.cac _ (zhQ hlt);obtain⟨p,hp⟩:∃p,x.cache[k]=p:=⟨_,rfl⟩;have hstep:=z3q (st:=x.stable) hlt;rw[hp]at h0 h1 h2 h3 hstep;have hel:∀j u,(dwV p)[j]?=some u→wr.cell? ⟨g,k*129+j,none⟩=some u:=fun j u hu=>z2n ownc (by
    have hj:j<129:=by have:=(zhM.1 hu).1;rw[z0I,h2]at this;exact this
    show (x.cache.flatMap dwV)[k*129+j]?=some u
    rw[z1r (fun q hq=>by rw[z0I,(h.ok.cac q hq).2.2.1]) hj hlt,hp];exact hu)
   obtain⟨pn,hpn⟩:=Int.eq_ofNat_of_zero_le h0;have cX0:wr.cell? ⟨g,k*129,none⟩=some (.int .i64 pn):=by rw[←hpn];exact hel 0 _ rfl
   rw[hpn]at h1;have hpl2:(secV p.2).length=128:=by rw[z0T,h2]
   have hcs:z2S wr.drew ⟨g,k*129+1,none⟩ (secV p.2):=⟨rfl,fun j u hu=>by
    show wr.cell? ⟨g,k*129+1+j,none⟩=some u
    rw[Nat.add_assoc];exact hel (1+j) u (by rw[Nat.add_comm];simpa[dwV]using hu)⟩
   have hld2:=z0P (P:=prog) (w:=wr.drew) (ty:=128) hcs (z9g _) (by rw[hpl2];exact z3r _)
   have hk1:(k:Int)<x.cache.length:=by omega
   go_wp2_with fail
   refine wp_region_still_tail 15 (by kernel_rfl) (by kernel_rfl) ?_
   simp only[List.take_succ_cons,zi2,List.drop_succ_cons,List.drop_zero];change wpStill _ _ wr.drew _ _ _
   repeat (first|(refine z3p rfl _ _ rfl (.agg (secV p.2).toArray) (.pointer (some ⟨g,k*129+1,none⟩)) rfl hld2 ?_)|still_step)
   refine wpStill_nil ?_;change wpList _ _ _ _ _ wr.drew
   have ownk':wr.drew.ownsRow w0.heap.size 128 128 (.slice (some ⟨S,0,none⟩) x.stable.length c1) x.stable.length ((z0B x.stable (x.cache.take k)).flatMap secV):=z0c ownk fun q hq=>rfl
   have hSg:S≠g:=fun e=>by
    rcases ownk.2 with ⟨hv,-⟩|⟨S',c5,cur5,hv,-,hb5,-⟩
    ·cases hv
    ·cases hv;rcases ownc.2 with ⟨hv,-⟩|⟨g',c6,cur6,hv,-,hb6,-⟩
     ·cases hv
     ·cases hv;rw[e]at hb5;rw[hb5]at hb6;cases hb6
   obtain⟨cur,bS,hfit,own'⟩:=z4J ownk' (pn*128) (secV p.2) (by rw[hpl2];omega)
   have hst2:=z0W (P:=prog) (w:=wr.drew) (ty:=128) bS hfit (z3H p.2) (by rw[hpl2];exact z3r _)
   obtain⟨R,hR⟩:∃R,R=(cur.toList.take (pn*128)++secV p.2++cur.toList.drop (pn*128+(secV p.2).length)).toArray:=⟨_,rfl⟩;rw[←hR]at hst2 own';have hZ:=Z0.out;have hSn:w.heap.size≠S:=by omega
   have hSn1:w.heap.size+1≠S:=by omega
   have bD3:=bDk.drew.rowFar (cs':=R) hSn;have bR3:=bRk.drew.rowFar (cs':=R) hSn1;have oc3:(wr.drew.setRow S R).ownsRow w0.heap.size 130 129 (.slice (some ⟨g,0,none⟩) x.cache.length c2) x.cache.length (x.cache.flatMap dwV):=z0c ownc fun q hq=>(z0b _ _ _ _ (fun e=>by subst e;cases hq;exact hSg rfl))
   have B3:Below w.heap.size w (wr.drew.setRow S R):=Below.setRow Bk.drew (by omega) _
   have own5:(wr.drew.setRow S R).ownsRow w0.heap.size 128 128 (.slice (some ⟨S,0,none⟩) x.stable.length c1) x.stable.length ((z0B x.stable (x.cache.take (k+1))).flatMap secV):=by
    rw[hstep,z5D (f:=secV) (m:=128) (fun s hs=>by rw[z0T];exact(z2A h.ok.sec (fun q hq=>(h.ok.cac q (List.mem_of_mem_take hq)).2.2) s hs).1) hpl2 (by rw[z0e];omega),hpn]
    exact own'
   obtain⟨W3,hW3⟩:∃W3,W3=wr.drew.setRow S R:=⟨_,rfl⟩;rw[←hW3]at hst2 bD3 bR3 oc3 B3 own5;clear hW3 own' bS hfit hstep hpn hcs hel hld2 cDk lDk bDk bRk ownk ownc Bk ownk' hR hZ;go_wp2_with (refine z01 rfl _ _ _ rfl _ _ rfl rfl hst2 ?_)
   go_roundw
   case rel=>exact⟨k+1,by omega,by go_num,bD3,bR3,own5,oc3,B3⟩
   case measure=>simp[intOf];omega
  ·obtain rfl:k=x.cache.length:=by omega
   rw[zia]at ownk;have fDk:=bDk.free;go_upto_region 7 with fail
   have bD4:Blk (wr.setCell ⟨w.heap.size,1,none⟩ (.slice none 0 0)) w.heap.size 34 #[.slice (some ⟨S,0,none⟩) x.stable.length c1,.slice none 0 0,.int .i64 x.taken,.int .i64 x.power,.bool x.off]:=bDk.set_ 1 (.slice none 0 0);have bR4:Blk (wr.setCell ⟨w.heap.size,1,none⟩ (.slice none 0 0)) (w.heap.size+1) 34 #[.slice none 0 0,.slice none 0 0,.int .i64 0,.int .i64 0,.bool false]:=(Below.heap_setCell wr ⟨w.heap.size,1,none⟩ _ (w.heap.size+1) (by simp)).trans bRk
   have B4:Below w.heap.size w (wr.setCell ⟨w.heap.size,1,none⟩ (.slice none 0 0)):=zhr Bk (zhT _) _;have hZ:=Z0.out;have o2:(wr.setCell ⟨w.heap.size,1,none⟩ (.slice none 0 0)).ownsRow w0.heap.size 128 128 (.slice (some ⟨S,0,none⟩) x.stable.length c1) x.stable.length ((z0B x.stable x.cache).flatMap secV):=
    z0c ownk fun q hq=>Below.heap_setCell wr ⟨w.heap.size,1,none⟩ _ q (by have:=(ownk.lt q hq).1;simp;omega)
   obtain⟨W4,hW4⟩:∃W4,W4=wr.setCell ⟨w.heap.size,1,none⟩ (.slice none 0 0):=⟨_,rfl⟩;rw[←hW4]at bD4 bR4 B4 o2 ⊢;clear hW4 cDk lDk fDk bDk bRk ownk ownc Bk hZ;have cD4:=bD4.cells;have lD4:=bD4.lt;have hst:=z0q (ty:=34) (vs:=z09 (.slice (some ⟨S,0,none⟩) x.stable.length c1) (.slice none 0 0) x.taken x.power x.off) bR4 rfl (by simp[z09,Value.oneCell']) (by kernel_rfl)
   have bR5:=bR4.setRow (cs':=z09 (.slice (some ⟨S,0,none⟩) x.stable.length c1) (.slice none 0 0) x.taken x.power x.off);unfold z09 at hst bR5;go_wp2_with (first
    | (refine z01 rfl _ _ _ rfl _ _ rfl rfl hst ?_))
   have cR5:=bR5.cells;have lR5:=bR5.lt;have hZ:=Z0.out;refine bodyPost_ret (v:=.agg (z09 (.slice (some ⟨S,0,none⟩) x.stable.length c1) (.slice none 0 0) x.taken x.power x.off)) (by simp[results,results180,go_sem,cR5,lR5,z09]) rfl ?_
   refine⟨_,rfl,z0y (z0c o2 fun q hq=>z0b _ _ _ _ (by have:=(o2.lt q hq).1;omega)) (by omega),Below.setRow B4 (Nat.le_succ _) _⟩
def DevS.limit (x:DevS)(n:Int):DevS:={ x with power:=n }
theorem DevAt.limit {w:World}{D:Nat}{B:List Nat}{x:DevS}(h:DevAt w D B x){n:Int}(hn:-1≤n∧n≤1000000000000):DevAt (w.setCell ⟨D,3,none⟩ (.int .i64 n)) D B (x.limit n):=by
 obtain⟨ok,half,⟨S,c,M,cv,m,hD,hS,hM,hc⟩,lt⟩:=h;obtain⟨n1,n2,n3,n4,n5,n6⟩:=m.ne;have hk:∀b,b≠D→(w.setCell ⟨D,3,none⟩ (.int .i64 n)).heap[b]?=w.heap[b]?:=fun b hb=>Below.heap_setCell w ⟨D,3,none⟩ _ b hb
 have hD0:D≠0:=by have:=(lt D hD).1;omega
 have hS':∀g,(Value.slice (some ⟨S,0,none⟩) x.stable.length c).ownBlock=some g→g≠D:=fun g e=>by cases e;exact fun e=>n1 e.symm
 refine⟨⟨ok.lo,ok.hi,ok.sec,ok.cac,ok.len,ok.tk,hn⟩,⟨by simpa using half.1,fun j hj=>(World.cell?_of_block (w:=w) (a:=⟨0,j,none⟩) (hk 0 (fun e=>hD0 e.symm))).trans (half.2 j hj)⟩,⟨S,c,M,cv,⟨m.dev.set_ 3 (.int .i64 n),z0c m.sta fun g e=>hk g (hS' g e),z0c m.cac fun g e=>hk g (fun e2=>n4 (by rw[←e2];exact e)),z0j m.map (hk M (fun e=>n2 e.symm))⟩,hD,hS,hM,hc⟩,fun b hb=>⟨(lt b hb).1,by simpa using (lt b hb).2⟩⟩
theorem zd1 (D:Nat)(B:List Nat)(x:DevS)(w:World)(h:DevAt w D B x)(n:Int)(hn:-1≤n∧n≤1000000000000):
  Calls prog 19 #[.pointer (some ⟨D,0,none⟩),.int .i64 n] w fun e w'=>e=.returned (.int .i64 0)∧w'=w.setCell ⟨D,3,none⟩ (.int .i64 n):=by
 obtain⟨S,c,M,cv,m,-⟩:=h.mem;have bD:=m.dev;have hok:=z2W D S x.stable.length c cv x.taken x.power x.off M w bD;unfold devC at bD;have c3:w.cell? ⟨D,3,none⟩=some (.int .i64 x.power):=(bD.cells 3).trans rfl;have lD:=bD.lt;have fD:=bD.free;clear bD m;go_enter func19,ntmps19
 go_wp2_with fail
 refine hok.mono ?_;rintro e w1 ⟨rfl,rfl⟩;go_wp2_with fail
 go_ret
 exact⟨rfl,rfl⟩
theorem z1z {w:World}{base sz n:Nat}{t:TypeId}{A:Option Addr}{c:Nat}{xs:List Value}(h:w.ownsRow base t sz (.slice A n c) n xs)(hx:xs.length=n*sz):Reads w A xs:=by
 rcases h.2 with ⟨hv,h0⟩|⟨g,cap,cur,hv,hg,-⟩
 ·left
  exact List.eq_nil_of_length_eq_zero (by rw[hx,h0,Nat.zero_mul])
 ·cases hv;exact .inr ⟨g,0,rfl,(h.lt g rfl).2,fun j u hu=>by rw[zi8];exact z2n h hu⟩
theorem z2m {w:World}{P:Nat→Prop}{base sz n c:Nat}{t:TypeId}{A:Option Addr}{xs:List Value}(h:w.ownsRow base t sz (.slice A n c) n xs)(hP:∀b,base≤b→P b):Lies P A:=fun a e=>by
 subst e;rcases h.2 with ⟨hv,-⟩|⟨g,cap,cur,hv,hg,-⟩
 ·cases hv
 ·cases hv;exact⟨hP g hg,rfl⟩
def RGot (w:World)(P:Nat→Prop)(p:Int × DevS)(e:Ending)(w':World):Prop:=
 ∃A c C d,e=.returned (.tuple #[stV A c C d p.2,.int .i64 p.1])∧RSt w' P A C p.2∧Below w.heap.size w w'
theorem zbh (P:Nat→Prop)(A C:Option Addr)(c d:Nat)(x:DevS)(n:Int)(w:World)(hq:RSt w P A C x):
  Calls prog 18 #[stV A c C d x,.int .i64 n] w (RGot w P (if n < -1∨1000000000000<n then (7,x)else (0,x.limit n))):=by
 obtain⟨w0,hw0⟩:∃w0,w0=(w.alloc (.cells (z09 (.slice A x.stable.length c) (.slice C x.cache.length d) x.taken x.power x.off) 34)).alloc (.cells (z09 (.slice none 0 0) (.slice none 0 0) 0 0 false) 34):=⟨_,rfl⟩;have bD:Blk w0 w.heap.size 34 (z09 (.slice A x.stable.length c) (.slice C x.cache.length d) x.taken x.power x.off):=by rw[hw0];exact(Blk.new _ _ _).alloc _
 have bR:Blk w0 (w.heap.size+1) 34 (z09 (.slice none 0 0) (.slice none 0 0) 0 0 false):=by rw[hw0];exact Blk.new' (by simp)
 have B0:Below w.heap.size w w0:=by rw[hw0];(repeat' (first|with_reducible (first|exact zho _ _|assumption|refine zhp ?_ ?_ _|refine zhq ?_|refine z00 ?_ _|refine zhr ?_ ?_ _|exact zhT _)|omega|(simp;done)|(simp;omega)))
 have hst:=z0q (ty:=34) (vs:=z09 (.slice A x.stable.length c) (.slice C x.cache.length d) x.taken x.power x.off) bR rfl (by simp[z09,Value.oneCell']) (by kernel_rfl)
 have bR1:=bR.setRow (cs':=z09 (.slice A x.stable.length c) (.slice C x.cache.length d) x.taken x.power x.off);have bD2:=bD.set_ 3 (.int .i64 n);have bR2:Blk (w0.setCell ⟨w.heap.size,3,none⟩ (.int .i64 n)) (w.heap.size+1) 34 (z09 (.slice none 0 0) (.slice none 0 0) 0 0 false):=(Below.heap_setCell w0 ⟨w.heap.size,3,none⟩ _ (w.heap.size+1) (by simp)).trans bR
 have B2:Below w.heap.size w (w0.setCell ⟨w.heap.size,3,none⟩ (.int .i64 n)):=zhr B0 (zhT _) _;have bD2':Blk (w0.setCell ⟨w.heap.size,3,none⟩ (.int .i64 n)) w.heap.size 34 (z09 (.slice A x.stable.length c) (.slice C x.cache.length d) x.taken n x.off):=bD2;have hst2:=z0q (ty:=34) (vs:=z09 (.slice A x.stable.length c) (.slice C x.cache.length d) x.taken n x.off) bR2 rfl (by simp[z09,Value.oneCell']) (by kernel_rfl)
 have bR3:=bR2.setRow (cs':=z09 (.slice A x.stable.length c) (.slice C x.cache.length d) x.taken n x.off);unfold stV z09 at *;clear bD2;go_enter func18,ntmps18
 go_upto_region 1 with fail
 rw[←hw0];clear hw0;have cD:=bD.cells;have lD:=bD.lt;have fD:=bD.free;by_cases hn:n < -1∨1000000000000<n
 ·rw[if_pos hn];have cR1:=bR1.cells;have lR1:=bR1.lt;rcases Classical.em (n < -1)with h1|h1
  ·go_wp2_with (refine z01 rfl _ _ _ rfl _ _ rfl rfl hst ?_)
   refine bodyPost_ret (v:=.tuple #[stV A c C d x,.int .i64 7]) (by simp[results,results18,go_sem,cR1,lR1,stV,z09]) rfl ?_
   exact⟨A,c,C,d,rfl,hq.below (Below.setRow B0 (Nat.le_succ _) _),Below.setRow B0 (Nat.le_succ _) _⟩
  ·have h2:1000000000000<n:=by omega
   go_wp2_with (refine z01 rfl _ _ _ rfl _ _ rfl rfl hst ?_)
   refine bodyPost_ret (v:=.tuple #[stV A c C d x,.int .i64 7]) (by simp[results,results18,go_sem,cR1,lR1,stV,z09]) rfl ?_
   exact⟨A,c,C,d,rfl,hq.below (Below.setRow B0 (Nat.le_succ _) _),Below.setRow B0 (Nat.le_succ _) _⟩
 ·rw[if_neg hn];have h1:¬n < -1:=by omega
  have h2:¬1000000000000<n:=by omega
  have cD2:=bD2'.cells;have lD2:=bD2'.lt;have cR3:=bR3.cells;have lR3:=bR3.lt;go_wp2_with (refine z01 rfl _ _ _ rfl _ _ rfl rfl hst2 ?_)
  refine bodyPost_ret (v:=.tuple #[stV A c C d (x.limit n),.int .i64 0]) (by simp[results,results18,go_sem,cR3,lR3,stV,z09,DevS.limit]) rfl ?_
  refine⟨A,c,C,d,rfl,?_,Below.setRow B2 (Nat.le_succ _) _⟩
  obtain⟨ok,h3,h4,h5,h6⟩:=hq.below (Below.setRow B2 (Nat.le_succ _) _);exact⟨⟨ok.lo,ok.hi,ok.sec,ok.cac,ok.len,ok.tk,by show -1≤n∧n≤1000000000000;omega⟩,h3,h4,h5,h6⟩
theorem zbd (P:Nat→Prop)(A C:Option Addr)(c d:Nat)(x:DevS)(w:World)(hP:∀b,w.heap.size≤b→P b)(hq:RSt w P A C x):
  Calls prog 107 #[stV A c C d x] w (RGot w P x.flush):=by
 obtain⟨w0,hw0⟩:∃w0,w0=(w.alloc (.cells (z09 (.slice A x.stable.length c) (.slice C x.cache.length d) x.taken x.power x.off) 34)).alloc (.cells (z09 (.slice none 0 0) (.slice none 0 0) 0 0 false) 34):=⟨_,rfl⟩;have bD:Blk w0 w.heap.size 34 (z09 (.slice A x.stable.length c) (.slice C x.cache.length d) x.taken x.power x.off):=by rw[hw0];exact(Blk.new _ _ _).alloc _
 have bR:Blk w0 (w.heap.size+1) 34 (z09 (.slice none 0 0) (.slice none 0 0) 0 0 false):=by rw[hw0];exact Blk.new' (by simp)
 have B0:Below w.heap.size w w0:=by rw[hw0];(repeat' (first|with_reducible (first|exact zho _ _|assumption|refine zhp ?_ ?_ _|refine zhq ?_|refine z00 ?_ _|refine zhr ?_ ?_ _|exact zhT _)|omega|(simp;done)|(simp;omega)))
 have z0:=zhs (show w0.heap.size=w.heap.size+2 by rw[hw0];simp)
 have hs:=z6A P A C c d x w0 (hq.below B0);have hst:=z0q (ty:=34) (vs:=z09 (.slice A x.stable.length c) (.slice C x.cache.length d) x.taken x.power x.off) bR rfl (by simp[z09,Value.oneCell']) (by kernel_rfl)
 have bR1:=bR.setRow (cs':=z09 (.slice A x.stable.length c) (.slice C x.cache.length d) x.taken x.power x.off);unfold stV z09 at *;go_enter func107,ntmps107
 go_upto_region 1 with fail
 rw[←hw0];clear hw0;have cD:=bD.cells;have lD:=bD.lt;cases ho:x.off
 ·rw[ho]at cD hs;go_wp2_with fail
  refine hs.mono ?_;rintro e w1 ⟨sv,rfl,own1,B01⟩;obtain⟨a1,c1,rfl⟩:=z0G own1;have bR2:=bR.belowAll B01;have B1:=B0.trans (B01.mono B0.size);have hst2:=z0q (ty:=34) (vs:=z09 (.slice a1 x.stable.length c1) (.slice none 0 0) x.taken x.power false) bR2 rfl (by simp[z09,Value.oneCell']) (by kernel_rfl)
  have bR3:=bR2.setRow (cs':=z09 (.slice a1 x.stable.length c1) (.slice none 0 0) x.taken x.power false);have cR3:=bR3.cells;have lR3:=bR3.lt;have hz:=z0.out;have own2:(w1.setRow (w.heap.size+1) (z09 (.slice a1 x.stable.length c1) (.slice none 0 0) x.taken x.power false)).ownsRow w0.heap.size 128 128 (.slice a1 x.stable.length c1) x.stable.length (x.flushed.stable.flatMap secV):=
   z0c own1 fun q hq=>z0b _ _ _ _ (by have:=(own1.lt q hq).1;omega)
  have B3:Below w.heap.size w (w1.setRow (w.heap.size+1) (z09 (.slice a1 x.stable.length c1) (.slice none 0 0) x.taken x.power false)):=Below.setRow B1 (Nat.le_succ _) _;clear hz;unfold z09 at *;go_wp2_with (refine z01 rfl _ _ _ rfl _ _ rfl rfl hst2 ?_)
  refine bodyPost_ret (v:=.tuple #[.agg #[.slice a1 x.stable.length c1,.slice none 0 0,.int .i64 x.taken,.int .i64 x.power,.bool false],.int .i64 0]) (by simp[results,results107,go_sem,cR3,lR3]) rfl ?_
  have hl:x.flushed.stable.length=x.stable.length:=z0e _ _;refine⟨a1,c1,none,0,?_,?_,B3⟩
  ·simp[DevS.flush,ho,z5c,stV,z09,hl,DevS.flushed]
   exact(z0e _ _).symm
  ·have hf:=hq.ok.flushed;have e:x.flush.2=x.flushed:=by simp[DevS.flush,ho]
   rw[e];exact⟨hf,z1z own2 (by rw[z2B fun s hs=>(hf.sec s hs).1,hl]),.inl rfl,z2m own2 (fun b hb=>hP b (zhS (by rw[z0.out];omega) hb)),.inl rfl⟩
 ·rw[ho]at cD hst bR1;have cR1:=bR1.cells;have lR1:=bR1.lt;go_wp2_with (refine z01 rfl _ _ _ rfl _ _ rfl rfl hst ?_)
  refine bodyPost_ret (v:=.tuple #[.agg #[.slice A x.stable.length c,.slice C x.cache.length d,.int .i64 x.taken,.int .i64 x.power,.bool true],.int .i64 13]) (by simp[results,results107,go_sem,cR1,lR1]) rfl ?_
  have e:x.flush=(13,x):=by simp[DevS.flush,ho,z5c]
  rw[e];refine⟨A,c,C,d,by simp[stV,z09,ho],hq.below (Below.setRow B0 (Nat.le_succ _) _),Below.setRow B0 (Nat.le_succ _) _⟩
def fitE (n:Nat)(s j i:Int):Int:=if rgE s j i=0∧(n:Int)≠s then 6 else rgE s j i
theorem z9p (cv:Value)(S n c:Nat)(tk pw s j i:Int)(off:Bool)(w:World):
  Calls prog 42 #[.agg (z09 (.slice (some ⟨S,0,none⟩) n c) cv tk pw off),.agg #[.int .i64 s,.int .i64 j,.int .i64 i]] w fun e w'=>Below w.heap.size w w'∧e=.returned (.tuple #[rgV s j i,.int .i64 (fitE n s j i)]):=by
 obtain⟨w0,hw0⟩:∃w0,w0=((w.alloc (.cells (z09 (.slice (some ⟨S,0,none⟩) n c) cv tk pw off) 34)).alloc (.cells #[.int .i64 s,.int .i64 j,.int .i64 i] 23)).alloc (.cells #[.int .i64 0,.int .i64 0,.int .i64 0,.int .i64 0,.int .i64 0] 44):=⟨_,rfl⟩;have bD:Blk w0 w.heap.size 34 (z09 (.slice (some ⟨S,0,none⟩) n c) cv tk pw off):=by rw[hw0];exact((Blk.new _ _ _).alloc _).alloc _
 have bL:Blk w0 (w.heap.size+1) 23 #[.int .i64 s,.int .i64 j,.int .i64 i]:=by rw[hw0];exact(Blk.new' (by simp)).alloc _
 have bR:Blk w0 (w.heap.size+2) 44 #[.int .i64 0,.int .i64 0,.int .i64 0,.int .i64 0,.int .i64 0]:=by rw[hw0];exact Blk.new' (by simp)
 have B0:Below w.heap.size w w0:=by rw[hw0];(repeat' (first|with_reducible (first|exact zho _ _|assumption|refine zhp ?_ ?_ _|refine zhq ?_|refine z00 ?_ _|refine zhr ?_ ?_ _|exact zhT _)|omega|(simp;done)|(simp;omega)))
 unfold z09 at *;go_enter func42,ntmps42
 go_upto_region 1 with fail
 rw[←hw0];clear hw0;have cD:=bD.cells;have cL:=bL.cells;have lD:=bD.lt;have lL:=bL.lt;go_wp2_with fail
 refine(z1S s j i w0).mono ?_;rintro e w1 ⟨rfl,hb1⟩;have bD1:=bD.belowAll hb1;have bL1:=bL.belowAll hb1;have bR1:=bR.belowAll hb1;have B1:=B0.trans (hb1.mono B0.size);have cD:=bD1.cells;have cL:=bL1.cells;have cR:=bR1.cells;have fR:=bR1.free;have lD:=bD1.lt;have lL:=bL1.lt;have lR:=bR1.lt;have hfe:fitE n s j i=if rgE s j i=0∧(n:Int)≠s then 6 else rgE s j i:=rfl
 obtain⟨a1,a2,a3,a4,a5,hv⟩:∃a1 a2 a3 a4 a5:Int,rgV s j i=.agg #[.int .i64 a1,.int .i64 a2,.int .i64 a3,.int .i64 a4,.int .i64 a5]:=⟨_,_,_,_,_,rfl⟩;have HV:=zhs hv;rw[hv];clear hv;generalize rgE s j i=E at hfe ⊢;by_cases hE:E=0
 ·subst hE;by_cases hns:(n:Int)=s
  ·rw[if_neg (by simp[hns])]at hfe
   have hd:((n:Int) != s)=false:=by simpa using hns
   have HF:=zhs hfe;clear hfe hns;go_wp2_with fail
   refine bodyPost_ret (v:=.tuple #[.agg #[.int .i64 a1,.int .i64 a2,.int .i64 a3,.int .i64 a4,.int .i64 a5],.int .i64 0]) (by simp[results,results42,go_sem,cR,lR]) rfl ?_
   exact⟨by (repeat' (first|with_reducible (first|exact zho _ _|assumption|refine zhp ?_ ?_ _|refine zhq ?_|refine z00 ?_ _|refine zhr ?_ ?_ _|exact zhT _)|omega|(simp;done)|(simp;omega))),by rw[HV.out,HF.out]⟩
  ·rw[if_pos ⟨rfl,hns⟩]at hfe;have hd:((n:Int) != s)=true:=by simpa using hns
   have HF:=zhs hfe;clear hfe hns;go_wp2_with fail
   refine bodyPost_ret (v:=.tuple #[.agg #[.int .i64 a1,.int .i64 a2,.int .i64 a3,.int .i64 a4,.int .i64 a5],.int .i64 6]) (by simp[results,results42,go_sem,cR,lR]) rfl ?_
   exact⟨by (repeat' (first|with_reducible (first|exact zho _ _|assumption|refine zhp ?_ ?_ _|refine zhq ?_|refine z00 ?_ _|refine zhr ?_ ?_ _|exact zhT _)|omega|(simp;done)|(simp;omega))),by rw[HV.out,HF.out]⟩
 ·rw[if_neg (by simp[hE])]at hfe
  have hd:(E==0)=false:=by simpa using hE
  have HF:=zhs hfe;clear hfe hE;go_wp2_with fail
  refine bodyPost_ret (v:=.tuple #[.agg #[.int .i64 a1,.int .i64 a2,.int .i64 a3,.int .i64 a4,.int .i64 a5],.int .i64 E]) (by simp[results,results42,go_sem,cR,lR]) rfl ?_
  exact⟨by (repeat' (first|with_reducible (first|exact zho _ _|assumption|refine zhp ?_ ?_ _|refine zhq ?_|refine z00 ?_ _|refine zhr ?_ ?_ _|exact zhT _)|omega|(simp;done)|(simp;omega))),by rw[HV.out,HF.out]⟩
def z3e (us:List Bool):Nat:=us.countP (!·)
theorem z7I (us:List Bool):z3e us≤us.length:=List.countP_le_length
theorem zbD (us:List Bool)(k:Nat)(h:k<us.length):z3e (us.take (k+1))=z3e (us.take k)+if us[k]=false then 1 else 0:=by
 unfold z3e;rw[zhE h,List.countP_append];cases us[k]<;>simp
theorem z6x (s j i:Int)(A:Option Addr)(c:Nat)(us:List Bool)(w:World)(hR:Reads w A (us.map .bool))(hn:us.length≤1000):
  Calls prog 206 #[.agg #[.int .i64 s,.int .i64 j,.int .i64 i,.slice A us.length c]] w fun e w'=>e=.returned (.int .i64 (z3e us))∧Below w.heap.size w w':=by
 go_enter func206,ntmps206
 go_wp2
 go_loop [3,4] (fun n i=>∃k:Nat,k≤us.length∧i=.int .i64 k∧n=.int .i64 (z3e (us.take k))) (fun _ i=>us.length - (intOf i).toNat)
 case atStart=>exact⟨0,by omega,rfl,rfl⟩
 case round=>
  obtain⟨k,hk,rfl,rfl⟩:=hrel;by_cases hlt:k<us.length
  ·obtain⟨b,off,rfl,hb,hc⟩:=hR.at_ (k:=k) (by simpa using hlt)
   rw[List.getElem_map]at hc;have hle:=z7I (us.take k);have hs:=zbD us k hlt;have hs':=zhs hs;have hl:(us.take k).length≤k:=List.length_take_le _ _;clear hs;cases hu:us[k]<;>rw[hu]at hc hs'
   all_goals
    clear hu;go_wp2
    go_round
    case rel=>exact⟨k+1,by omega,by go_num,by rw[hs'.out];simp⟩
    case measure=>simp[intOf];omega
  ·go_wp2
   go_ret
   refine⟨z6P (by rw[List.take_of_length_le (by omega)]),?_⟩
   exact(zho _ _).alloc (zhT _) _
open Go.Shelf
attribute [local go_sem] Oper.semAt_some
def AlE (s j i:Int)(us:List Bool)(near many:Int):Int:=
 if CkE s j i us.length=0 then (if near<0∨(us.length:Int) - 1<near∨many<0 then 7 else if (z1Y us near.toNat).length<many.toNat then 11 else 0)else CkE s j i us.length
def zdd (s j i:Int)(A:Option Addr)(c:Nat)(us:List Bool)(near many:Int)(w:World)(e:Ending)(w':World):Prop:=
 Below w.heap.size w w'∧((AlE s j i us near many≠0∧e=.returned (.tuple #[.agg #[.int .i64 s,.int .i64 j,.int .i64 i,.slice A us.length c],.slice none 0 0,.int .i64 (AlE s j i us near many)])) ∨
  (AlE s j i us near many=0∧∃g cap av cv,e=.returned (.tuple #[.agg #[.int .i64 s,.int .i64 j,.int .i64 i,.slice (some ⟨g,0,none⟩) us.length cap],.slice av (z0g us near.toNat many.toNat).length cv,.int .i64 0]) ∧
   w'.ownsRow w.heap.size 4 1 (.slice (some ⟨g,0,none⟩) us.length cap) us.length ((z0M us (z0g us near.toNat many.toNat) true).map .bool) ∧
   w'.ownsRow w.heap.size 3 1 (.slice av (z0g us near.toNat many.toNat).length cv) (z0g us near.toNat many.toNat).length ((z0g us near.toNat many.toNat).map (.int .i64))))
theorem z98 (s j i:Int)(A:Option Addr)(n c:Nat)(near many:Int)(w:World)(hn:n≤maxLen)(E:Int)
  (h:(CkE s j i n≠0∧E=CkE s j i n)∨(CkE s j i n=0∧(near<0∨(n:Int) - 1<near∨many<0)∧E=7)):
  Calls prog 95 #[.agg #[.int .i64 s,.int .i64 j,.int .i64 i,.slice A n c],.int .i64 near,.int .i64 many] w fun e w'=>
   e=.returned (.tuple #[.agg #[.int .i64 s,.int .i64 j,.int .i64 i,.slice A n c],.slice none 0 0,.int .i64 E])∧Below w.heap.size w w':=by
 have key:∀w1:World,Below w.heap.size w w1→Blk w1 w.heap.size 47 #[.int .i64 s,.int .i64 j,.int .i64 i,.slice A n c]→Blk w1 (w.heap.size+1) 3 #[.int .i64 many]→Blk w1 (w.heap.size+2) 47 #[.int .i64 0,.int .i64 0,.int .i64 0,.slice none 0 0]→Blk w1 (w.heap.size+3) 53 #[.slice none 0 0]→True:=fun _ _ _ _ _ _=>trivial
 clear key;have hn':=hn;unfold maxLen at hn';rcases h with ⟨hE,rfl⟩|⟨hE,hr,rfl⟩
 ·have hE':(CkE s j i n != 0)=true:=by simpa using hE
  have HE:=zhs hE;clear hE;go_enter func95,ntmps95
  go_wp2_with fail
  refine(z23 s j i A n c _ hn).mono ?_;rintro e w1 ⟨rfl,hb1⟩;have bS:Blk w1 w.heap.size 47 #[.int .i64 s,.int .i64 j,.int .i64 i,.slice A n c]:=Blk.belowAll (by (repeat' (first|(with_reducible assumption)|exact Blk.new' (by simp)|refine Blk.alloc ?_ _))) hb1
  have bR:Blk w1 (w.heap.size+2) 47 #[.int .i64 0,.int .i64 0,.int .i64 0,.slice none 0 0]:=Blk.belowAll (by (repeat' (first|(with_reducible assumption)|exact Blk.new' (by simp)|refine Blk.alloc ?_ _))) hb1
  have bL:Blk w1 (w.heap.size+3) 53 #[.slice none 0 0]:=Blk.belowAll (by (repeat' (first|(with_reducible assumption)|exact Blk.new' (by simp)|refine Blk.alloc ?_ _))) hb1
  replace hb1:Below w.heap.size w w1:=z9q (z1E hb1)
  have cS:=bS.cells;have cR:=bR.cells;have fR:=bR.free;have cL:=bL.cells;have fL:=bL.free;go_wp2_with fail
  refine bodyPost_ret (v:=.tuple #[.agg #[.int .i64 s,.int .i64 j,.int .i64 i,.slice A n c],.slice none 0 0,.int .i64 (CkE s j i n)]) (by simp[results,results95,go_sem,cR,cL]) rfl ?_
  exact⟨rfl,by (repeat' (first|with_reducible (first|exact zho _ _|assumption|refine zhp ?_ ?_ _|refine zhq ?_|refine z00 ?_ _|refine zhr ?_ ?_ _|exact zhT _)|omega|(simp;done)|(simp;omega)))⟩
 ·have hE':(CkE s j i n != 0)=false:=by simpa using hE
  have HE:=zhs hE;clear hE;by_cases hnr:near<0∨(n:Int) - 1<near
  all_goals
   first|have hO:=z2g hnr|have hO:=z2e hnr
   have hm0:¬(near<0∨(n:Int) - 1<near)→decide (many<0)=true:=fun h'=>by simp;omega
   first|(have hm1:=hm0 hnr;clear hm0)|clear hm0
   go_enter func95,ntmps95
   go_wp2_with fail
   refine(z23 s j i A n c _ hn).mono ?_;rintro e w1 ⟨rfl,hb1⟩;have bS:Blk w1 w.heap.size 47 #[.int .i64 s,.int .i64 j,.int .i64 i,.slice A n c]:=Blk.belowAll (by (repeat' (first|(with_reducible assumption)|exact Blk.new' (by simp)|refine Blk.alloc ?_ _))) hb1
   have bM:Blk w1 (w.heap.size+1) 3 #[.int .i64 many]:=Blk.belowAll (by (repeat' (first|(with_reducible assumption)|exact Blk.new' (by simp)|refine Blk.alloc ?_ _))) hb1
   have bR:Blk w1 (w.heap.size+2) 47 #[.int .i64 0,.int .i64 0,.int .i64 0,.slice none 0 0]:=Blk.belowAll (by (repeat' (first|(with_reducible assumption)|exact Blk.new' (by simp)|refine Blk.alloc ?_ _))) hb1
   have bL:Blk w1 (w.heap.size+3) 53 #[.slice none 0 0]:=Blk.belowAll (by (repeat' (first|(with_reducible assumption)|exact Blk.new' (by simp)|refine Blk.alloc ?_ _))) hb1
   replace hb1:Below w.heap.size w w1:=z9q (z1E hb1)
   have cS:=bS.cells;have cM:=bM.cells;have cR:=bR.cells;have fR:=bR.free;have cL:=bL.cells;have fL:=bL.free;go_wp2_with (go_at_call 172;refine(z1f _ _ _ _).mono ?_;rintro e w' ⟨rfl,rfl⟩);refine bodyPost_ret (v:=.tuple #[.agg #[.int .i64 s,.int .i64 j,.int .i64 i,.slice A n c],.slice none 0 0,.int .i64 7]) (by simp[results,results95,go_sem,cR,cL]) rfl ?_
   exact⟨rfl,by (repeat' (first|with_reducible (first|exact zho _ _|assumption|refine zhp ?_ ?_ _|refine zhq ?_|refine z00 ?_ _|refine zhr ?_ ?_ _|exact zhT _)|omega|(simp;done)|(simp;omega)))⟩
theorem ze3 (s j i:Int)(A:Option Addr)(c:Nat)(us:List Bool)(near many:Int)(w:World)(hn:us.length≤1000)(hR:Reads w A (us.map .bool)):
  Calls prog 95 #[.agg #[.int .i64 s,.int .i64 j,.int .i64 i,.slice A us.length c],.int .i64 near,.int .i64 many] w (zdd s j i A c us near many w):=by
 by_cases hE:CkE s j i us.length=0
 ·by_cases hr:near<0∨(us.length:Int) - 1<near∨many<0
  ·have h7:AlE s j i us near many=7:=by simp only[AlE,if_pos hE,if_pos hr]
   exact(z98 s j i A us.length c near many w (by unfold maxLen;omega) 7 (.inr ⟨hE,hr,rfl⟩)).mono fun e w' ⟨he,hb⟩=>⟨hb,.inl ⟨by omega,by rw[he,h7]⟩⟩
  ·obtain⟨nr,rfl⟩:=Int.eq_ofNat_of_zero_le (show 0≤near by omega)
   obtain⟨mn,rfl⟩:=Int.eq_ofNat_of_zero_le (show 0≤many by omega)
   refine(zbO s j i A c nr mn us (by omega) hn w hR hE).mono fun e w' ⟨hb,h⟩=>⟨hb,?_⟩
   rcases h with ⟨hf,he⟩|⟨hf,g,cap,av,cv,he,h1,h2⟩
   ·have h11:AlE s j i us nr mn=11:=by
     simp only[AlE,if_pos hE,if_neg hr];rw[if_pos (by simpa using hf)]
    exact .inl ⟨by omega,by rw[he,h11]⟩
   ·have h00:AlE s j i us nr mn=0:=by
     simp only[AlE,if_pos hE,if_neg hr];rw[if_neg (by simpa using hf)]
    exact .inr ⟨h00,g,cap,av,cv,by simpa using he,by simpa using h1,by simpa using h2⟩
 ·have hx:AlE s j i us near many=CkE s j i us.length:=by simp only[AlE,if_neg hE]
  exact(z98 s j i A us.length c near many w (by unfold maxLen;omega) _ (.inl ⟨hE,rfl⟩)).mono fun e w' ⟨he,hb⟩=>⟨hb,.inl ⟨by omega,by rw[he,hx]⟩⟩
end Go.Proofs.YtejmknghkbobnaaGreatDoor
