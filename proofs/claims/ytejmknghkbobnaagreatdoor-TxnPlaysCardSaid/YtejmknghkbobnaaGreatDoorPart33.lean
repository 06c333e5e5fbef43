import Derived.Test.YtejmknghkbobnaaGreatDoorPart00
import Derived.Test.YtejmknghkbobnaaGreatDoorPart32
set_option linter.unusedVariables false
set_option linter.unusedSimpArgs false
set_option maxRecDepth 100000
set_option maxHeartbeats 8000000
namespace Go.Proofs.YtejmknghkbobnaaGreatDoor
open Go.Proofs.Tryz
open Go.RowKit Go.Maps
def zfT (s j i:Int)(n:Nat)(l:List Bool)(w:World)(e:Ending)(w':World):Prop:=
 ∃g cap,e=.returned (.agg #[.int .i64 s,.int .i64 j,.int .i64 i,.slice (some ⟨g,0,none⟩) n cap])∧w'.ownsRow w.heap.size 4 1 (.slice (some ⟨g,0,none⟩) n cap) n (l.map .bool)∧Below w.heap.size w w'
def mayK (a b:List Bool)(k:Nat):List Bool:=orL (a.take k) (b.take k)++a.drop k
theorem zgD (a b:List Bool):mayK a b 0=a:=by simp[mayK,orL]
theorem zeV {a b:List Bool}(h:a.length=b.length):mayK a b a.length=orL a b:=by unfold mayK;rw[zia,h,zia,List.drop_of_length_le (by omega),zi5]
theorem zal {a b:List Bool}(h:a.length=b.length)(k:Nat)(hk:k≤a.length):(mayK a b k).length=a.length:=by
 unfold mayK;rw[zhF,z1h (by simp[h]),zi6,zi7];omega
theorem zgu {a b:List Bool}(h:a.length=b.length)(k:Nat)(hk:k<a.length):(mayK a b k)[k]?=some a[k]:=by
 unfold mayK;rw[zhB (by rw[z1h (by simp[h]),zi6];omega),z1h (by simp[h]),zi6]
 rw[List.getElem?_drop,show k+(k - min k a.length)=k by omega,zhx hk]
theorem zes {a b:List Bool}(h:a.length=b.length)(k:Nat)(hk:k<a.length):mayK a b (k+1)=(mayK a b k).set k (a[k]||b[k]'(h▸hk)):=by
 apply List.ext_getElem?
 intro i;have hl:(orL (a.take k) (b.take k)).length=k:=by rw[z1h (by simp[h]),zi6];omega
 have hl1:(orL (a.take (k+1)) (b.take (k+1))).length=k+1:=by rw[z1h (by simp[h]),zi6];omega
 have hg:∀m i,m≤a.length→i<m→(orL (a.take m) (b.take m))[i]?=(orL a b)[i]?:=by
  intro m i hm hi;unfold orL;rw[List.getElem?_zipWith,List.getElem?_zipWith,List.getElem?_take_of_lt hi,List.getElem?_take_of_lt hi]
 by_cases hi:i<k
 ·rw[List.getElem?_set_ne (by omega)]
  unfold mayK;rw[zhA (by omega),zhA (by omega),hg _ _ (by omega) (by omega),hg _ _ (by omega) hi]
 ·by_cases he:i=k
  ·subst he;rw[List.getElem?_set_self (by rw[zal h _ (by omega)];exact hk)]
   unfold mayK;rw[zhA (by omega),hg _ _ (by omega) (by omega)]
   unfold orL;rw[List.getElem?_zipWith,zhx hk,zhx (h▸hk)]
  ·rw[List.getElem?_set_ne (by omega)]
   unfold mayK;rw[zhB (by omega),zhB (by omega),hl,hl1,List.getElem?_drop,List.getElem?_drop]
   congr 1;omega
theorem zfM (T:Nat)(F:List Nat)(D:Nat)(y:TxS)(w:World)(h:TxAt w T F D y):
  Calls prog 92 #[.pointer (some ⟨T,0,none⟩)] w (zfT y.s y.j y.i y.now.length y.may w):=by
 have hbd:=h.ok.bds;obtain⟨wA,hA⟩:∃wA,wA=w.alloc (.cells #[.int .i64 0,.int .i64 0,.int .i64 0,.slice none 0 0] 47):=⟨_,rfl⟩;have bR:Blk wA w.heap.size 47 #[.int .i64 0,.int .i64 0,.int .i64 0,.slice none 0 0]:=by rw[hA];exact(by (repeat' (first|(with_reducible assumption)|exact Blk.new' (by simp)|refine Blk.alloc ?_ _)))
 have BA:Below w.heap.size w wA:=by rw[hA];(repeat' (first|with_reducible (first|exact zho _ _|assumption|refine zhp ?_ ?_ _|refine zhq ?_|refine z00 ?_ _|refine zhr ?_ ?_ _|exact zhT _)|omega|(simp;done)|(simp;omega)))
 have hzA:wA.heap.size=w.heap.size+1:=by rw[hA];simp
 have hTA:=h.below BA;have HY:Hid (y.may=orL y.now y.was):=zhs rfl;obtain⟨ok,⟨M,wv,nv,bT,hT,hM,hMT,hO,⟨A2,c2,rfl,hw,hwF⟩,⟨A,c,rfl,hn,hnF⟩⟩,lt⟩:=hTA;have HLW:Hid (y.now.length=y.was.length):=zhs (ok.now.trans ok.was.symm);have hA0:=hn.some_ (by rw[zhX];omega)
 have cT:=bT.cells;have lT:=bT.lt;have c1:wA.cell? ⟨T,1,none⟩=some (.int .i64 y.s):=(cT 1).trans rfl;have c2':wA.cell? ⟨T,2,none⟩=some (.int .i64 y.j):=(cT 2).trans rfl;have c3:wA.cell? ⟨T,3,none⟩=some (.int .i64 y.i):=(cT 3).trans rfl;have c16:wA.cell? ⟨T,16,none⟩=some (.slice A y.now.length c):=(cT 16).trans rfl;have HN:=zhs hbd;have hnpos:0<y.now.length:=by omega
 have hn1000:y.now.length≤1000:=by omega
 have hS1:∀V,Below wA.heap.size wA V→V.cell? ⟨T,1,none⟩=some (.int .i64 y.s)∧V.cell? ⟨T,2,none⟩=some (.int .i64 y.j)∧V.cell? ⟨T,3,none⟩=some (.int .i64 y.i)∧V.cell? ⟨T,16,none⟩=some (.slice A y.now.length c):=fun V hb=>
  ⟨(hb.cell (p:=⟨T,1,none⟩) lT).trans c1,(hb.cell (p:=⟨T,2,none⟩) lT).trans c2',(hb.cell (p:=⟨T,3,none⟩) lT).trans c3,(hb.cell (p:=⟨T,16,none⟩) lT).trans c16⟩
 have HS1:=zhs hS1;have hlb:Hid (∀W,Below wA.heap.size wA W→Reads W A (y.now.map .bool)):=zhs fun W hb=>hn.below hb
 clear hbd h cT hS1 hO hM hMT lt hT hnF hwF c1 c2' c3 c16;go_enter func92,ntmps92
 go_wp2_with fail
 rw[←hA];refine z06 [.take 0,.take 1,.take 2,.take 3,.take 4,.take 5,.take 6,.take 7,.take 8,.take 9,.par 12 [10,11],.one 13] 13 (fun w'=>w'.cell? ⟨T,1,none⟩=some (.int .i64 y.s)∧w'.cell? ⟨T,2,none⟩=some (.int .i64 y.j)∧w'.cell? ⟨T,3,none⟩=some (.int .i64 y.i)∧w'.cell? ⟨T,16,none⟩=some (.slice A y.now.length c)) (by kernel_rfl) (by kernel_rfl) (fun _ _ _ _ _ h=>h) (HS1.out _ (zho _ _).drew) ?_
 simp only[zhY,zhZ,Ms.fill,zhy,zhz];iterate 10 (refine z04 (by rfl) ?_ (fun w' hw'=>?_) ?_;rotate_left;(focus (go_simp;(try with_reducible rfl)));(try simp only[Act.put,zht,zhu,zhv]))
 clear hA;have HZA:=zhs hzA;clear hzA;refine z7U fun K0 hK0=>?_
 refine z2V (fun K hK=>?_) (fun K hK=>?_)
 focus
  have bL:Blk (wA.alloc (.cells #[.int .i64 0,.int .i64 0,.int .i64 0,.slice none 0 0] 47)).drew wA.heap.size 47 #[.int .i64 0,.int .i64 0,.int .i64 0,.slice none 0 0]:=(Blk.new _ _ _).drew;have BX:Below wA.heap.size wA (wA.alloc (.cells #[.int .i64 0,.int .i64 0,.int .i64 0,.slice none 0 0] 47)).drew:=((zho _ _).alloc (zhT _) _).drew;obtain⟨X2,hX2⟩:∃X2,X2=(wA.alloc (.cells #[.int .i64 0,.int .i64 0,.int .i64 0,.slice none 0 0] 47)).drew:=⟨_,rfl⟩;go_simp;rw[←hX2]at bL BX ⊢;refine hK _ _ (HS1.out _ BX) ?_;clear hK K hX2;refine z1q (fun K hK=>?_)
  go_simp;refine(z4v A c y.now X2 (hlb.out X2 BX) hA0 hn1000).mono ?_;rintro e w3 ⟨v,rfl,ho,hb3⟩;have B3:Below wA.heap.size wA w3:=BX.trans (hb3.mono BX.size);refine hK _ _ (HS1.out _ B3) ?_;clear hK K;obtain⟨g,cap,rfl,hg,-⟩:=z2f ho (by omega)
  refine z1q (fun K hK=>?_)
  go_simp;refine hK _ _ (HS1.out _ B3) ?_;clear hK K;refine z2u ?_;refine hK0 _ _ ?_;have bL3:=bL.belowAll hb3;have zL:=bL.lt;have hgL:g≠wA.heap.size:=by omega
  have hL:wA.heap.size≤wA.heap.size:=zhT _;replace hg:wA.heap.size≤g:=by omega
  replace ho:w3.ownsRow wA.heap.size 4 1 (.slice (some ⟨g,0,none⟩) y.now.length cap) y.now.length (y.now.map .bool):=z0D ho BX.size
  clear hK0 K0 bL zL hb3 BX;obtain⟨L,hLd⟩:∃L,L=wA.heap.size:=⟨_,rfl⟩;rw[←hLd]at bL3 hgL ⊢;have hLw:wA.heap.size≤L:=by omega
  clear hLd hL
 rotate_left;focus
  go_simp;refine(z4v A c y.now wA.drew (hlb.out _ (zho _ _).drew) hA0 hn1000).mono ?_;rintro e w2 ⟨v,rfl,ho,hb2⟩;have B2:Below wA.heap.size wA w2:=(zho _ _).drew.trans hb2;refine hK _ _ (HS1.out _ B2) ?_;clear hK K;obtain⟨g,cap,rfl,hg,hg2⟩:=z2f ho (by omega)
  have bL3:Blk (w2.alloc (.cells #[.int .i64 0,.int .i64 0,.int .i64 0,.slice none 0 0] 47)) w2.heap.size 47 #[.int .i64 0,.int .i64 0,.int .i64 0,.slice none 0 0]:=Blk.new _ _ _;have B3:Below wA.heap.size wA (w2.alloc (.cells #[.int .i64 0,.int .i64 0,.int .i64 0,.slice none 0 0] 47)):=B2.alloc B2.size _;replace ho:(w2.alloc (.cells #[.int .i64 0,.int .i64 0,.int .i64 0,.slice none 0 0] 47)).ownsRow wA.heap.size 4 1 (.slice (some ⟨g,0,none⟩) y.now.length cap) y.now.length (y.now.map .bool):=z0a (W:=w2) ho ((zho _ _).alloc (zhT _) _)
  have hL:wA.heap.size≤w2.heap.size:=B2.size;obtain⟨w3,hw3⟩:∃w3,w3=w2.alloc (.cells #[.int .i64 0,.int .i64 0,.int .i64 0,.slice none 0 0] 47):=⟨_,rfl⟩;obtain⟨L,hLd⟩:∃L,L=w2.heap.size:=⟨_,rfl⟩;have hgL:g≠L:=by omega
  have hLw:wA.heap.size≤L:=by omega
  rw[←hw3]at ho B3 bL3;rw[←hLd]at bL3;refine z2V (fun K hK=>?_) (fun K hK=>?_)
  focus
   go_simp;rw[←hw3,←hLd];clear hw3 hLd;refine hK _ _ (HS1.out _ B3) ?_;clear hK K;refine z1q (fun K hK=>?_)
   go_simp;refine hK _ _ (HS1.out _ B3) ?_;clear hK K;refine z2u ?_;refine hK0 _ _ ?_;clear hK0 K0 hL hb2 hg2 B2
  rotate_left;focus
   go_simp;refine hK _ _ (HS1.out _ B2) ?_;clear hK K;refine z8m (fun K hK=>?_)
   go_simp;rw[←hw3,←hLd];refine hK _ _ (HS1.out _ B3) ?_;clear hK K;refine hK0 _ _ ?_;clear hK0 K0 hw3 hLd hL hb2 hg2 B2
 all_goals
  replace hg:wA.heap.size≤g:=hg
  have bTA:=bT.belowAll B3;have bR3:=bR.belowAll B3;have hwA:=hw.below B3;have hB3:Below w.heap.size w w3:=BA.trans (B3.mono BA.size);refine z05 (by rfl) fun K hK=>?_
  have hst:=z1L (ty:=47) (vs:=#[.int .i64 y.s,.int .i64 y.j,.int .i64 y.i,.slice (some ⟨g,0,none⟩) y.now.length cap]) bL3 rfl (by simp[Value.oneCell']) (by kernel_rfl)
  obtain⟨V,hV⟩:∃V,V=w3.setRow L #[.int .i64 y.s,.int .i64 y.j,.int .i64 y.i,.slice (some ⟨g,0,none⟩) y.now.length cap]:=⟨_,rfl⟩;have bLV:Blk V L 47 #[.int .i64 y.s,.int .i64 y.j,.int .i64 y.i,.slice (some ⟨g,0,none⟩) y.now.length cap]:=by rw[hV];exact bL3.setRow
  have BV:Below wA.heap.size wA V:=by rw[hV];exact Below.setRow B3 hLw _
  have hoV:V.ownsRow wA.heap.size 4 1 (.slice (some ⟨g,0,none⟩) y.now.length cap) y.now.length (y.now.map .bool):=by rw[hV];exact z0c ho (fun g' e=>by cases e;exact z0b _ _ _ _ hgL)
  rw[←hV]at hst;refine z0h _ _ _ rfl _ _ rfl rfl hst ?_;refine hK _ _ (fun h=>absurd h (by decide)) ?_
  clear hK K hst hV ho bL3 B3 bTA bR3 hwA hB3;refine z0f ?_;have bTV:=bT.belowAll BV;have bRV:=bR.belowAll BV;have c12:V.cell? ⟨T,12,none⟩=some (.slice A2 y.was.length c2):=(bTV.cells 12).trans rfl;have lTV:=bTV.lt;have hwas:y.was.length=y.now.length:=HLW.out.symm;rw[hwas]at c12;clear hwas;go_wp2_with fail
  have zV:=BV.size;have hgV:g<V.heap.size:=by
   rcases hoV.2 with ⟨-,h0⟩|⟨g',cap',cur,he,-,hk,-⟩
   ·omega
   ·cases he;exact(zhW.1 hk).1
  go_loopw [24] (fun q wr=>∃k:Nat,k≤y.now.length∧q=.int .i64 k∧wr.ownsRow wA.heap.size 4 1 (.slice (some ⟨g,0,none⟩) y.now.length cap) y.now.length ((mayK y.now y.was k).map .bool)∧KeepEx V.heap.size [g] V wr) (fun q _=>y.now.length - (intOf q).toNat)
  case atStart=>exact⟨0,zi9 _,rfl,by rw[zgD];exact hoV,KeepEx.refl _ _ _⟩
  case round=>
   obtain⟨k,hk,rfl,hown,hnx⟩:=hrel;have BVr:Below wA.heap.size V wr:=hnx.toBelow zV (by simp;omega)
   have BWr:Below wA.heap.size wA wr:=BV.trans BVr;have bLr:=hnx.blk bLV bLV.lt (by simp;omega)
   have bRr:=bR.belowAll BWr;have bTr:=bT.belowAll BWr;have HOWN:=zhs hown;have HNX:=zhs hnx;by_cases hlt:k<y.now.length
   ·have hlw:k<y.was.length:=by rw[←HLW.out];exact hlt
    have hwr:=hw.below BWr;obtain⟨b2,o2,he2,hb2,hcx⟩:=hwr.at_ (k:=k) (by simpa using hlw)
    rw[List.getElem_map]at hcx;have hct:=hown.cellAt k (by omega)
    rw[zi1,zgu HLW.out k hlt,Option.map_some]at hct;have hft:=hown.frozenAt k;have HSU:=zhs (zes HLW.out k hlt);have cL:=bLr.cells;have lL:=bLr.lt;have c3L:wr.cell? ⟨L,3,none⟩=some (.slice (some ⟨g,0,none⟩) y.now.length cap):=(cL 3).trans rfl;generalize y.now[k]=un at *;generalize y.was[k]=uw at *;subst he2;have hbd:=HN.out;have hkn:k≤1000:=by omega
    clear hown hnx cL hwr hbd;have HSS:=zhs (And.intro c3L hct);cases un;focus
     go_wp2_with fail
     refine z06 [.take 0,.take 1,.take 2,.take 3,.take 4,.take 5,.take 6,.take 7,.take 8,.take 9,.take 10,.one 11,.one 12] 11 (fun w'=>w'.cell? ⟨L,3,none⟩=some (.slice (some ⟨g,0,none⟩) y.now.length cap)∧w'.cell? ⟨g,k,none⟩=some (.bool false)) (by kernel_rfl) (by kernel_rfl) (fun _ _ _ _ _ h=>h) HSS.out ?_
     simp only[zhY,zhZ,Ms.fill,zhy,zhz];iterate 11 (refine z04 (by rfl) ?_ (fun w' hw'=>?_) ?_;rotate_left;(focus (go_simp;(try with_reducible rfl)));(try simp only[Act.put,zht,zhu,zhv]))
    rotate_left;focus
     go_wp2_with fail
     refine z06 [.take 0,.take 1,.take 2,.take 3,.take 4,.take 5,.take 6,.take 7,.take 8,.take 9,.take 10,.one 11,.one 12] 11 (fun w'=>w'.cell? ⟨L,3,none⟩=some (.slice (some ⟨g,0,none⟩) y.now.length cap)∧w'.cell? ⟨g,k,none⟩=some (.bool true)) (by kernel_rfl) (by kernel_rfl) (fun _ _ _ _ _ h=>h) HSS.out ?_
     simp only[zhY,zhZ,Ms.fill,zhy,zhz];iterate 9 (refine z04 (by rfl) ?_ (fun w' hw'=>?_) ?_;rotate_left;(focus (go_simp;(try with_reducible rfl)));(try simp only[Act.put,zht,zhu,zhv]))
     ((first|(refine z0E (by rfl) ?_)|(refine z0F (by rfl) ?_));(try simp only[Act.put,zht,zhu,zhv]))
     (refine z04 (by rfl) ?_ (fun w' hw'=>?_) ?_;rotate_left;(focus (go_simp;(try with_reducible rfl)));(try simp only[Act.put,zht,zhu,zhv]))
    all_goals
     refine z05 (by rfl) fun K hK=>?_
     go_simp;refine hK _ _ (fun h=>absurd h (by decide)) ?_
     clear hK K;refine z05 (by rfl) fun K hK=>?_
     go_simp;refine hK _ _ (fun h=>absurd h (by decide)) ?_
     clear hK K;refine z0f ?_;go_wp2_with fail
     go_roundw
     case rel=>
      refine⟨k+1,by omega,by go_num,?_,?_⟩
      ·rw[HSU.out,List.map_set];exact z0a (W:=wr.setCell ⟨g,k,none⟩ _) (HOWN.out.stored _ _).1 (zho _ _).drew
      ·exact HNX.out.trans ((KeepEx.setCell (p:=⟨g,k,none⟩) wr (.inl (by simp)) _).trans (KeepEx.of_below (zho _ _).drew))
     case measure=>simp[intOf];omega
   ·obtain rfl:k=y.now.length:=by omega
    have cL:=bLr.cells;have lL:=bLr.lt;have lR:=bRr.lt;have cR:=bRr.cells;have fR:=bRr.free;have hgw:w.heap.size<g:=by have:=HZA.out;omega
    have hLR:w.heap.size<L:=by have:=HZA.out;omega
    have hBw:=BA.trans (BWr.mono BA.size);clear hown hnx;go_wp2_with fail
    have c1:=(((((bRr.set_ 0 (.int .i64 y.s)).set_ 1 (.int .i64 y.j)).set_ 2 (.int .i64 y.i)).set_ 3 (.slice (some ⟨g,0,none⟩) y.now.length cap))).cells;refine bodyPost_ret (v:=.agg #[.int .i64 y.s,.int .i64 y.j,.int .i64 y.i,.slice (some ⟨g,0,none⟩) y.now.length cap]) (by simp[results,results92,go_sem,c1]) rfl ?_
    refine⟨g,cap,rfl,?_,by (repeat' (first|with_reducible (first|exact zho _ _|assumption|refine zhp ?_ ?_ _|refine zhq ?_|refine z00 ?_ _|refine zhr ?_ ?_ _|exact zhT _)|omega|(simp;done)|(simp;omega)))⟩
    have h1:=HOWN.out;rw[zeV HLW.out,←HY.out]at h1;have hz:=HZA.out;exact z0D (ownsRow_setCell_below (ownsRow_setCell_below (ownsRow_setCell_below (ownsRow_setCell_below h1 (by simp;omega) _) (by simp;omega) _) (by simp;omega) _) (by simp;omega) _) (by omega)
end Go.Proofs.YtejmknghkbobnaaGreatDoor
