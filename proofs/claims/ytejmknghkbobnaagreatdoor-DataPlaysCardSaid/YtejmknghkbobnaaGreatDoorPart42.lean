import Derived.Test.YtejmknghkbobnaaGreatDoorPart41
set_option linter.all false
set_option maxRecDepth 100000
set_option maxHeartbeats 0
namespace Go.Proofs.YtejmknghkbobnaaGreatDoor
open Go.Proofs.Tryz
open Go.RowKit Go.Maps
theorem z38 {w:World}{Y A2:Option Addr}{c1 c2:Nat}{l:List Rec}(hl:l.length<=1000)(h1:RunAt w Y l)(h2:RunAt w A2 l):
  Calls prog 89 #[.slice Y l.length c1,.slice A2 l.length c2] w (Zq (.bool true) w):=by
 go_enter func89,ntmps89
 go_wp2_with fail
 go_loopw [5] (fun q wr=>∃k:Nat,k<=l.length/\q=.int .i64 k/\Zr w wr) (fun q _=>l.length - (RowKit.intOf q).toNat)
 case atStart=>exact⟨0,kP _,rfl,kF _ _⟩
 case round=>
  obtain⟨k,hk,rfl,J⟩:=hrel;by_cases I:k<l.length
  ·as_aux_lemma=>
   obtain⟨K,U,rfl,ac,c0,c,A⟩:=RunAt.at_ (Reads.below h1 J) I;obtain⟨M,V,rfl,an,d0,d1,d2⟩:=RunAt.at_ (Reads.below h2 J) I;have O:=fun W=>zcB l[k] W
   have ab:(k:Int)<l.length:=by omega
   have ao:(0:Int)<=k:=by omega
   generalize l[k]=r at *;have HS:=kD (And.intro c0 (And.intro c (And.intro A (And.intro d0 (And.intro d1 d2)))));clear c0 c A d0 d1 d2;go_wp2_with fail
   refine zrm [.take 0,.take 1,.take 2,.take 3,.take 4,.take 5,.take 6,.take 7,.take 8] 9 (fun W=>W.cell? ⟨K,U+k*3,none⟩=some (.int .i64 r.at_)/\W.cell? ⟨K,U+k*3+1,none⟩=some (.int .i64 r.kind)/\W.cell? ⟨K,U+k*3+2,none⟩=some (.string r.data)/\W.cell? ⟨M,V+k*3,none⟩=some (.int .i64 r.at_)/\W.cell? ⟨M,V+k*3+1,none⟩=some (.int .i64 r.kind)/\W.cell? ⟨M,V+k*3+2,none⟩=some (.string r.data)) HS.out ?_
   simp only[kR,kS,Ms.fill,kT,kV];iterate 8 refine ztk ?_
   refine ai (by rfl) (.bool false) (fun w' av=>z4Q .neq 118 _ _ _ rfl rfl rfl Tryz.eqGuardType118 (O w')) ?_
   simp only[Act.put,kJ,kH,kI];refine ax ?_;go_wp2_with fail
   go_roundw
   case rel=>exact⟨k+1,by omega,by go_num,J.drew⟩
   case measure=>simp[RowKit.intOf];omega
  ·have hd:¬((k:Int)<(l.length:Int)):=by omega
   go_wp2_with fail
   go_ret
   exact⟨rfl,J⟩
theorem zcN {w:World}{P:Nat->Prop}{T:Nat}{F:List Nat}{D:Nat}{y:TxS}{B:List Nat}{x:DevS}{tv:Array Value}(h:TD w T F D y B x)(hq:RTx w P x y tv)(hc:y.Clean):
  Calls prog 30 #[.pointer (some ⟨T,0,none⟩),.agg tv] w (Zq (.bool true) w):=by
 obtain⟨wA,hA⟩:=zex (w.alloc (.cells tv 50));have bT:Blk wA w.heap.size 50 tv:=by rw[hA];exact zbn
 have BA:Zr w wA:=by rw[hA];exact zgr
 have bJ:=hq.size;have ok:=h.tx.ok;have hp:=h.below BA;have hQ:=hq.below BA;have ab:=fun W (hW:Zr wA W)=>zbk W (hp.tx.below hW)
 have ac:=fun W (hW:Zr wA W)=>z60 (hQ.below hW)
 have an:=fun W (hW:Zr wA W)=>zcH W (hp.tx.below hW) hc
 have ao:=fun W (hW:Zr wA W)=>zc0 (hQ.below hW) ok hc
 have bN:=z8i ok;have bD:=zbR ok hc;unfold jt at ab ac;unfold z0K at an ao;clear hQ hp ok hc h hq;generalize y.blk=r2 at *;generalize y.rcs=r3 at *;obtain⟨⟨s1,j1,i1⟩,us,q4⟩:=r2;obtain⟨l,q5⟩:=r3;simp only at ab ac an ao bN bD
 go_enter func30,ntmps30
 go_upto_region 1 with fail
 rw[<-hA];clear hA;go_wp2_with fail
 refine(an wA (kF _ _)).mono ?_;rintro e w1 ⟨A1,c1,rfl,bt,M⟩;have l1:=aN (bT.mD M) bJ;clear an;go_wp2_with (refine zlw l1 ?_)
 refine(ao w1 M).mono ?_;rintro e w2 ⟨A2,c2,rfl,bu,V⟩;have U:=M.trans (V.mono M.size);have a1:=Reads.below bt V;clear ao l1 M V bt;go_wp2_with fail
 refine(ab w2 U).mono ?_;rintro e w3 ⟨A3,c3,rfl,bw,J⟩;have br:=U.trans (J.mono U.size);have a2:=Reads.below a1 J;have bb:=Reads.below bu J;clear ab U J a1 bu;obtain⟨w4,av⟩:=zex (w3.alloc (.cells #[.int .i64 s1,.int .i64 j1,.int .i64 i1,.slice A3 us.length c3] 47));have b4:Blk w4 w3.heap.size 47 #[.int .i64 s1,.int .i64 j1,.int .i64 i1,.slice A3 us.length c3]:=by rw[av];exact zbn
 have A:Zr w3 w4:=by rw[av];exact(kF _ _).alloc (kE _) _
 have I:=br.trans (A.mono br.size);have a8:=Reads.below a2 A;have bc:=Reads.below bb A;have bn:=bw.below A;have l4:=aN (bT.mD I) bJ;go_upto_region 4 with fail
 rw[<-av];clear av A br a2 bb bw;go_wp2_with (refine zlw l4 ?_)
 refine(ac w4 I).mono ?_;rintro e w5 ⟨A5,c5,rfl,bB,K⟩;have bM:=I.trans (K.mono I.size);obtain⟨w6,aL⟩:=zex (w5.alloc (.cells #[.int .i64 s1,.int .i64 j1,.int .i64 i1,.slice A5 us.length c5] 47));have b6:Blk w6 w5.heap.size 47 #[.int .i64 s1,.int .i64 j1,.int .i64 i1,.slice A5 us.length c5]:=by rw[aL];exact zbn
 have Y:Zr w5 w6:=by rw[aL];exact(kF _ _).alloc (kE _) _
 have c:=K.trans (Y.mono K.size);have a6:=b4.mD c;have B6:=BA.trans ((I.trans (c.mono I.size)).mono BA.size);have ba:=Reads.below a8 c;have bk:=Reads.below bc c;have bp:=bn.below c;have bq:=bB.below Y;have bG:=z38 (c1:=c1) (c2:=c2) bD ba bk;go_upto_region 5 with fail
 rw[<-aL];obtain⟨cA,lA⟩:=a6.zc;obtain⟨cB,lB⟩:=b6.zc;clear ac l4 I K bM aL Y c a8 bc bn bB b4 ba bk;go_wp2_with fail
 refine bG.mono ?_;rintro e w7 ⟨rfl,O⟩;have a7:=a6.mD O;have b7:=b6.mD O;have B7:=B6.trans (O.mono B6.size);have bA:=bp.below O;have bC:=bq.below O;clear bG cA lA cB lB a6 b6 B6 bp bq O;obtain⟨cA,lA⟩:=a7.zc;obtain⟨cB,lB⟩:=b7.zc;go_wp2_with fail
 clear cA cB lA lB;have bK:=a7.lt;have bL:=b7.lt;go_loopw [13] (fun q wr=>∃k:Nat,k<=us.length/\q=.int .i64 k/\Zr w7 wr) (fun q _=>us.length - (RowKit.intOf q).toNat)
 case atStart=>exact⟨0,kP _,rfl,kF _ _⟩
 case round=>
  obtain⟨k,hk,rfl,hb⟩:=hrel;have cA:=(a7.below hb bK).cells;have cB:=(b7.below hb bL).cells;have lA:=(a7.below hb bK).lt;have lB:=(b7.below hb bL).lt;have B8:=B7.trans (hb.mono B7.size);by_cases bF:k<us.length
  ·obtain⟨b1,o1,rfl,M,d1⟩:=(bA.below hb).at_ (k:=k) (by simpa using bF)
   obtain⟨b2,o2,rfl,U,d2⟩:=(bC.below hb).at_ (k:=k) (by simpa using bF)
   rw[lf]at d1 d2;generalize us[k]=u at *;go_wp2_with fail
   go_quiet (fail)
   go_wp2_with fail
   go_roundw
   case rel=>exact⟨k+1,by omega,by go_num,aa hb _⟩
   case measure=>simp[RowKit.intOf];omega
  ·obtain rfl:k=us.length:=by omega
   go_wp2_with fail
   go_ret
   exact⟨rfl,B8⟩
theorem zc3 {w:World}{P:Nat->Prop}{base:Nat}{x:DevS}{sv cv:Value}(ok:x.Ok)(I:w.ownsRow base 128 128 sv x.stable.length (x.stable.flatMap bd))(J:w.ownsRow base 130 129 cv x.cache.length (x.cache.flatMap dwV))(K:∀b,base<=b->P b):
  RSv w P x (ap sv cv x.taken x.power x.off):=by
 obtain⟨A,c,rfl⟩:=aw I;obtain⟨C,d,rfl⟩:=aw J;refine⟨A,c,C,d,rfl,ok,eU I ?_,eU J ?_,gl I K,.inr (gl J K)⟩
 ·exact gP fun s O=>(ok.sec s O).1
 ·exact z0x fun p M=>(ok.cac p M).2.2.1
theorem zbC {n S:Nat}(A:64<=n/\n<=256){w:World}{P:Nat->Prop}{base:Nat}(I:w.ownsRow base 128 128 (.slice (some ⟨S,0,none⟩) n n) n ((List.replicate n zsec).flatMap bd))(c:∀b,base<=b->P b):
  RSv w P (aV n) (ap (.slice (some ⟨S,0,none⟩) n n) (.slice none 0 0) 0 (-1) false):=by
 have h:=zc3 (P:=P) (base:=base) (w:=w) (x:=aV n) (sv:=.slice (some ⟨S,0,none⟩) n n) (cv:=.slice none 0 0) (jF A) (by
  show w.ownsRow base _ 128 _ (List.replicate n zsec).length _
  rw[m4];exact I) (World.ownsRow_nil _ _ _ _) c
 exact h
theorem z7E {x:DevS}{n:Nat}{s j i:Int}(h:eh n x)(J:x.Calm):eh n (x.oC s j i).2/\(x.oC s j i).2.Calm:=by
 unfold DevS.oC;split
 ·exact⟨h,J⟩
 ·rename_i K
  obtain⟨A,U⟩:=iQ (by simpa using K)
  have M:=de A;have O:=h.2;have c:aO 1 j=0:=by unfold aO;rw[if_neg (by omega)]
  obtain⟨I,c1⟩:=z21 (F:=1) (Z:=j) h J (by omega)
  split
  ·exact⟨I,c1⟩
  ·exact z3M I c1 c (by omega)
theorem zbJ (c:Nat)(j i:Int)(h:rgE c j i=0){y:DevS}(hy:(aV c).oC c j i=(0,y))(hF:Fresh y c j i 1000000)(P:Nat->Prop)(w:World)(hP:∀b,w.heap.size<=b->P b):
  Calls prog 25 #[.agg #[.int .i64 c,.int .i64 j,.int .i64 i]] w fun e w'=>∃tv,e=.returned (.agg tv)/\RTx w' P y (ff c j i) tv/\y.Calm/\Zr w w':=by
 obtain⟨w0,M⟩:=zex ((w.alloc (.cells #[.int .i64 c,.int .i64 j,.int .i64 i] 23)).alloc (.cells txZ 50));have bL:Blk w0 w.heap.size 23 #[.int .i64 c,.int .i64 j,.int .i64 i]:=by rw[M];exact zbn
 have bR:Blk w0 (w.heap.size+1) 50 txZ:=by rw[M];exact zbn
 have B0:Zr w w0:=by rw[M];exact zgr
 have bO:w0.heap.size=w.heap.size+1+1:=by rw[M];simp
 have bU:=de h;have hn:64<=c/\c<=256:=by omega
 have K:=(z7E (s:=c) (j:=j) (i:=i) (x:=aV c) (n:=c) ⟨jF hn,m4⟩ (.inl rfl)).2;rw[hy]at K;obtain⟨J,V,-⟩:=z0N h hF;have a8:=zaG c hn w0;obtain⟨cL,lL⟩:=bL.zc;have A:=kD bO;have HY:=kD hy;have bP:=kD J;have bQ:=kD V;have HP:=kD hP;clear bU bO hy J V hP h;unfold txZ txR at M;go_enter func25,ntmps25
 go_upto_region 1 with fail
 rw[<-M];clear M;go_wp2_with fail
 refine a8.mono ?_;rintro e w1 ⟨S,hS,rfl,bG,J⟩;obtain⟨sv,bu⟩:=zex (ap (.slice (some ⟨S,0,none⟩) c c) (.slice none 0 0) 0 (-1) false);have ao:RSv w1 (fun b=>P b/\w0.heap.size<=b/\b≠w1.heap.size) (aV c) sv:=by
  rw[bu];exact(zbC (P:=fun b=>w0.heap.size<=b) hn bG fun b hb=>hb).mono fun b h1 h2=>⟨HP.out b (by have:=A.out;omega),h1,by omega⟩
 rw[<-bu];have bw:=ao.size;have bJ:=ao.one;obtain⟨N,hN⟩:=zex w1.heap.size;have bX:w0.heap.size<=N:=by rw[hN];exact J.size
 obtain⟨W2,a6⟩:=zex (World.setRow (w1.alloc (.cells svZ 34)) w1.heap.size sv);have ba:=aX (Blk.new w1 34 svZ) rfl bw bJ;have ab:Blk W2 N 34 sv:=by rw[a6,hN];exact Blk.setRow (Blk.new _ _ _)
 have V:Zr w1 W2:=by rw[a6];exact Below.setRow ((kF _ _).alloc (kE _) _) (kE _) _
 rw[<-hN]at ao;have O:=J.trans (V.mono J.size);have bF:=ao.below V;have bn:=bL.mD O;have bB:=bR.mD O;have B2:=B0.trans (O.mono B0.size);have bW:N<W2.heap.size:=ab.lt;have l2:=cI ab bw;clear a8 cL lL bL bR bG J V O bu B0 ao;have bt:=z7v bF (.inl rfl) (fun b hb=>⟨HP.out b (by have:=A.out;omega),by omega,by omega⟩) c j i
 rw[HY.out]at bt;have bS:=kD hN;go_upto_region 2 with (refine zsb ba ?_)
 rw[<-a6,<-bS.out];clear ba a6 hN;obtain⟨cL,lL⟩:=bn.zc;go_wp2_with (refine zlw l2 ?_)
 refine bt.mono ?_;rintro e w3 ⟨a2,rfl,av,Y⟩;simp only at av |-
 have bc:=av.size;have a1:=aX (ab.mD Y) bw bc av.one;obtain⟨W4,I⟩:=zex (w3.setRow N a2);have bk:Blk W4 N 34 a2:=by rw[I];exact(ab.mD Y).setRow
 have bA:Blk W4 w.heap.size 23 #[.int .i64 c,.int .i64 j,.int .i64 i]:=by rw[I];exact(bn.mD Y).mO (by have:=A.out;omega)
 have bC:Blk W4 (w.heap.size+1) 50 txZ:=by rw[I];exact(bB.mD Y).mO (by have:=A.out;omega)
 have B4:Zr w W4:=by rw[I];exact Below.setRow (B2.trans (Y.mono B2.size)) (by have:=A.out;omega) a2
 have bK:RSv W4 (fun b=>P b/\w0.heap.size<=b/\b≠N) y a2:=by rw[I];exact av.row (fun b hb=>hb.2.2) a2
 have bZ:N<W4.heap.size:=bk.lt;rw[<-I]at a1;have l4:=cI bk bc;have br:=zbN bK K (fun b hb=>⟨HP.out b (by have:=A.out;omega),by omega,by omega⟩) c j i
 unfold zcl at br;clear bt l2 cL lL av Y ab bn bB B2 I bW bF;go_upto_region 3 with (refine zsb a1 ?_)
 clear a1;obtain⟨cL,lL⟩:=bA.zc;go_wp2_with (refine zlw l4 ?_)
 refine br.mono ?_;rintro e w5 ⟨bp,E,tv,hE,rfl,U,an,aL⟩;obtain rfl:=(bP.out E).1 hE;have aL:=aL rfl;rw[bQ.out]at aL;obtain⟨W6,a7⟩:=zex (World.setRow (w5.alloc (.cells txZ 50)) w5.heap.size tv);have bb:=aR (Blk.new w5 50 txZ) rfl U an;have b6:Blk W6 w5.heap.size 50 tv:=by rw[a7];exact Blk.setRow (Blk.new _ _ _)
 have bq:Zr w5 W6:=by rw[a7];exact Below.setRow ((kF _ _).alloc (kE _) _) (kE _) _
 have ac:=bp.trans (bq.mono bp.size);have bD:=bC.mD ac;have B6:=B4.trans (ac.mono B4.size);have bM:=aL.below bq;have l6:=aN b6 U;have bN:=aR bD rfl U an;have bT:=bD.setRow (cs':=tv);have HF:Hid (RTx (W6.setRow (w.heap.size+1) tv) P y (ff c j i) tv/\y.Calm/\Zr w (W6.setRow (w.heap.size+1) tv)):=kD ⟨(bM.row (fun b hb=>by have:=hb.2.1;have:=A.out;omega) tv).mono fun b hb _=>hb.1,K,Below.setRow B6 (by omega) tv⟩
 clear br l4 cL lL bK bp bk bA bC B4 aL bM bq ac hE;go_upto_region 4 with (refine zsb bb ?_)
 rw[<-a7];clear bb a7;go_wp2_with (first|(refine zlw l6 ?_)|(refine zsb bN ?_))
 refine bodyPost_ret (z0k (cs:=tv) rfl rfl bT underlying50 (by rw[U];kernel_rfl)) rfl ?_
 exact⟨tv,rfl,HF.out.1,HF.out.2.1,HF.out.2.2⟩
structure Hist (s j i:Int)(us:List Bool)(y:TxS):Prop where
 s:y.s=s
 j:y.j=j
 i:y.i=i
 ch:y.changed=false->y.now=us
 en:y.ended=false
section
variable {s j i:Int}{us:List Bool}{y:TxS}
end
section
variable {Q:TxS->Prop}(hw:∀y a k d,Q y->Q (y.write a k d).2)(ht:∀y a n,Q y->Q (y.take a n).2)(hf:∀y l,Q y->Q (y.free l).2){y:TxS}(h:Q y)
include hw ht hf h
end
structure HC (s j i:Int)(us:List Bool)(y:TxS):Prop where
 c:y.Clean
 h:Hist s j i us y
section
variable {s j i:Int}{us:List Bool}{y:TxS}
end
structure Book2 (y:TxS)(x:DevS)(l0 l1 l2:List Int)(t0 t1:ByteArray):Prop where
 bk:BookOk y x l0 l1 l2 t0 t1
 pt:∀b∈l2,(y.part x 7 b).2=0
section
variable {y y2:TxS}{x:DevS}{l0 l1 l2 L:List Int}{t0 t1 t:ByteArray}{ps:List ByteArray}
end
def BegunC (w:World)(s j i:Int)(e:Ending)(w':World):Prop:=
 ∃D T F B y,e=.returned (.tuple #[.pointer (some ⟨D,0,none⟩),.pointer (some ⟨T,0,none⟩)])/\Fresh y s j i 1000000/\y.cache=[]/\TD w' T F D (ff s j i) B y/\Zr w w'/\(∀b∈F,w.heap.size<=b)/\∀b∈B,w.heap.size<=b
structure Saved (w:World)(F:List Nat)(S:Nat)(a1 a2:Option Addr)(c1 c2:Nat)(sta:List (List Int))(tk pw:Int)(off:Bool):Prop where
 box:Blk w S 34 #[.slice a1 sta.length c1,.slice a2 0 c2,.int .i64 tk,.int .i64 pw,.bool off]
 os:w.ownsRow 0 128 128 (.slice a1 sta.length c1) sta.length (sta.flatMap bd)
 oc:w.ownsRow 0 130 129 (.slice a2 0 c2) 0 []
 nb:S∉F
 ns:∀q,(Value.slice a1 sta.length c1).ownBlock=some q->q∉F
 nc:∀q,(Value.slice a2 0 c2).ownBlock=some q->q∉F
section
variable {w w':World}{F F':List Nat}{S:Nat}{a1 a2:Option Addr}{c1 c2:Nat}{sta:List (List Int)}{tk pw:Int}{off:Bool}
end
def SavedC (W:World)(S n:Nat)(a1 a2:Option Addr)(c1 c2:Nat)(tk pw:Int)(off:Bool):Prop:=
 W.cell? ⟨S,0,none⟩=some (.slice a1 n c1)/\W.cell? ⟨S,1,none⟩=some (.slice a2 0 c2)/\W.cell? ⟨S,2,none⟩=some (.int .i64 tk)/\W.cell? ⟨S,3,none⟩=some (.int .i64 pw)/\W.cell? ⟨S,4,none⟩=some (.bool off)
section
variable {w:World}{T:Nat}{F:List Nat}{D:Nat}{y:TxS}{B:List Nat}{x:DevS}
end
theorem z9U (M O Y P2:Option Addr)(c1 c2 n1 n2:Nat)(c:List Int)(ps:List ByteArray)(ab:c.length<=100000)(ac:ps.length<=100000)(t:ByteArray)(z E:Int)(w:World)(av:Reads w M (c.map (.int .i64)))(aL:Reads w O (c.map (.int .i64)))(a1:Reads w Y (ps.map .string))(a2:Reads w P2 (ps.map .string)):
  Calls prog 29 #[.agg (bH (.slice M c.length c1) (.slice Y ps.length n1) t z E),.agg (bH (.slice O c.length c2) (.slice P2 ps.length n2) t z E)] w (Zq (.bool true) w):=by
 obtain⟨wA,hA⟩:=zex ((w.alloc (.cells (bH (.slice M c.length c1) (.slice Y ps.length n1) t z E) 83)).alloc (.cells (bH (.slice O c.length c2) (.slice P2 ps.length n2) t z E) 83));have bA:Blk wA w.heap.size 83 (bH (.slice M c.length c1) (.slice Y ps.length n1) t z E):=by rw[hA];exact zbn
 have bB:Blk wA (w.heap.size+1) 83 (bH (.slice O c.length c2) (.slice P2 ps.length n2) t z E):=by rw[hA];exact zbn
 have V:Zr w wA:=by rw[hA];exact zgr
 have h1:=fG M O c1 c2 c c ab ab wA (av.below V) (aL.below V);rw[decide_eq_true rfl]at h1;obtain⟨cA,lA⟩:=bA.zc;obtain⟨cB,lB⟩:=bB.zc;go_enter func29,ntmps29
 go_wp2_with fail
 rw[<-hA];clear hA;go_wp2_with fail
 refine h1.mono ?_;rintro e w1 ⟨rfl,A⟩;have U:=V.trans (A.mono V.size);have h2:=z5w Y P2 n1 n2 ps ps ac ac w1 (a1.below U) (a2.below U);rw[decide_eq_true rfl]at h2;have J:=bA.mD A;have K:=bB.mD A;clear h1 cA lA cB lB bA bB A V;obtain⟨cA,lA⟩:=J.zc;obtain⟨cB,lB⟩:=K.zc;go_wp2_with fail
 refine h2.mono ?_;rintro e w2 ⟨rfl,I⟩;have B2:=U.trans (I.mono U.size);have an:=J.mD I;have ao:=K.mD I;clear h2 cA lA cB lB J K I U;obtain⟨cA,lA⟩:=an.zc;obtain⟨cB,lB⟩:=ao.zc;go_wp2_with fail
 go_ret
 exact⟨rfl,B2⟩
end Go.Proofs.YtejmknghkbobnaaGreatDoor
