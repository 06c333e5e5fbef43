import Derived.Test.YtejmknghkbobnaaGreatDoorPart15
set_option linter.all false
set_option maxRecDepth 100000
set_option maxHeartbeats 0
namespace Go.Proofs.YtejmknghkbobnaaGreatDoor
open Go.Proofs.Tryz
open Go.RowKit Go.Maps
def zbc (s j i:Int)(n:Nat)(l:List Bool)(w:World)(e:Ending)(w':World):Prop:=
 ∃g cap,e=.returned (.agg #[.int .i64 s,.int .i64 j,.int .i64 i,.slice (some ⟨g,0,none⟩) n cap])/\w'.ownsRow w.heap.size 4 1 (.slice (some ⟨g,0,none⟩) n cap) n (l.map .bool)/\Zr w w'
def mayK (a b:List Bool)(k:Nat):List Bool:=orL (a.take k) (b.take k)++a.drop k
theorem zcz (a b:List Bool):mayK a b 0=a:=by simp[mayK,orL]
theorem zaq {a b:List Bool}(h:a.length=b.length):mayK a b a.length=orL a b:=by unfold mayK;rw[lj,h,lj,List.drop_of_length_le (by omega),mp]
theorem z52 {a b:List Bool}(h:a.length=b.length)(k:Nat)(c:k<=a.length):(mayK a b k).length=a.length:=by
 unfold mayK;rw[kY,dm (by simp[h]),kX,ma];omega
theorem zby {a b:List Bool}(h:a.length=b.length)(k:Nat)(c:k<a.length):(mayK a b k)[k]?=some a[k]:=by
 unfold mayK;rw[ml (by rw[dm (by simp[h]),kX];omega),dm (by simp[h]),kX]
 rw[List.getElem?_drop,show k+(k - min k a.length)=k by omega,kQ c]
theorem z8V {a b:List Bool}(h:a.length=b.length)(k:Nat)(A:k<a.length):mayK a b (k+1)=(mayK a b k).set k (a[k]||b[k]'(h▸A)):=by
 apply List.ext_getElem?
 intro i;have K:(orL (a.take k) (b.take k)).length=k:=by rw[dm (by simp[h]),kX];omega
 have I:(orL (a.take (k+1)) (b.take (k+1))).length=k+1:=by rw[dm (by simp[h]),kX];omega
 have D:∀m i,m<=a.length->i<m->(orL (a.take m) (b.take m))[i]?=(orL a b)[i]?:=by
  intro m i M c;unfold orL;rw[List.getElem?_zipWith,List.getElem?_zipWith,List.getElem?_take_of_lt c,List.getElem?_take_of_lt c]
 by_cases c:i<k
 ·rw[List.getElem?_set_ne (by omega)]
  unfold mayK;rw[mc (by omega),mc (by omega),D _ _ (by omega) (by omega),D _ _ (by omega) c]
 ·by_cases J:i=k
  ·subst J;rw[List.getElem?_set_self (by rw[z52 h _ (by omega)];exact A)]
   unfold mayK;rw[mc (by omega),D _ _ (by omega) (by omega)]
   unfold orL;rw[List.getElem?_zipWith,kQ A,kQ (h▸A)]
  ·rw[List.getElem?_set_ne (by omega)]
   unfold mayK;rw[ml (by omega),ml (by omega),K,I,List.getElem?_drop,List.getElem?_drop]
   congr 1;omega
theorem zcA (T:Nat)(F:List Nat)(D:Nat)(y:TxS)(w:World)(h:TxAt w T F D y):
  Calls prog 92 #[.pointer (some ⟨T,0,none⟩)] w (zbc y.s y.j y.i y.now.length y.may w):=by
 have a7:=h.ok.bds;obtain⟨I,hA⟩:=zex (w.alloc (.cells #[.int .i64 0,.int .i64 0,.int .i64 0,.slice none 0 0] 47));have bR:Blk I w.heap.size 47 #[.int .i64 0,.int .i64 0,.int .i64 0,.slice none 0 0]:=by rw[hA];exact zbn
 have BA:Zr w I:=by rw[hA];exact zgr
 have bO:I.heap.size=w.heap.size+1:=by rw[hA];simp
 have b3:=h.below BA;have HY:Hid (y.may=orL y.now y.was):=kD rfl;obtain⟨ok,⟨M,wv,nv,bT,hT,hM,b1,hO,⟨A2,c2,rfl,hw,ca⟩,⟨A,c,rfl,hn,b7⟩⟩,lt⟩:=b3;have ao:Hid (y.now.length=y.was.length):=kD (ok.now.trans ok.was.symm);have bB:=hn.some_ (by rw[lZ];omega)
 obtain⟨cT,lT⟩:=bT.zc;have c1:I.cell? ⟨T,1,none⟩=some (.int .i64 y.s):=(cT 1).trans rfl;have bA:I.cell? ⟨T,2,none⟩=some (.int .i64 y.j):=(cT 2).trans rfl;have c3:I.cell? ⟨T,3,none⟩=some (.int .i64 y.i):=(cT 3).trans rfl;have bw:I.cell? ⟨T,16,none⟩=some (.slice A y.now.length c):=(cT 16).trans rfl;have HN:=kD a7;have b8:0<y.now.length:=by omega
 have ac:y.now.length<=1000:=by omega
 have bD:∀V,Zr I V->V.cell? ⟨T,1,none⟩=some (.int .i64 y.s)/\V.cell? ⟨T,2,none⟩=some (.int .i64 y.j)/\V.cell? ⟨T,3,none⟩=some (.int .i64 y.i)/\V.cell? ⟨T,16,none⟩=some (.slice A y.now.length c):=fun V hb=>
  ⟨(hb.cell (p:=⟨T,1,none⟩) lT).trans c1,(hb.cell (p:=⟨T,2,none⟩) lT).trans bA,(hb.cell (p:=⟨T,3,none⟩) lT).trans c3,(hb.cell (p:=⟨T,16,none⟩) lT).trans bw⟩
 have S:=kD bD;have bK:Hid (∀W,Zr I W->Reads W A (y.now.map .bool)):=kD fun W hb=>hn.below hb
 clear a7 h cT bD hO hM b1 lt hT b7 ca c1 bA c3 bw;go_enter func92,ntmps92
 go_wp2_with fail
 rw[<-hA];refine zrm [.take 0,.take 1,.take 2,.take 3,.take 4,.take 5,.take 6,.take 7,.take 8,.take 9,.par 12 [10,11],.one 13] 13 (fun w'=>w'.cell? ⟨T,1,none⟩=some (.int .i64 y.s)/\w'.cell? ⟨T,2,none⟩=some (.int .i64 y.j)/\w'.cell? ⟨T,3,none⟩=some (.int .i64 y.i)/\w'.cell? ⟨T,16,none⟩=some (.slice A y.now.length c)) (S.out _ (kF _ _).drew) ?_
 simp only[kR,kS,Ms.fill,kT,kV];iterate 10 refine ztk ?_
 clear hA;have bb:=kD bO;clear bO;refine z0z fun K0 an=>?_
 refine gb (fun K J=>?_) (fun K J=>?_)
 focus
  have bL:Blk (I.alloc (.cells #[.int .i64 0,.int .i64 0,.int .i64 0,.slice none 0 0] 47)).drew I.heap.size 47 #[.int .i64 0,.int .i64 0,.int .i64 0,.slice none 0 0]:=(Blk.new _ _ _).drew;have BX:Zr I (I.alloc (.cells #[.int .i64 0,.int .i64 0,.int .i64 0,.slice none 0 0] 47)).drew:=((kF _ _).alloc (kE _) _).drew;obtain⟨X2,bF⟩:=zex ((I.alloc (.cells #[.int .i64 0,.int .i64 0,.int .i64 0,.slice none 0 0] 47)).drew);go_simp;rw[<-bF]at bL BX |-;refine J _ _ (S.out _ BX) ?_;clear J K bF;refine dx (fun K J=>?_)
  go_simp;refine(jx A c y.now X2 (bK.out X2 BX) bB ac).mono ?_;rintro e w3 ⟨v,rfl,ho,bc⟩;have B3:Zr I w3:=BX.trans (bc.mono BX.size);refine J _ _ (S.out _ B3) ?_;clear J K;obtain⟨g,O,rfl,hg,-⟩:=dA ho (by omega)
  refine dx (fun K J=>?_)
  go_simp;refine J _ _ (S.out _ B3) ?_;clear J K;refine fe ?_;refine an _ _ ?_;have ab:=bL.mD bc;have zL:=bL.lt;have bk:g≠I.heap.size:=by omega
  have hL:I.heap.size<=I.heap.size:=kE _;replace hg:I.heap.size<=g:=by omega
  replace ho:w3.ownsRow I.heap.size 4 1 (.slice (some ⟨g,0,none⟩) y.now.length O) y.now.length (y.now.map .bool):=aI ho BX.size
  clear an K0 bL zL bc BX;obtain⟨L,U⟩:=zex I.heap.size;rw[<-U]at ab bk |-;have bC:I.heap.size<=L:=by omega
  clear U hL
 rotate_left;focus
  go_simp;refine(jx A c y.now I.drew (bK.out _ (kF _ _).drew) bB ac).mono ?_;rintro e w2 ⟨v,rfl,ho,a6⟩;have B2:Zr I w2:=(kF _ _).drew.trans a6;refine J _ _ (S.out _ B2) ?_;clear J K;obtain⟨g,O,rfl,hg,bJ⟩:=dA ho (by omega)
  have ab:Blk (w2.alloc (.cells #[.int .i64 0,.int .i64 0,.int .i64 0,.slice none 0 0] 47)) w2.heap.size 47 #[.int .i64 0,.int .i64 0,.int .i64 0,.slice none 0 0]:=Blk.new _ _ _;have B3:Zr I (w2.alloc (.cells #[.int .i64 0,.int .i64 0,.int .i64 0,.slice none 0 0] 47)):=B2.alloc B2.size _;replace ho:(w2.alloc (.cells #[.int .i64 0,.int .i64 0,.int .i64 0,.slice none 0 0] 47)).ownsRow I.heap.size 4 1 (.slice (some ⟨g,0,none⟩) y.now.length O) y.now.length (y.now.map .bool):=aq (W:=w2) ho ((kF _ _).alloc (kE _) _)
  have hL:I.heap.size<=w2.heap.size:=B2.size;obtain⟨w3,aL⟩:=zex (w2.alloc (.cells #[.int .i64 0,.int .i64 0,.int .i64 0,.slice none 0 0] 47));obtain⟨L,U⟩:=zex w2.heap.size;have bk:g≠L:=by omega
  have bC:I.heap.size<=L:=by omega
  rw[<-aL]at ho B3 ab;rw[<-U]at ab;refine gb (fun K J=>?_) (fun K J=>?_)
  focus
   go_simp;rw[<-aL,<-U];clear aL U;refine J _ _ (S.out _ B3) ?_;clear J K;refine dx (fun K J=>?_)
   go_simp;refine J _ _ (S.out _ B3) ?_;clear J K;refine fe ?_;refine an _ _ ?_;clear an K0 hL a6 bJ B2
  rotate_left;focus
   go_simp;refine J _ _ (S.out _ B2) ?_;clear J K;refine z0A (fun K J=>?_)
   go_simp;rw[<-aL,<-U];refine J _ _ (S.out _ B3) ?_;clear J K;refine an _ _ ?_;clear an K0 aL U hL a6 bJ B2
 all_goals
  replace hg:I.heap.size<=g:=hg
  have bW:=bT.mD B3;have bU:=bR.mD B3;have b9:=hw.below B3;have b0:Zr w w3:=BA.trans (B3.mono BA.size);refine ah (by rfl) fun K J=>?_
  have bp:=aF (ty:=47) (vs:=#[.int .i64 y.s,.int .i64 y.j,.int .i64 y.i,.slice (some ⟨g,0,none⟩) y.now.length O]) ab rfl (by simp[Value.oneCell']) (by kernel_rfl)
  obtain⟨V,hV⟩:=zex (w3.setRow L #[.int .i64 y.s,.int .i64 y.j,.int .i64 y.i,.slice (some ⟨g,0,none⟩) y.now.length O]);have br:Blk V L 47 #[.int .i64 y.s,.int .i64 y.j,.int .i64 y.i,.slice (some ⟨g,0,none⟩) y.now.length O]:=by rw[hV];exact ab.setRow
  have BV:Zr I V:=by rw[hV];exact Below.setRow B3 bC _
  have bM:V.ownsRow I.heap.size 4 1 (.slice (some ⟨g,0,none⟩) y.now.length O) y.now.length (y.now.map .bool):=by rw[hV];exact ar ho (fun g' e=>by cases e;exact ak _ _ _ _ bk)
  rw[<-hV]at bp;refine zob bp ?_;refine J _ _ (fun h=>absurd h (by decide)) ?_
  clear J K bp hV ho ab B3 bW bU b9 b0;refine ax ?_;have bu:=bT.mD BV;have cc:=bR.mD BV;have bX:V.cell? ⟨T,12,none⟩=some (.slice A2 y.was.length c2):=(bu.cells 12).trans rfl;have cw:=bu.lt;have ba:y.was.length=y.now.length:=ao.out.symm;rw[ba]at bX;clear ba;go_wp2_with fail
  have zV:=BV.size;have cn:g<V.heap.size:=by
   rcases bM.2 with ⟨-,h0⟩|⟨g',cb,ci,he,-,hk,-⟩
   ·omega
   ·cases he;exact(lu.1 hk).1
  go_loopw [24] (fun q wr=>∃k:Nat,k<=y.now.length/\q=.int .i64 k/\wr.ownsRow I.heap.size 4 1 (.slice (some ⟨g,0,none⟩) y.now.length O) y.now.length ((mayK y.now y.was k).map .bool)/\KeepEx V.heap.size [g] V wr) (fun q _=>y.now.length - (intOf q).toNat)
  case atStart=>exact⟨0,kP _,rfl,by rw[zcz];exact bM,KeepEx.refl _ _ _⟩
  case round=>
   obtain⟨k,hk,rfl,Y,av⟩:=hrel;have bP:Below I.heap.size V wr:=av.nK zV (by simp;omega)
   have a1:Zr I wr:=BV.trans bP;have bt:=av.blk br br.lt (by simp;omega)
   have a2:=bR.mD a1;have cg:=bT.mD a1;have a8:=kD Y;have bQ:=kD av;by_cases bn:k<y.now.length
   ·have b6:k<y.was.length:=by rw[<-ao.out];exact bn
    have bN:=hw.below a1;obtain⟨b2,o2,b5,a6,b4⟩:=bN.at_ (k:=k) (by simpa using b6)
    rw[lf]at b4;have bG:=Y.cellAt k (by omega)
    rw[mq,zby ao.out k bn,Option.map_some]at bG;have cm:=Y.frozenAt k;have bS:=kD (z8V ao.out k bn);obtain⟨cL,lL⟩:=bt.zc;have bZ:wr.cell? ⟨L,3,none⟩=some (.slice (some ⟨g,0,none⟩) y.now.length O):=(cL 3).trans rfl;generalize y.now[k]=un at *;generalize y.was[k]=uw at *;subst b5;have a7:=HN.out;have cp:k<=1000:=by omega
    clear Y av cL bN a7;have bq:=kD (And.intro bZ bG);cases un;focus
     go_wp2_with fail
     refine zrm [.take 0,.take 1,.take 2,.take 3,.take 4,.take 5,.take 6,.take 7,.take 8,.take 9,.take 10,.one 11,.one 12] 11 (fun w'=>w'.cell? ⟨L,3,none⟩=some (.slice (some ⟨g,0,none⟩) y.now.length O)/\w'.cell? ⟨g,k,none⟩=some (.bool false)) bq.out ?_
     simp only[kR,kS,Ms.fill,kT,kV];iterate 11 refine ztk ?_
    rotate_left;focus
     go_wp2_with fail
     refine zrm [.take 0,.take 1,.take 2,.take 3,.take 4,.take 5,.take 6,.take 7,.take 8,.take 9,.take 10,.one 11,.one 12] 11 (fun w'=>w'.cell? ⟨L,3,none⟩=some (.slice (some ⟨g,0,none⟩) y.now.length O)/\w'.cell? ⟨g,k,none⟩=some (.bool true)) bq.out ?_
     simp only[kR,kS,Ms.fill,kT,kV];iterate 9 refine ztk ?_
     ((first|refine zsa ?_|refine zse ?_))
     refine ztk ?_
    all_goals
     refine ah (by rfl) fun K J=>?_
     go_simp;refine J _ _ (fun h=>absurd h (by decide)) ?_
     clear J K;refine ah (by rfl) fun K J=>?_
     go_simp;refine J _ _ (fun h=>absurd h (by decide)) ?_
     clear J K;refine ax ?_;go_wp2_with fail
     go_roundw
     case rel=>
      refine⟨k+1,by omega,by go_num,?_,?_⟩
      ·rw[bS.out,List.map_set];exact aq (W:=wr.setCell ⟨g,k,none⟩ _) (a8.out.stored _ _).1 (kF _ _).drew
      ·exact bQ.out.trans ((KeepEx.setCell (p:=⟨g,k,none⟩) wr (.inl (by simp)) _).trans (KeepEx.of_below (kF _ _).drew))
     case measure=>simp[intOf];omega
   ·obtain rfl:k=y.now.length:=by omega
    obtain⟨cL,lL⟩:=bt.zc;have lR:=a2.lt;have cR:=a2.cells;have fR:=a2.free;have co:w.heap.size<g:=by have:=bb.out;omega
    have cl:w.heap.size<L:=by have:=bb.out;omega
    have ck:=BA.trans (a1.mono BA.size);clear Y av;go_wp2_with fail
    have c1:=(((((a2.mG 0 (.int .i64 y.s)).mG 1 (.int .i64 y.j)).mG 2 (.int .i64 y.i)).mG 3 (.slice (some ⟨g,0,none⟩) y.now.length O))).cells;refine bodyPost_ret (v:=.agg #[.int .i64 y.s,.int .i64 y.j,.int .i64 y.i,.slice (some ⟨g,0,none⟩) y.now.length O]) (by simp[results,results92,go_sem,c1]) rfl ?_
    refine⟨g,O,rfl,?_,zgr⟩
    have h1:=a8.out;rw[zaq ao.out,<-HY.out]at h1;have hz:=bb.out;exact aI (ownsRow_setCell_below (ownsRow_setCell_below (ownsRow_setCell_below (ownsRow_setCell_below h1 (by simp;omega) _) (by simp;omega) _) (by simp;omega) _) (by simp;omega) _) (by omega)
theorem TxAt.grows {w A c:World}{F:List Nat}{M:Nat}(B:Zr w A)(D:M∈F)(J:A.grownBy c (some M)):Grow w F c F:=
 ⟨(KeepEx.of_below B).trans (KeepEx.grown J B.size (fun k e=>by cases e;exact .inl D)),fun b I=>.inl I⟩
theorem z7I (T:Nat)(F:List Nat)(D:Nat)(y:TxS)(a k:Int)(d:ByteArray)(w:World)(h:TxAt w T F D y)(hE:y.mF=0)(ha:-9223372036854775808<=a/\a<=9223372036854775807)(b1:d.size<=1000000):
  Calls prog 35 #[.pointer (some ⟨T,0,none⟩),.int .i64 a,.int .i64 k,.string d] w (z9S w T F D (y.write a k d).1 (y.write a k d).2):=by
 obtain⟨wA,hA⟩:=zex (w.alloc (.cells #[.int .i64 0] 28));have bR:Blk wA w.heap.size 28 #[.int .i64 0]:=by rw[hA];exact zbn
 have BA:Zr w wA:=by rw[hA];exact zgr
 have bt:=h.below BA;have bu:=dz _ _ wA bt.st;rw[hE]at bu;have bD:=h.ok.bds;have HW:Hid (y.nD a k d.size=if (1<=a/\a<1+y.j)\/a=1+y.j then 2 else if (a<0\/y.s<=a)\/k<1\/255<k then 7 else if 96<d.size then 3 else if (bf y.writes a).isNone=true/\y.left<1 then 12 else 0):=kD rfl
 have HS:=kD hE;have A:w.heap.size∉F:=h.far (kE _);clear hE;go_enter_defers func35,ntmps35
 go_wp2_with fail
 rw[<-hA];go_wp2_with fail
 refine bu.mono ?_;rintro e w1 ⟨rfl,bn⟩;have bM:=bt.below bn;have bB:=bR.mD bn;have B1:=BA.trans (bn.mono BA.size);clear hA bu bn bR BA bt h;obtain⟨ok,⟨M,wv,nv,bT,hT,hM,bC,⟨E,bq,hO⟩,hw,hn⟩,lt⟩:=bM;have lk:=zcy bq hO (a:=a) ha;generalize hr:(bf y.writes a).getD zRec=r at lk;clear hr;obtain⟨ra,rk,rd⟩:=r;unfold recC at lk;simp only at lk
 have bF:w1.cell? ⟨T,17,none⟩=some (.map (some M)):=(bT.cells 17).trans rfl;have lT:=bT.lt;obtain⟨W,hW⟩:=zex (w1.alloc (.cells #[.int .i64 ra,.int .i64 rk,.string rd] 118));have J:Blk W w.heap.size 28 #[.int .i64 0]:=by rw[hW];exact bB.alloc _
 have av:Blk W T 148 (txC D y.s y.j y.i wv nv M y.changed y.broken y.ended):=by rw[hW];exact bT.alloc _
 have BW:Zr w W:=by rw[hW];exact B1.alloc B1.size _
 have bw:Zr w1 W:=by rw[hW];exact(kF _ _).alloc (kE _) _
 have ab:TxAt W T F D y:=TxAt.below ⟨ok,⟨M,wv,nv,bT,hT,hM,bC,⟨E,bq,hO⟩,hw,hn⟩,lt⟩ bw;clear ok hT hM bC bq hO hw hn lt;have d1:W.cell? ⟨T,1,none⟩=some (.int .i64 y.s):=(av.cells 1).trans rfl;have d2:W.cell? ⟨T,2,none⟩=some (.int .i64 y.j):=(av.cells 2).trans rfl;have d4:W.cell? ⟨T,4,none⟩=some (.int .i64 1):=(av.cells 4).trans rfl;have d5:W.cell? ⟨T,5,none⟩=some (.int .i64 (1+y.j)):=(av.cells 5).trans rfl;have b5:=av.lt;have b4:=J.lt;have b0:=J.free;have bX:=J.cells;go_wp2_with fail
 rw[<-hW];clear hW bF lT lk bB B1 bw bT;have b2:IntKind.i64.wrap (1+y.j)=1+y.j:=by rw[kW];omega
 have bA:=kD bD;clear bD;by_cases U:(1<=a/\a<1+y.j)\/a=1+y.j
 ·have V:Hid (y.write a k d=(2,y.brk)):=kD (TxS.oK HS.out (by rw[HW.out,if_pos U]) (by decide))
  have q1:decide (1<=a)=true:=by have:=bA.out;simp;omega
  rcases U with ⟨p1,U⟩|U
  focus
   have q2:decide (a<1+y.j)=true:=by simpa using U
   clear p1 U;go_quiet (fail)
  rotate_left;focus
   have q2:decide (a<1+y.j)=false:=by simp;omega
   have q3:(a==1+y.j)=true:=by simpa using U
   clear U;go_quiet (fail)
  all_goals
   go_wp2_with fail
   refine ec (E:=2) (F0:=F) ((ab.drewN _).mG (p:=⟨w.heap.size,0,none⟩) A _) ((J.drewN _).mG 0 (.int .i64 2)) A ((Grow.of_below (aa BW _) F).cellAt (kE _) _) (fun W' hc _=>eD (n:=8) (t:=28) (by rfl) (by simp) rfl hc) (fun W' c hg _=>?_)
   rw[TxS.nU (by decide) (by decide) (by decide)]at c
   exact⟨by rw[V.out],F,by rw[V.out];exact c,hg⟩
 have hq:(decide (1<=a)=false/\(a==1+y.j)=false)\/(decide (1<=a)=true/\decide (a<1+y.j)=false/\(a==1+y.j)=false):=by
  have:=bA.out
  rcases Int.lt_or_le a 1 with h1|h1
  ·exact .inl ⟨by simp;omega,by simp;omega⟩
  ·exact .inr ⟨by simpa using h1,by simp;omega,by simp;omega⟩
 by_cases p7:(a<0\/y.s<=a)\/k<1\/255<k
 ·have V:Hid (y.write a k d=(7,y.brk)):=kD (TxS.oK HS.out (by rw[HW.out,if_neg U,if_pos p7]) (by decide))
  have h7:(decide (a<0)=true)\/(decide (a<0)=false/\decide (y.s<=a)=true)\/(decide (a<0)=false/\decide (y.s<=a)=false/\decide (k<1)=true)\/(decide (a<0)=false/\decide (y.s<=a)=false/\decide (k<1)=false/\decide (255<k)=true):=by
   by_cases e1:a<0
   ·exact .inl (by simpa using e1)
   ·by_cases e2:y.s<=a
    ·exact .inr (.inl ⟨by simpa using e1,by simpa using e2⟩)
    ·by_cases e3:k<1
     ·exact .inr (.inr (.inl ⟨by simpa using e1,by simpa using e2,by simpa using e3⟩))
     ·exact .inr (.inr (.inr ⟨by simpa using e1,by simpa using e2,by simpa using e3,by simp;omega⟩))
  clear U p7;rcases hq with ⟨q1,q3⟩|⟨q1,q2,q3⟩<;>rcases h7 with g1|⟨g1,g2⟩|⟨g1,g2,g3⟩|⟨g1,g2,g3,g4⟩
  all_goals
   go_quiet (fail)
  all_goals
   go_wp2_with fail
   refine ec (E:=7) (F0:=F) ((ab.drewN _).mG (p:=⟨w.heap.size,0,none⟩) A _) ((J.drewN _).mG 0 (.int .i64 7)) A ((Grow.of_below (aa BW _) F).cellAt (kE _) _) (fun W' hc _=>eD (n:=8) (t:=28) (by rfl) (by simp) rfl hc) (fun W' c hg _=>?_)
   rw[TxS.nU (by decide) (by decide) (by decide)]at c
   exact⟨by rw[V.out],F,by rw[V.out];exact c,hg⟩
 have g1:decide (a<0)=false:=by simp;omega
 have g2:decide (y.s<=a)=false:=by simp;omega
 have g3:decide (k<1)=false:=by simp;omega
 have g4:decide (255<k)=false:=by simp;omega
 have HK:=kD p7;by_cases p3:96<d.size
 ·have V:Hid (y.write a k d=(3,y.brk)):=kD (TxS.oK HS.out (by rw[HW.out,if_neg U,if_neg p7,if_pos p3]) (by decide))
  have g5:(96:Int)<(d.size:Int):=by omega
  clear U p7 p3;rcases hq with ⟨q1,q3⟩|⟨q1,q2,q3⟩
  all_goals
   go_quiet (fail)
  all_goals
   go_wp2_with fail
   refine ec (E:=3) (F0:=F) ((ab.drewN _).mG (p:=⟨w.heap.size,0,none⟩) A _) ((J.drewN _).mG 0 (.int .i64 3)) A ((Grow.of_below (aa BW _) F).cellAt (kE _) _) (fun W' hc _=>eD (n:=8) (t:=28) (by rfl) (by simp) rfl hc) (fun W' c hg _=>?_)
   rw[TxS.nU (by decide) (by decide) (by decide)]at c
   exact⟨by rw[V.out],F,by rw[V.out];exact c,hg⟩
 have g5:¬(96:Int)<(d.size:Int):=by omega
 have h0:0<=a/\a<y.s/\1<=k/\k<=255/\d.data.size<=112:=⟨by omega,by omega,by omega,by omega,by show d.size<=112;omega⟩
 have H0:=kD h0;cases hs:bf y.writes a with
 | some r'=>
  have V:Hid (y.write a k d=(0,{ y with writes:=aJ y.writes ⟨a,k,d⟩ })):=kD (TxS.qc HS.out (by rw[HW.out,if_neg U,if_neg p7,if_neg p3,if_neg (by rw[hs];simp)]))
  have bp:Hid ((bf y.writes a).isSome=true\/1<=y.left):=kD (.inl (by rw[hs];rfl))
  have bO:(bf y.writes a).isSome=true:=by rw[hs];rfl
  clear U p7 p3 hs h0;rcases hq with ⟨q1,q3⟩|⟨q1,q2,q3⟩
  all_goals
   go_quiet (fail)
   rename_i nq
   obtain⟨W2,a8⟩:=zex (W.drewN nq);rw[<-a8];have a6:TxAt W2 T F D y:=by rw[a8];exact ab.drewN _
   have ac:Blk W2 w.heap.size 28 #[.int .i64 0]:=by rw[a8];exact J.drewN _
   have B2:Zr w W2:=by rw[a8];exact aa BW _
   clear a8 nq;obtain⟨ao,⟨M2,bU,bS,I,a7,K,Y,⟨E2,aL,a1⟩,bc,ba⟩,bk⟩:=a6;obtain⟨W3,bb,a2,S⟩:=a1.update gw underlying146 (by have:=ao.pG;simp only[maxLen];omega) (keyOf_int_mk underlying3 (z4w ha)) (z1n ⟨a,k,d⟩)
   have br:TxAt W3 T F D { y with writes:=aJ y.writes ⟨a,k,d⟩ }:=TxAt.puts (r:=⟨a,k,d⟩) ao I a7 K Y aL bc ba bk a2 S H0.out bp.out;have an:Blk W3 w.heap.size 28 #[.int .i64 0]:=ac.grown S (fun e=>A (by cases e;exact K))
   have G3:Grow w F W3 F:=TxAt.grows B2 K S;have bJ:W2.cell? ⟨T,17,none⟩=some (.map (some M2)):=(I.cells 17).trans rfl;have bK:W2.cell? ⟨T,1,none⟩=some (.int .i64 y.s):=(I.cells 1).trans rfl;have bQ:=I.lt;clear ao I a7 K Y aL a1 bc ba bk a2 S;unfold recC at bb;simp only at bb
   obtain⟨bG,bP⟩:=an.zc;have bL:=an.free;go_wp2_with fail
   refine ec (E:=0) (F0:=F) (br.mG (p:=⟨w.heap.size,0,none⟩) A _) (an.mG 0 (.int .i64 0)) A (G3.cellAt (kE _) _) (fun W' hc _=>eD (n:=8) (t:=28) (by rfl) (by simp) rfl hc) (fun W' c hg _=>?_)
   rw[TxS.oQ]at c;exact⟨by rw[V.out],F,by rw[V.out];exact c,hg⟩
 | none=>
  have bO:(bf y.writes a).isSome=false:=by rw[hs];rfl
  have hN:(bf y.writes a).isNone=true:=by rw[hs];rfl
  by_cases pl:y.left<1
  ·have V:Hid (y.write a k d=(12,y.brk)):=kD (TxS.oK HS.out (by rw[HW.out,if_neg U,if_neg p7,if_neg p3,if_pos ⟨hN,pl⟩]) (by decide))
   have bN:decide (y.left<1)=true:=by simpa using pl
   clear U p7 p3 hs h0 hN;rcases hq with ⟨q1,q3⟩|⟨q1,q2,q3⟩
   all_goals
    go_quiet (fail)
   all_goals
    go_wp2_with fail
    refine(z2J T F D y _ (ab.drewN _)).mono ?_;rintro e W2 ⟨rfl,O⟩;have a6:=(ab.drewN _).below O;have ac:=(J.drewN _).mD O;have B2:=(aa BW _).trans (O.mono (aa BW _).size);clear O;obtain⟨bW,b3⟩:=ac.zc;have bZ:=ac.free;go_wp2_with fail
    refine ec (E:=12) (F0:=F) (a6.mG (p:=⟨w.heap.size,0,none⟩) A _) (ac.mG 0 (.int .i64 12)) A ((Grow.of_below B2 F).cellAt (kE _) _) (fun W' hc _=>eD (n:=8) (t:=28) (by rfl) (by simp) rfl hc) (fun W' c hg _=>?_)
    rw[TxS.nU (by decide) (by decide) (by decide)]at c
    exact⟨by rw[V.out],F,by rw[V.out];exact c,hg⟩
  ·have V:Hid (y.write a k d=(0,{ y with writes:=aJ y.writes ⟨a,k,d⟩ })):=kD (TxS.qc HS.out (by rw[HW.out,if_neg U,if_neg p7,if_neg p3,if_neg (fun hh=>pl hh.2)]))
   have bN:decide (y.left<1)=false:=by simpa using pl
   have bp:Hid ((bf y.writes a).isSome=true\/1<=y.left):=kD (.inr (by omega))
   clear U p7 p3 hs h0 hN pl;rcases hq with ⟨q1,q3⟩|⟨q1,q2,q3⟩
   all_goals
    go_quiet (fail)
   all_goals
    go_wp2_with fail
    refine(z2J T F D y _ (ab.drewN _)).mono ?_;rintro e W2 ⟨rfl,O⟩;have a6:=(ab.drewN _).below O;have ac:=(J.drewN _).mD O;have B2:=(aa BW _).trans (O.mono (aa BW _).size);clear O;obtain⟨ao,⟨M2,bU,bS,I,a7,K,Y,⟨E2,aL,a1⟩,bc,ba⟩,bk⟩:=a6;obtain⟨W3,bb,a2,S⟩:=a1.update gw underlying146 (by have:=ao.pG;simp only[maxLen];omega) (keyOf_int_mk underlying3 (z4w ha)) (z1n ⟨a,k,d⟩)
    have br:TxAt W3 T F D { y with writes:=aJ y.writes ⟨a,k,d⟩ }:=TxAt.puts (r:=⟨a,k,d⟩) ao I a7 K Y aL bc ba bk a2 S H0.out bp.out;have an:Blk W3 w.heap.size 28 #[.int .i64 0]:=ac.grown S (fun e=>A (by cases e;exact K))
    have G3:Grow w F W3 F:=TxAt.grows B2 K S;have bJ:W2.cell? ⟨T,17,none⟩=some (.map (some M2)):=(I.cells 17).trans rfl;have bK:W2.cell? ⟨T,1,none⟩=some (.int .i64 y.s):=(I.cells 1).trans rfl;have bQ:=I.lt;clear ao I a7 K Y aL a1 bc ba bk a2 S;unfold recC at bb;simp only at bb
    obtain⟨bG,bP⟩:=an.zc;have bL:=an.free;go_wp2_with fail
    refine ec (E:=0) (F0:=F) (br.mG (p:=⟨w.heap.size,0,none⟩) A _) (an.mG 0 (.int .i64 0)) A (G3.cellAt (kE _) _) (fun W' hc _=>eD (n:=8) (t:=28) (by rfl) (by simp) rfl hc) (fun W' c hg _=>?_)
    rw[TxS.oQ]at c;exact⟨by rw[V.out],F,by rw[V.out];exact c,hg⟩
theorem zaY (T:Nat)(F:List Nat)(D:Nat)(y:TxS)(a k:Int)(d:ByteArray)(w:World)(h:TxAt w T F D y)(J:-9223372036854775808<=a/\a<=9223372036854775807)(A:d.size<=1000000):
  Calls prog 35 #[.pointer (some ⟨T,0,none⟩),.int .i64 a,.int .i64 k,.string d] w (z9S w T F D (y.write a k d).1 (y.write a k d).2):=by
 by_cases c:y.mF=0
 ·exact z7I T F D y a k d w h c J A
 ·refine(z5B _ _ a k d w h.st c).mono ?_;rintro e K ⟨rfl,I⟩;unfold TxS.write;rw[if_pos (by simpa using c)]
  exact⟨rfl,F,h.below I,Grow.of_below I F⟩
theorem z9O (n:Nat)(l:List Int)(k:Nat):LsE n l k=0\/LsE n l k=7\/LsE n l k=8:=by
 induction k with
 | zero=>exact .inl rfl
 | succ k ih=>
  unfold LsE;split
  ·unfold iv;split
   ·exact .inr (.inl rfl)
   ·split
    ·exact .inr (.inr rfl)
    ·exact .inl rfl
  ·exact ih
theorem z9R {s j i:Int}{us:List Bool}{l:List Int}{u:Bool}{al:Int}(c:CkE s j i us.length=0):TnE s j i us l u al=0\/TnE s j i us l u al=7\/TnE s j i us l u al=8\/TnE s j i us l u al=al:=by
 unfold TnE;rw[if_pos c];split
 ·split
  ·exact .inr (.inr (.inr rfl))
  ·exact .inl rfl
 ·rcases z9O us.length l l.length with h|h|h
  ·exact .inl h
  ·exact .inr (.inl h)
  ·exact .inr (.inr (.inl h))
theorem z0c (y:TxS)(n:Nat):y.mP n=0\/(y.mP n=12/\∀us,y.change us n=y):=by
 unfold TxS.mP TxS.change;split
 ·exact .inl rfl
 ·split
  ·exact .inr ⟨rfl,fun _=>rfl⟩
  ·exact .inl rfl
theorem kw {y:TxS}(h:y.Ok):CkE y.s y.j y.i y.now.length=0:=by rw[h.now];exact z2v h.rg
theorem zcv {y:TxS}{l:List Int}(c:y.mF=0)(h:TnE y.s y.j y.i y.now l false 4≠0):y.free l=(TnE y.s y.j y.i y.now l false 4,y.brk):=by
 have e:y.nY l=TnE y.s y.j y.i y.now l false 4:=by unfold TxS.nY;rw[if_pos h]
 unfold TxS.free;rw[if_neg (by simpa using c),e,if_pos h]
theorem zcw {y:TxS}{l:List Int}(A:y.mF=0)(h:TnE y.s y.j y.i y.now l false 4=0):y.free l=(y.mP l.length,(y.change (bg y.now l false) l.length).after (y.mP l.length)):=by
 have e:y.nY l=y.mP l.length:=by unfold TxS.nY;rw[if_neg (by simpa using h)]
 unfold TxS.free;rw[if_neg (by simpa using A),e]
 rcases z0c y l.length with h|⟨h,c⟩
 ·rw[if_neg (by simpa using h),h,TxS.oQ]
 ·rw[if_pos (by rw[h];decide),h,c,TxS.nU (by decide) (by decide) (by decide)]
theorem z7F (K sv:Value)(E:Int)(w:World)(h:StE w K E)(S:E≠0):
  Calls prog 40 #[K,sv] w fun e Y=>e=.returned (.int .i64 E)/\Zr w Y:=by
 obtain⟨M,J⟩:=zex (w.alloc (.cells #[.int .i64 0] 28));have O:Blk M w.heap.size 28 #[.int .i64 0]:=by rw[J];exact zbn
 have I:Zr w M:=by rw[J];exact zgr
 have D:=dz K E M (h.below I);have V:(E != 0)=true:=by simpa using S
 clear S;go_enter_defers func40,ntmps40
 go_wp2_with fail
 rw[<-J];go_wp2_with fail
 refine D.mono ?_;rintro e w1 ⟨rfl,A⟩;have T:=I.trans (A.mono I.size);have c:=O.mD A;clear J D A O I;obtain⟨cR,lR⟩:=c.zc;have fR:=c.free;go_wp2_with fail
 have U:=(c.mG 0 (.int .i64 E)).cells;refine⟨.int .i64 E,eD (n:=4) (t:=28) (by rfl) (by simp) rfl ((U 0).trans rfl),rfl,?_⟩
 exact kG (p:=⟨w.heap.size,0,none⟩) T (kE _) _
theorem z9G (T:Nat)(F:List Nat)(D:Nat)(y:TxS)(Bl:Option Addr)(cb:Nat)(l:List Int)(hl:l.length<=1000)(w:World)(h:TxAt w T F D y)(hE:y.mF=0)(hB:Reads w Bl (l.map (.int .i64))):
  Calls prog 40 #[.pointer (some ⟨T,0,none⟩),.slice Bl l.length cb] w (z9S w T F D (y.free l).1 (y.free l).2):=by
 obtain⟨wA,hA⟩:=zex (w.alloc (.cells #[.int .i64 0] 28));have bR:Blk wA w.heap.size 28 #[.int .i64 0]:=by rw[hA];exact zbn
 have BA:Zr w wA:=by rw[hA];exact zgr
 have a7:=h.below BA;have ba:=dz _ _ wA a7.st;rw[hE]at ba;have HS:=kD hE;have S:w.heap.size∉F:=h.far (kE _);have H0:Hid (0<w.heap.size):=kD (by have:=h.lt T h.TF;omega)
 clear hE;go_enter_defers func40,ntmps40
 go_wp2_with fail
 rw[<-hA];go_wp2_with fail
 refine ba.mono ?_;rintro e w1 ⟨rfl,ao⟩;have V:=a7.below ao;have ac:=bR.mD ao;have B1:=BA.trans (ao.mono BA.size);have bc:=hB.below B1;clear hA ba ao bR BA a7 h hB;have bt:=kD (kw V.ok);have b6:=V.ok.bds;have bu:Hid (y.now.length<=1000):=kD (by omega)
 have bP:=V;obtain⟨ok,⟨M,wv,nv,bT,hT,hM,bL,hO,hw,⟨A,c,rfl,hn,bS⟩⟩,lt⟩:=bP;have bC:w1.cell? ⟨T,13,none⟩=some (.int .i64 y.s):=(bT.cells 13).trans rfl;have bD:w1.cell? ⟨T,14,none⟩=some (.int .i64 y.j):=(bT.cells 14).trans rfl;have bF:w1.cell? ⟨T,15,none⟩=some (.int .i64 y.i):=(bT.cells 15).trans rfl;have bG:w1.cell? ⟨T,16,none⟩=some (.slice A y.now.length c):=(bT.cells 16).trans rfl;have lT:=bT.lt;clear bT hT hM bL hO hw bS lt ok;go_wp2_with fail
 refine(z8A y.s y.j y.i A Bl c cb y.now l bu.out hl w1 hn bc).mono ?_;rintro e w2 ⟨av,a8⟩;have bn:=V.below av;have O:=ac.mD av;have B2:=B1.trans (av.mono B1.size);have b4:=bc.below av;clear bC bD bF bG lT hn;rcases a8 with ⟨aL,rfl⟩|⟨h0,g,J,rfl,Y⟩
 ·have HX:=kD (zcv HS.out aL);have HV:=kD (z9R (l:=l) (u:=false) (al:=4) bt.out);have HN:=kD aL;generalize TnE y.s y.j y.i y.now l false 4=E at *;have b5:(E != 0)=true:=by simpa using aL
  clear aL;have bO:=(((bn.mG (p:=⟨w.heap.size,0,none⟩) S (.int .i64 E)).mG (p:=⟨w.heap.size,0,none⟩) S (.int .i64 E))).alloc (.cells #[.int .i64 y.s,.int .i64 y.j,.int .i64 y.i,.slice A y.now.length c] 47);have bA:=((O.mG 0 (.int .i64 E)).mG 0 (.int .i64 E)).alloc (.cells #[.int .i64 y.s,.int .i64 y.j,.int .i64 y.i,.slice A y.now.length c] 47);have BS:=((B2.setCell (p:=⟨w.heap.size,0,none⟩) (kE _) (.int .i64 E)).setCell (p:=⟨w.heap.size,0,none⟩) (kE _) (.int .i64 E)).alloc (by simpa using B2.size) (.cells #[.int .i64 y.s,.int .i64 y.j,.int .i64 y.i,.slice A y.now.length c] 47)
  obtain⟨bJ,bU⟩:=O.zc;have bK:=O.free;go_wp2_with fail
  refine ec (E:=E) (F0:=F) bO bA S (Grow.of_below BS F) (fun W' hc _=>eD (n:=4) (t:=28) (by rfl) (by simp) rfl hc) (fun W' an hg _=>?_)
  rw[TxS.nU HN.out (by have:=HV.out;omega) (by have:=HV.out;omega)]at an
  exact⟨by rw[HX.out],F,by rw[HX.out];exact an,hg⟩
 ·have HX:=kD (zcw HS.out h0);clear h0;have ab:=cH y.now l false;generalize bg y.now l false=us at *;have b7:=Y.lt g rfl;have bQ:g∉F:=fun hm=>by have:=(V.lt g hm).2;omega
  obtain⟨w3,K⟩:=zex (w2.setCell ⟨w.heap.size,0,none⟩ (.int .i64 0));have bp:TxAt w3 T F D y:=by rw[K];exact bn.mG (p:=⟨w.heap.size,0,none⟩) S _
  have bb:Blk w3 w.heap.size 28 #[.int .i64 0]:=by rw[K];exact O.mG 0 _
  have B3:Zr w w3:=by rw[K];exact B2.setCell (p:=⟨w.heap.size,0,none⟩) (kE _) _
  have bq:w3.ownsRow w1.heap.size 4 1 (.slice (some ⟨g,0,none⟩) y.now.length J) y.now.length (us.map .bool):=by rw[K];exact ownsRow_setCell_below Y (by have:=ac.lt;exact this) _
  have z3:w3.heap.size=w2.heap.size:=by rw[K];simp
  obtain⟨w4,I⟩:=zex (w3.alloc (.cells #[.int .i64 y.s,.int .i64 y.j,.int .i64 y.i,.slice (some ⟨g,0,none⟩) y.now.length J] 47));have bM:TxAt w4 T F D y:=by rw[I];exact bp.alloc _
  have a2:Blk w4 w.heap.size 28 #[.int .i64 0]:=by rw[I];exact bb.alloc _
  have bB:Blk w4 w2.heap.size 47 #[.int .i64 y.s,.int .i64 y.j,.int .i64 y.i,.slice (some ⟨g,0,none⟩) y.now.length J]:=by rw[I,<-z3];exact zbn
  have B4:Zr w w4:=by rw[I];exact B3.alloc B3.size _
  have br:w4.ownsRow w1.heap.size 4 1 (.slice (some ⟨g,0,none⟩) y.now.length J) y.now.length (us.map .bool):=by rw[I];exact aq (W:=w3) bq ((kF _ _).alloc (kE _) _)
  obtain⟨bJ,bU⟩:=O.zc;have bK:=O.free;have g0:0<g:=by have:=H0.out;have:=ac.lt;omega
  rw[K]at I;have bw:=kD I;clear z3 K bq B3 bb bp I;obtain⟨b1,b9⟩:=bB.zc;have HC:Calls prog 97 #[.pointer (some ⟨T,0,none⟩),.agg #[.int .i64 y.s,.int .i64 y.j,.int .i64 y.i,.slice (some ⟨g,0,none⟩) y.now.length J],.slice Bl l.length cb] w4 fun e w'=>e=.returned (.int .i64 (y.mP l.length))/\∃F',TxAt w' T F' D (y.change us l.length)/\KeepEx w4.heap.size F w4 w'/\∀b∈F',b∈F\/b=g:=by
   have h:=z3J T F D y g J l.length cb Bl us ab w4 bM (Reads.ng (n:=us.length) (c:=J) (by rw[ab];exact br)) g0 bQ
   rwa [ab]at h
  have bX:=kD ab;clear ab br Y;go_wp2_with fail
  rw[<-bw.out];obtain⟨bZ,bW⟩:=a2.zc;have b2:=a2.free;go_wp2_with fail
  refine HC.mono ?_;rintro e w5 ⟨rfl,F',bN,U,bk⟩;have z4:=B4.size;have a6:Blk w5 w.heap.size 28 #[.int .i64 0]:=U.blk a2 bW S;have a1:w.heap.size∉F':=fun hm=>by
   rcases bk _ hm with hm|hm
   ·exact S hm
   ·have:=ac.lt;omega
  have G5:Grow w F w5 F':=⟨(KeepEx.of_below B4).trans ⟨U.os,U.tape,U.output,U.size,fun b hb hn=>U.block b (by omega) hn⟩,fun b hb=>by
   rcases bk b hb with hm|hm
   ·exact .inl hm
   ·have:=B1.size;exact .inr (by omega)⟩
  generalize y.mP l.length=E at *;obtain⟨b0,b8⟩:=a6.zc;have b3:=a6.free;go_wp2_with fail
  refine ec (E:=E) (F0:=F) (bN.mG (p:=⟨w.heap.size,0,none⟩) a1 (.int .i64 E)) (a6.mG 0 (.int .i64 E)) a1 (G5.cellAt (kE _) _) (fun W' hc _=>eD (n:=4) (t:=28) (by rfl) (by simp) rfl hc) (fun W' an hg _=>?_)
  exact⟨by rw[HX.out],F',by rw[HX.out];exact an,hg⟩
end Go.Proofs.YtejmknghkbobnaaGreatDoor
