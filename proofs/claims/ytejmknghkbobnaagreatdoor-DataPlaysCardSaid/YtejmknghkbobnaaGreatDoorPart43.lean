import Derived.Test.YtejmknghkbobnaaGreatDoorPart42
set_option linter.all false
set_option maxRecDepth 100000
set_option maxHeartbeats 0
namespace Go.Proofs.YtejmknghkbobnaaGreatDoor
open Go.Proofs.Tryz
open Go.RowKit Go.Maps
def Far (G:List Nat)(b:Nat):Prop:=b∉G
theorem RTx.grow {w w':World}{G A:List Nat}{x:DevS}{y:TxS}{tv:Array Value}(h:RTx w (Far G) x y tv)(g:Grow w G w' A):RTx w' (Far A) x y tv:=
 ((h.mono (Q:=fun b=>Far G b/\Far A b) fun _ c I=>⟨c,g.og c I⟩).frame (fun b J K=>g.keep.block b K J.1) g.keep.size).mono fun _ c _=>c.2
theorem Grow.qG {w w':World}{B A:List Nat}(h:Grow w B w' A)(g:Nat):Grow w (g::B) w' (g::A):=
 ⟨⟨h.keep.os,h.keep.tape,h.keep.output,h.keep.size,fun k I K=>h.keep.block k I fun J=>K (ly _ J)⟩,fun b c=>by
  rcases lp.1 c with e|c
  ·exact .inl (by rw[e];exact me ..)
  ·exact(h.new b c).imp (ly _) id⟩
structure Bk (w:World)(F B:List Nat)(N7:Nat)(ls:Nat->List Int)(zs:Nat->Int)(As:Nat->Option Addr)(cs:Nat->Nat):Prop where
 b7:Blk w N7 75 (aK (dD As cs ls 0) (dD As cs ls 1) (dD As cs ls 2) (zs 0) (zs 1))
 f7:N7∉F
 d7:N7∉B
 kp:∀k,k<3->Keeps w F (As k) (cs k) (ls k)
 k7:∀k a,k<3->As k=some a->a.block≠N7
 ln:∀k,k<3->(ls k).length<=1000
 zs:∀k,k<2->0<=zs k/\zs k<=10000
structure Pq (w0 w:World)(T D N7 NT:Nat)(B:List Nat)(x:DevS)(F:List Nat)(y:TxS)(tv:Array Value)(ls:Nat->List Int)(zs:Nat->Int)(As:Nat->Option Addr)(cs:Nat->Nat):Prop where
 run:Run w0 w T F D y B x
 bk:Bk w F B N7 ls zs As cs
 rt:RTx w (Far (N7::NT::F)) x y tv
 bt:Blk w NT 50 tv
 ft:NT∉F
 kt:∀k a,k<3->As k=some a->a.block≠NT
 clean:y.Clean
section
variable {w0 w w':World}{T D N7 NT:Nat}{B F F':List Nat}{x:DevS}{y:TxS}{tv:Array Value}{ls:Nat->List Int}{zs:Nat->Int}{As:Nat->Option Addr}{cs:Nat->Nat}
theorem Bk.grow (h:Bk w F B N7 ls zs As cs)(g:Grow w F w' F'):Bk w' F' B N7 ls zs As cs:=
 ⟨g.blk h.b7 h.f7,g.og h.f7 h.b7.lt,h.d7,fun k c=>(h.kp k c).grow g,h.k7,h.ln,h.zs⟩
theorem Bk.below (h:Bk w F B N7 ls zs As cs)(c:Zr w w'):Bk w' F B N7 ls zs As cs:=h.grow (Grow.of_below c F)
theorem Bk.book (h:Bk w F B N7 ls zs As cs){A:Nat->List Int}{I:Nat->Int}{c:Nat->Option Addr}{cs':Nat->Nat}(O:∀k,k<3->Keeps w F (c k) (cs' k) (A k))(K:∀k a,k<3->c k=some a->a.block≠N7)(S:∀k,k<3->(A k).length<=1000)(M:∀k,k<2->0<=I k/\I k<=10000):
  Bk (w.setRow N7 (aK (dD c cs' A 0) (dD c cs' A 1) (dD c cs' A 2) (I 0) (I 1))) F B N7 A I c cs':=
 ⟨h.b7.setRow,h.f7,h.d7,fun k J=>(O k J).row (fun a e=>K k a J e) _,K,S,M⟩
theorem Bk.row (h:Bk w F B N7 ls zs As cs){g:Nat}(I:N7≠g)(J:∀k a,k<3->As k=some a->a.block≠g)(c:Array Value):Bk (w.setRow g c) F B N7 ls zs As cs:=
 ⟨h.b7.mO I,h.f7,h.d7,fun k A=>(h.kp k A).row (fun a e=>J k a A e) _,h.k7,h.ln,h.zs⟩
theorem Pq.below (h:Pq w0 w T D N7 NT B x F y tv ls zs As cs)(c:Zr w w'):Pq w0 w' T D N7 NT B x F y tv ls zs As cs:=
 ⟨h.run.below c,h.bk.below c,h.rt.below c,h.bt.mD c,h.ft,h.kt,h.clean⟩
end
theorem z2x (jn O:Int)(fn:0<=jn/\jn<=255)(fk:0<=O/\O<=255)(A:Option Addr)(c:Nat)(xs:List ActV)(hl:xs.length<=maxLen)(w:World)(g6:∀a∈xs,ActOk w a)(hH:HalfAt w)(hR:Reads w A (xs.flatMap actL)):
  Calls prog 4 #[.agg #[.int .u8 jn,.int .u8 O],.slice A xs.length c] w (Zq (.bool true) w):=by
 have cp:=hH.1;have HH:=kD hH;have hW:=kD g6;have HR:=kD hR;obtain⟨wA,hA⟩:=zex (w.alloc (.cells #[.int .u8 jn,.int .u8 O] 65));have bA:Blk wA w.heap.size 65 #[.int .u8 jn,.int .u8 O]:=by rw[hA];exact zbn
 have BA:Zr w wA:=by rw[hA];exact(kF _ _).alloc (kE _) _
 have f1:=zbt A c xs hl wA (hR.below BA);unfold maxLen at hl;clear hH g6 hR;go_enter func4,ntmps4
 go_wp2_with fail
 rw[<-hA];clear hA;refine f1.mono ?_;rintro e w1 ⟨rfl,e8⟩;have B1:=BA.trans (e8.mono BA.size);have b1:=bA.mD e8;clear f1 bA BA e8;by_cases ci:farB xs=true
 ·rw[ci];have e7:Calls prog 22 #[] w1 ((Zq (.bool true) w1)):=z3C w1 (HH.out.below B1 cp)
  go_wp2_with fail
  refine e7.mono ?_;rintro e w2 ⟨rfl,cg⟩;go_wp2_with fail
  go_ret
  exact⟨rfl,B1.trans (cg.mono B1.size)⟩
 have bb:farB xs=false:=by simpa using ci
 rw[bb];have f4:∀a∈xs,bigA a=false:=by
  unfold farB at bb;simp only[Bool.or_eq_false_iff,decide_eq_false_iff_not]at bb;exact fun a ha=>by simpa using List.any_eq_false.1 bb.2 a ha
 have HB:=kD f4;clear ci bb f4;have cS:=z8I jn O;obtain⟨y,hy,hF⟩:=z0h cS 1000000 (by omega)
 obtain⟨c1,l1⟩:=b1.zc;go_wp2_with fail
 refine(z23 jn O fn fk w1).mono ?_;rintro e w2 ⟨rfl,cg⟩;have B2:=B1.trans (cg.mono B1.size);have b2:=b1.mD cg;have gg:Calls prog 23 #[.agg #[.int .i64 64,.int .i64 (8+jn % 21),.int .i64 (1+O % 26)]] w2 (z7P y w2 64 (8+jn % 21) (1+O % 26)):=z0a 64 (8+jn % 21) (1+O % 26) cS hy hF w2 (HH.out.below B2 cp);clear c1 l1 b1 B1 cg;go_wp2_with fail
 refine gg.mono ?_;rintro e w3 ⟨D,T,F0,B,rfl,-,ht,e9,e3,hB⟩;have B3:=B2.trans (e9.mono B2.size);have b3:=b2.mD e9;obtain⟨c3,l3⟩:=b3.zc;have r3:Run w w3 T F0 D (ff 64 (8+jn % 21) (1+O % 26)) B y:=⟨ht,B3,fun b hb=>kO B2.size (e3 b hb)⟩
 have hQ:=kD e3;have hO:=kD hB;clear gg ht e9 b2 B2 e3 hB;go_wp2_with fail
 refine(z23 jn O fn fk w3).mono ?_;rintro e w4 ⟨rfl,f3⟩;have r4:=r3.below f3;have g7:Calls prog 25 #[.agg #[.int .i64 64,.int .i64 (8+jn % 21),.int .i64 (1+O % 26)]] w4 fun e w'=>∃tv,e=.returned (.agg tv)/\RTx w' (Far F0) y (ff 64 (8+jn % 21) (1+O % 26)) tv/\y.Calm/\Zr w4 w':=zbJ 64 (8+jn % 21) (1+O % 26) cS hy hF (Far F0) w4 (fun b hb hm=>by have:=r4.flt b hm;omega)
 clear r3 f3 c3 l3 b3;go_wp2_with fail
 refine g7.mono ?_;rintro e w5 ⟨cX,rfl,cR,fc,a6⟩;obtain⟨NT,e6⟩:=zex w5.heap.size;obtain⟨W6,cN⟩:=zex (World.setRow (w5.alloc (.cells txZ 50)) w5.heap.size cX);have d6:=aR (Blk.new w5 50 txZ) rfl cR.size cR.one;have b6:Blk W6 NT 50 cX:=by rw[cN,e6];exact Blk.setRow (Blk.new _ _ _)
 have fa:Zr w5 W6:=by rw[cN];exact Below.setRow ((kF _ _).alloc (kE _) _) (kE _) _
 have r6:=(r4.below a6).below fa;have d1:=(r4.below a6).flt;have dT:=(r4.below a6).blt;have gV:=(r4.below a6).bl.size;have iD:NT<W6.heap.size:=b6.lt;obtain⟨W7,cP⟩:=zex (W6.alloc (.cells (aK (.slice none 0 0) (.slice none 0 0) (.slice none 0 0) 0 0) 75));obtain⟨N7,e5⟩:=zex W6.heap.size;have cL:Zr W6 W7:=by rw[cP];exact(kF _ _).alloc (kE _) _
 have fR:w.heap.size<=NT:=by omega
 have fO:w.heap.size<=N7:=by omega
 have fQ:NT∉B:=fun hm=>by have:=dT _ hm;omega
 have gA:(ff 64 (8+jn % 21) (1+O % 26)).Clean:=z3S (by omega)
 have f0:NT≠N7:=by omega
 have hP:∀b,Far F0 b->b<w5.heap.size->Far (N7::NT::F0) b:=fun b hb cQ hm=>by
  rcases lp.1 hm with e|hm
  ·omega
  ·rcases lp.1 hm with e|hm
   ·omega
   ·exact hb hm
 have p7:Pq w W7 T D N7 NT B y F0 (ff 64 (8+jn % 21) (1+O % 26)) cX (fun _=>[]) (fun _=>0) (fun _=>none) (fun _=>0):=
  ⟨r6.below cL,⟨by rw[cP,e5];exact zbn,fun hm=>by have:=r6.flt _ hm;omega,fun hm=>by have:=r6.blt _ hm;omega,fun k _=>⟨z9A _,fun a h=>by cases h⟩,fun k a _ h=>(by cases h),fun k _=>by simp,fun k _=>by omega⟩,((cR.mono hP).below fa).below cL,b6.mD cL,fun hm=>by have:=d1 _ hm;omega,fun k a _ h=>(by cases h),gA⟩
 generalize ff 64 (8+jn % 21) (1+O % 26)=y0 at *;have fK:=kD cP;have H7:=kD e5;have fD:=kD e6;clear r4 a6 cR fa r6 d1 dT gV iD cL gA hP cP e5 hy hF cS b6 hQ hO B3 fn fk;go_upto_region 5 with (refine zsb d6 ?_)
 rw[<-cN];clear d6 cN;go_wp2_with fail
 rw[<-fK.out,<-H7.out,<-fD.out];clear fK H7 g7 e6 fD;go_loopw [9] (fun q wr=>∃k:Nat,∃F z tv ls zs As cs,k<=xs.length/\q=.int .i64 k/\Pq w wr T D N7 NT B y F z tv ls zs As cs) (fun q _=>xs.length - (RowKit.intOf q).toNat)
 case atStart=>exact⟨0,F0,y0,cX,_,_,_,_,kP _,rfl,p7⟩
 case round=>
  obtain⟨k,F,z,tv,ls,zs,As,cs,hk,rfl,hr⟩:=hrel;clear p7;by_cases cQ:k<xs.length
  ·obtain⟨Y,ao,rfl,-⟩:=z4z (HR.out.below hr.run.bl) cQ;have gs:=z6k HR.out cQ;have hm:=li cQ;have bP:=hW.out _ hm;have bO:=HB.out _ hm;generalize xs[k]=I at *;have g5:∀V,Zr wr V->Calls prog 26 #[.agg #[.int .u8 I.wh,.int .u8 I.f,.int .i64 I.kd,.int .i64 I.off,.int .i64 I.n,.int .i64 I.size,.slice I.A I.m I.c,.string I.s],.agg #[dD As cs ls 0,dD As cs ls 1,dD As cs ls 2,.int .i64 (zs 0),.int .i64 (zs 1)]] V (z3u wr.heap.size V F I.s):=fun V hV=>zcD bP hr.run.bl hr.run.fl bO ls zs As cs hr.bk.zs hr.bk.kp hr.bk.ln V hV
   have ie:I.s.size<=900:=by unfold bigA at bO;simp at bO;omega
   have ex:=kD g5;have fB:=kD gs;have ey:=kD (And.intro bP.wh bP.f);clear gs hm bP g5 bO;have g9:∀V,Zr w V->Blk V N7 75 (aK (dD As cs ls 0) (dD As cs ls 1) (dD As cs ls 2) (zs 0) (zs 1))->(fun W=>W.cell? ⟨Y,ao+k*8,none⟩=some (.int .u8 I.wh)/\W.cell? ⟨Y,ao+k*8+1,none⟩=some (.int .u8 I.f)/\W.cell? ⟨Y,ao+k*8+2,none⟩=some (.int .i64 I.kd)/\W.cell? ⟨Y,ao+k*8+3,none⟩=some (.int .i64 I.off)/\W.cell? ⟨Y,ao+k*8+4,none⟩=some (.int .i64 I.n)/\W.cell? ⟨Y,ao+k*8+5,none⟩=some (.int .i64 I.size)/\W.cell? ⟨Y,ao+k*8+6,none⟩=some (.slice I.A I.m I.c)/\W.cell? ⟨Y,ao+k*8+7,none⟩=some (.string I.s)/\W.cell? ⟨N7,0,none⟩=some (dD As cs ls 0)/\W.cell? ⟨N7,1,none⟩=some (dD As cs ls 1)/\W.cell? ⟨N7,2,none⟩=some (dD As cs ls 2)/\W.cell? ⟨N7,3,none⟩=some (.int .i64 (zs 0))/\W.cell? ⟨N7,4,none⟩=some (.int .i64 (zs 1))) V:=fun V hb b=>by
    obtain⟨q0,q1,q2,q3,q4,q5,q6,q7⟩:=fB.out V hb;exact⟨q0,q1,q2,q3,q4,q5,q6,q7,(b.cells 0).trans rfl,(b.cells 1).trans rfl,(b.cells 2).trans rfl,(b.cells 3).trans rfl,(b.cells 4).trans rfl⟩
   have bS:=kD g9;have bN:w.heap.size<=wr.heap.size:=hr.run.bl.size;have bD:=kD hr.run.bl;have bT:=kD hr.bk.b7;clear g9;generalize ea:I.wh=wh at *;generalize gF:I.f=f at *;generalize d2:I.kd=kd at *;generalize cm:I.off=off at *;generalize g4:I.n=n at *;generalize d8:I.size=size at *;generalize fN:I.A=LA at *;generalize g3:I.m=lm at *;generalize gm:I.c=lc at *;generalize d3:I.s=s at *;have hN:=kD (And.intro ea (And.intro gF (And.intro d2 (And.intro cm (And.intro g4 (And.intro d8 (And.intro fN (And.intro g3 (And.intro gm d3)))))))));clear ea gF d2 cm g4 d8 fN g3 gm d3;go_upto_region 11 with fail
   go_cut [10]from 34 to 73 (fun s10 wx=>∃C cw ck cz co cn ca M,∃L:List Int,∃P pn pc m0,s10=.pointer (some ⟨C,0,none⟩)/\Zr wr wx/\wr.heap.size<=C/\Blk wx C 78 (az cw ck cz co cn (.slice ca L.length M) s (.slice P pn pc))/\wr.heap.size<=m0/\OfAny wr.heap.size m0 wx F cw cz co cn ca M L P pn)
   case first=>
    as_aux_lemma=>
     clear hr ie ey;refine zrm [.take 0,.take 1,.take 2,.take 3,.take 4,.par 6 [5],.one 7] 7 (fun W=>W.cell? ⟨Y,ao+k*8,none⟩=some (.int .u8 wh)/\W.cell? ⟨Y,ao+k*8+1,none⟩=some (.int .u8 f)/\W.cell? ⟨Y,ao+k*8+2,none⟩=some (.int .i64 kd)/\W.cell? ⟨Y,ao+k*8+3,none⟩=some (.int .i64 off)/\W.cell? ⟨Y,ao+k*8+4,none⟩=some (.int .i64 n)/\W.cell? ⟨Y,ao+k*8+5,none⟩=some (.int .i64 size)/\W.cell? ⟨Y,ao+k*8+6,none⟩=some (.slice LA lm lc)/\W.cell? ⟨Y,ao+k*8+7,none⟩=some (.string s)/\W.cell? ⟨N7,0,none⟩=some (dD As cs ls 0)/\W.cell? ⟨N7,1,none⟩=some (dD As cs ls 1)/\W.cell? ⟨N7,2,none⟩=some (dD As cs ls 2)/\W.cell? ⟨N7,3,none⟩=some (.int .i64 (zs 0))/\W.cell? ⟨N7,4,none⟩=some (.int .i64 (zs 1))) (bS.out _ bD.out.drew (bT.out.drew)) ?_
     simp only[kR,kS,Ms.fill,kT,kV];iterate 5 refine ztk ?_
     refine z0z fun K0 cM=>?_
     refine gb (fun K hK=>?_) (fun K hK=>?_)
     ·obtain⟨X,hX⟩:=zex ((wr.alloc (.cells #[.int .i64 0,.int .i64 0,.int .i64 0,.int .i64 0,.int .i64 0,.slice none 0 0,.string ⟨#[]⟩,.slice none 0 0] 78)).drew);have bX:Blk X wr.heap.size 78 #[.int .i64 0,.int .i64 0,.int .i64 0,.int .i64 0,.int .i64 0,.slice none 0 0,.string ⟨#[]⟩,.slice none 0 0]:=by rw[hX];exact(Blk.new _ _ _).drew
      have BX:Zr wr X:=by rw[hX];exact((kF _ _).alloc (kE _) _).drew
      go_simp;rw[<-hX];refine hK _ _ (bS.out _ (bD.out.trans (BX.mono bN)) (bT.out.mD BX)) ?_;clear hK K hX;refine dx (fun K hK=>?_)
      go_simp;refine(ex.out X BX).mono ?_;rintro e w5 ⟨a6,cw,ck,cz,co,cn,ca,M,L,P,pn,pc,rfl,bn⟩;have B5:=BX.trans (a6.mono BX.size);have fM:=bX.mD a6;refine hK _ _ (bS.out _ (bD.out.trans (B5.mono bN)) (bT.out.mD B5)) ?_;clear hK K;refine fe ?_;refine cM _ _ ?_;clear cM K0;refine ah (by rfl) fun K hK=>?_
      have a7:=aF (ty:=78) (vs:=az cw ck cz co cn (.slice ca L.length M) s (.slice P pn pc)) fM rfl (by simp[Value.oneCell']) (by kernel_rfl)
      refine zob a7 ?_;refine hK _ _ (fun h=>absurd h (by decide)) ?_
      clear hK K;refine ax ?_;go_wp2_with fail
      go_meet
      case rel=>exact⟨wr.heap.size,cw,ck,cz,co,cn,ca,M,L,P,pn,pc,X.heap.size,rfl,Below.setRow B5 (kE _) _,kE _,fM.setRow,BX.size,bn.row (kE _) (fun b h1 h2 e=>by have:=bX.lt;omega) _⟩
     ·go_simp;refine(ex.out wr.drew (kF _ _).drew).mono ?_;rintro e w5 ⟨a6,cw,ck,cz,co,cn,ca,M,L,P,pn,pc,rfl,bn⟩;have B5:Zr wr w5:=(kF _ _).drew.trans a6;refine hK _ _ (bS.out _ (bD.out.trans (B5.mono bN)) (bT.out.mD B5)) ?_;clear hK K;refine z0A (fun K hK=>?_)
      obtain⟨X,hX⟩:=zex (w5.alloc (.cells #[.int .i64 0,.int .i64 0,.int .i64 0,.int .i64 0,.int .i64 0,.slice none 0 0,.string ⟨#[]⟩,.slice none 0 0] 78));have bX:Blk X w5.heap.size 78 #[.int .i64 0,.int .i64 0,.int .i64 0,.int .i64 0,.int .i64 0,.slice none 0 0,.string ⟨#[]⟩,.slice none 0 0]:=by rw[hX];exact zbn
      have BX:Zr wr X:=by rw[hX];exact B5.alloc B5.size _
      have h0:Zr w5 X:=by rw[hX];exact(kF _ _).alloc (kE _) _
      go_simp;rw[<-hX];refine hK _ _ (bS.out _ (bD.out.trans (BX.mono bN)) (bT.out.mD BX)) ?_;clear hK K hX;refine cM _ _ ?_;clear cM K0;refine ah (by rfl) fun K hK=>?_
      have a7:=aF (ty:=78) (vs:=az cw ck cz co cn (.slice ca L.length M) s (.slice P pn pc)) bX rfl (by simp[Value.oneCell']) (by kernel_rfl)
      refine zob a7 ?_;refine hK _ _ (fun h=>absurd h (by decide)) ?_
      clear hK K;refine ax ?_;go_wp2_with fail
      go_meet
      case rel=>exact⟨w5.heap.size,cw,ck,cz,co,cn,ca,M,L,P,pn,pc,wr.drew.heap.size,rfl,Below.setRow BX B5.size _,B5.size,bX.setRow,by simp,bn.made B5.size h0 _⟩
   case rest=>
    as_aux_lemma=>
     obtain⟨C,cw,ck,cz,co,cn,ca,M,L,P,pn,pc,m0,rfl,f5,kl,bC,kv,bn⟩:=hcut;obtain⟨ps,bJ⟩:=bn.parts;have ac:=hr.below f5;have e4:∀b∈F,b<wr.heap.size:=hr.run.flt;have i3:=hr.bk.b7.lt;have i4:=hr.bt.lt;have h6:C∉F:=fun hm=>by have:=e4 _ hm;omega
     have hv:wr.heap.size<=wc.heap.size:=f5.size;clear hr bT ex;have ok:=ac.run.td.tx.ok;have fd:=bn.hcw;have h7:=bn.len;have gB:=zcr T F D z B y s (by omega) wr.heap.size m0 cw ck cz co cn ca M L P pn pc wc ac.run.td (fun b hb=>by have:=e4 b hb;omega) bn ps bJ
     have hd:=z82 (x:=y) (ck:=ck) (cz:=cz) (co:=co) (cn:=cn) (L:=L) (s:=s) (ps:=ps) ok ac.clean (by omega) fd (fun e=>by have:=bJ e;omega) h7
     have hg:∀F' V U,RTx V (Far (N7::NT::F')) y z U->(∀b∈F',b<V.heap.size)->wr.heap.size<=V.heap.size->SlI V ca M L->(cw=5->Reads V P (ps.map .string)) ->
       Calls prog 28 #[.agg U,.agg (az cw ck cz co cn (.slice ca L.length M) s (.slice P pn pc))] V (Told V (Far (N7::NT::F')) y (z.act y cw ck cz co cn L s ps)):=fun F' V U h1 h2 h3 h4 h5=>
      zcQ h1 fc (fun b hb hm=>by
       rcases lp.1 hm with e|hm
       ·omega
       ·rcases lp.1 hm with e|hm
        ·omega
        ·have:=h2 b hm;omega) ok ac.clean s (by omega) cw ck cz co cn fd ca M L (by omega) h4 P pn pc ps fun e=>⟨(bJ e).1,by have:=(bJ e).2.1;omega,fun p hp=>by have:=(bJ e).2.2.1 p hp;omega,h5 e⟩
     generalize z.act y cw ck cz co cn L s ps=J at *;have br:=kD hd;have hY:=kD hg;have fF:=kD bJ;obtain⟨cC,lC⟩:=bC.zc;clear hd hg bJ ok;unfold az at cC;go_wp2_with fail
     refine gB.mono ?_;rintro e w9 ⟨RA,lk,PA,pk,F',rfl,ht,g,g0,h9,fS⟩;have r9:=ac.run.did ht g;have x9:=ac.bk.grow g;have q9:=ac.rt.grow ((g.qG NT).qG N7);have T9:=g.blk ac.bt ac.ft;have gN:=g.og ac.ft ac.bt.lt;have C9:=g.blk bC h6;have k9:=bn.kp.grow hv g;have hE:cw=5->Reads w9 P (ps.map .string):=fun e=>(fF.out e).2.2.2.1.qj g fun a e2 hm=>by have:=((fF.out e).2.2.2.2 a e2).1;have:=e4 _ hm;omega
     have i5:=ac.rt.one;have he:=ac.rt.size;have ib:=ac.kt;have j2:=g.keep.size;obtain⟨cJ,bR⟩:=zxe (w9.alloc (.cells (bH (.slice RA J.R.length lk) (.slice PA J.P.length pk) J.t J.z J.E) 83));obtain⟨AB,e1⟩:=zxe w9.heap.size;have fs:Blk cJ AB 83 (bH (.slice RA J.R.length lk) (.slice PA J.P.length pk) J.t J.z J.E):=by rw[<-bR,<-e1];exact zbn
     have a2:Zr w9 cJ:=by rw[<-bR];exact(kF _ _).alloc (kE _) _
     have fq:=r9.below a2;have hL:=x9.below a2;have hG:=q9.below a2;have ez:=T9.mD a2;have es:=C9.mD a2;have hw:=k9.below a2;have bG:=g0.below a2;have b5:=fS.below a2;have hf:=hY.out F' cJ tv hG fq.flt (by have:=a2.size;omega) hw.sl fun e=>(hE e).below a2
     have hC:=aN ez he;have dv:=kD bR;have fA:=kD e1;have kk:wc.heap.size<=AB:=by omega
     have j1:w9.heap.size<=cJ.heap.size:=a2.size;clear gB cC lC ac bC bn r9 x9 q9 T9 C9 k9 hE bR e1 a2 ht g g0 fS hw;go_upto_region 13 with fail
     rw[dv.out,fA.out];clear dv fA;obtain⟨cC,lC⟩:=es.zc;unfold az at cC;go_wp2_with (refine zlw hC ?_)
     refine hf.mono ?_;rintro e a1 ⟨U,RB,cT,PB,cU,rfl,bQ,fX,fT,bM⟩;have bU:Blk ((a1.alloc (.cells txZ 50)).alloc (.cells (dG 0) 83)) a1.heap.size 50 txZ:=(Blk.new _ _ _).alloc _;have bW:Blk (((a1.alloc (.cells txZ 50)).alloc (.cells (dG 0) 83)).setRow a1.heap.size U) (a1.heap.size+1) 83 (dG 0):=(Blk.new' (by simp)).mO (by omega)
     have a7:=aR bU rfl bQ.size bQ.one;have d5:=aF (ty:=83) (vs:=bH (.slice RB J.R.length cT) (.slice PB J.P.length cU) J.t J.z J.E) bW rfl (by simp[bH,Value.oneCell']) (by kernel_rfl)
     obtain⟨c8,bF⟩:=zex ((((a1.alloc (.cells txZ 50)).alloc (.cells (dG 0) 83)).setRow a1.heap.size U).setRow (a1.heap.size+1) (bH (.slice RB J.R.length cT) (.slice PB J.P.length cU) J.t J.z J.E));have eN:Blk c8 a1.heap.size 50 U:=by rw[bF];exact bU.setRow.mO (by omega)
     have e0:Blk c8 (a1.heap.size+1) 83 (bH (.slice RB J.R.length cT) (.slice PB J.P.length cU) J.t J.z J.E):=by rw[bF];exact bW.setRow
     have b4:Zr a1 c8:=by rw[bF];exact Below.setRow (Below.setRow (((kF _ _).alloc (kE _) _).alloc (by simp) _) (kE _) _) (by omega) _
     have bp:=bM.trans (b4.mono bM.size);have hI:=fq.below bp;have hM:=hL.below bp;have cF:=bQ.below b4;have fL:=ez.mD bp;have fv:=es.mD bp;have eg:=fs.mD bp;have fW:=bG.sl.reads.below bp;have cb:=fX.below b4;have b8:=b5.below bp;have b9:=fT.below b4;have cl:=bG.below bp;have cD:=cF.size;have fo:=cF.one;have g2:=z9U RA RB PA PB lk cT pk cU J.R J.P (by have:=br.out.1;omega) (by have:=br.out.2.1;omega) J.t J.z J.E c8 fW cb b8 b9
     have db:=kD hI;have h8:cJ.heap.size<=a1.heap.size:=bM.size;clear hf hC cC lC fq hL hG ez es fs bG b5 bM b4 bp bU bW bQ fW fX b8 fT cb b9 hI;go_upto_region 14 with (first|(refine zsb a7 ?_)|(refine zsb d5 ?_))
     rw[<-bF];clear a7 d5 bF;obtain⟨UB,f2⟩:=zex a1.heap.size;rw[<-f2]at eN e0 h8 |-;clear f2;obtain⟨cA,lA⟩:=eg.zc;obtain⟨cW,lW⟩:=e0.zc;unfold bH at cA cW;go_wp2_with fail
     refine g2.mono ?_;rintro e kL ⟨rfl,bB⟩;have eW:=eN.mD bB;have hD:=aN eW cD;have hJ:=db.out.below bB;have cB:=zcN hJ.td (cF.below bB) br.out.2.2.2.2;have ds:=kD eW;have b0:=kD bB;have c9:=kD eg;clear g2 cA lA cW lW hJ eN e0 bB eW eg;go_wp2_with (refine zlw hD ?_)
     refine cB.mono ?_;rintro e bK ⟨rfl,cc⟩;have bw:=b0.out.trans (cc.mono b0.out.size);have fr:=db.out.below bw;have bZ:=hM.below bw;have i0:=cF.below bw;have hZ:=fL.mD bw;have ev:=fv.mD bw;have ej:=c9.out.mD bw;have cK:=ds.out.mD cc;have hz:=cl.below bw;have j0:UB<bK.heap.size:=cK.lt;have g1:∀V,Zr bK V->Calls prog 31 #[.agg #[dD As cs ls 0,dD As cs ls 1,dD As cs ls 2,.int .i64 (zs 0),.int .i64 (zs 1)],.agg #[.int .u8 wh,.int .u8 f,.int .i64 kd,.int .i64 off,.int .i64 n,.int .i64 size,.slice LA lm lc,.string s],.agg #[.int .i64 cw,.int .i64 ck,.int .i64 cz,.int .i64 co,.int .i64 cn,.slice ca L.length M,.string s,.slice P pn pc],.agg #[.slice RA J.R.length lk,.slice PA J.P.length pk,.string J.t,.int .i64 J.z,.int .i64 J.E]] V fun e w'=>
       Zr V w'/\∃av,∃a8:Nat->Int,∃S aL,e=.returned (.agg (aK (dD S aL av 0) (dD S aL av 1) (dD S aL av 2) (a8 0) (a8 1)))/\(∀k,k<2->0<=a8 k/\a8 k<=10000)/\(∀k,k<3->Keeps V F' (S k) (aL k) (av k))/\(∀k,k<3->(av k).length<=1000)/\∀k,k<3->S k=As k\/S k=RA:=fun V hV=>by
      obtain⟨rfl,rfl,rfl,rfl,rfl,rfl,rfl,rfl,rfl,rfl⟩:=hN.out;exact zaf ey.out.2 ey.out.1 ls zs As cs bZ.zs (fun k hk=>(bZ.kp k hk).below hV) bZ.ln cw ck cz co cn fd _ _ _ I.s J.t J.z J.E RA lk J.R br.out.1 (hz.below hV) br.out.2.2.1 br.out.2.2.2.1
     have d4:∀V,Zr w V->Blk V C 78 (az cw ck cz co cn (.slice ca L.length M) s (.slice P pn pc))->Blk V AB 83 (bH (.slice RA J.R.length lk) (.slice PA J.P.length pk) J.t J.z J.E)->Blk V UB 50 U->(fun W=>W.cell? ⟨Y,ao+k*8,none⟩=some (.int .u8 wh)/\W.cell? ⟨Y,ao+k*8+1,none⟩=some (.int .u8 f)/\W.cell? ⟨Y,ao+k*8+2,none⟩=some (.int .i64 kd)/\W.cell? ⟨Y,ao+k*8+3,none⟩=some (.int .i64 off)/\W.cell? ⟨Y,ao+k*8+4,none⟩=some (.int .i64 n)/\W.cell? ⟨Y,ao+k*8+5,none⟩=some (.int .i64 size)/\W.cell? ⟨Y,ao+k*8+6,none⟩=some (.slice LA lm lc)/\W.cell? ⟨Y,ao+k*8+7,none⟩=some (.string s)/\W.cell? ⟨C,0,none⟩=some (.int .i64 cw)/\W.cell? ⟨C,1,none⟩=some (.int .i64 ck)/\W.cell? ⟨C,2,none⟩=some (.int .i64 cz)/\W.cell? ⟨C,3,none⟩=some (.int .i64 co)/\W.cell? ⟨C,4,none⟩=some (.int .i64 cn)/\W.cell? ⟨C,5,none⟩=some (.slice ca L.length M)/\W.cell? ⟨C,6,none⟩=some (.string s)/\W.cell? ⟨C,7,none⟩=some (.slice P pn pc)/\W.cell? ⟨AB,0,none⟩=some (.slice RA J.R.length lk)/\W.cell? ⟨AB,1,none⟩=some (.slice PA J.P.length pk)/\W.cell? ⟨AB,2,none⟩=some (.string J.t)/\W.cell? ⟨AB,3,none⟩=some (.int .i64 J.z)/\W.cell? ⟨AB,4,none⟩=some (.int .i64 J.E)/\Blk W UB 50 U) V:=fun V hV bc ba bu=>by
      obtain⟨q0,q1,q2,q3,q4,q5,q6,q7⟩:=fB.out V hV;exact⟨q0,q1,q2,q3,q4,q5,q6,q7,(bc.cells 0).trans rfl,(bc.cells 1).trans rfl,(bc.cells 2).trans rfl,(bc.cells 3).trans rfl,(bc.cells 4).trans rfl,(bc.cells 5).trans rfl,(bc.cells 6).trans rfl,(bc.cells 7).trans rfl,(ba.cells 0).trans rfl,(ba.cells 1).trans rfl,(ba.cells 2).trans rfl,(ba.cells 3).trans rfl,(ba.cells 4).trans rfl,bu⟩
     have hU:=kD g1;have bL:=kD d4;have i1:=br;clear g1 d4 bS b0 ds c9 cc bw hM cF fL fv cl hD cB;go_upto_region 16 with fail
     refine zrm [.take 1,.take 2,.take 3,.take 4,.take 5,.take 6,.take 8,.one 0,.one 7,.one 9,.one 10] 10 (fun W=>W.cell? ⟨Y,ao+k*8,none⟩=some (.int .u8 wh)/\W.cell? ⟨Y,ao+k*8+1,none⟩=some (.int .u8 f)/\W.cell? ⟨Y,ao+k*8+2,none⟩=some (.int .i64 kd)/\W.cell? ⟨Y,ao+k*8+3,none⟩=some (.int .i64 off)/\W.cell? ⟨Y,ao+k*8+4,none⟩=some (.int .i64 n)/\W.cell? ⟨Y,ao+k*8+5,none⟩=some (.int .i64 size)/\W.cell? ⟨Y,ao+k*8+6,none⟩=some (.slice LA lm lc)/\W.cell? ⟨Y,ao+k*8+7,none⟩=some (.string s)/\W.cell? ⟨C,0,none⟩=some (.int .i64 cw)/\W.cell? ⟨C,1,none⟩=some (.int .i64 ck)/\W.cell? ⟨C,2,none⟩=some (.int .i64 cz)/\W.cell? ⟨C,3,none⟩=some (.int .i64 co)/\W.cell? ⟨C,4,none⟩=some (.int .i64 cn)/\W.cell? ⟨C,5,none⟩=some (.slice ca L.length M)/\W.cell? ⟨C,6,none⟩=some (.string s)/\W.cell? ⟨C,7,none⟩=some (.slice P pn pc)/\W.cell? ⟨AB,0,none⟩=some (.slice RA J.R.length lk)/\W.cell? ⟨AB,1,none⟩=some (.slice PA J.P.length pk)/\W.cell? ⟨AB,2,none⟩=some (.string J.t)/\W.cell? ⟨AB,3,none⟩=some (.int .i64 J.z)/\W.cell? ⟨AB,4,none⟩=some (.int .i64 J.E)/\Blk W UB 50 U) (bL.out _ fr.bl.drew ev.drew ej.drew cK.drew) ?_
     simp only[kR,kS,Ms.fill,kT,kV];iterate 6 refine ztk ?_
     refine ai (by rfl) (.agg U) (fun w' it=>cr 50 _ rfl rfl (aN it.2.2.2.2.2.2.2.2.2.2.2.2.2.2.2.2.2.2.2.2.2 cD)) ?_
     refine ah (by rfl) fun K hK=>?_
     have c7:=bZ.b7.drew.cells;have l7:=bZ.b7.drew.lt;go_simp;refine hK _ _ (fun _=>bL.out _ fr.bl.drew ev.drew ej.drew cK.drew) ?_
     clear hK K c7 l7;refine ah (by rfl) fun K hK=>?_
     have en:Zr bK bK.drew:=(kF _ _).drew;go_simp;refine(hU.out bK.drew en).mono ?_;rintro e wk ⟨hbk,av,a8,S,aL,rfl,n1,n2,n3,n4⟩;have bk:=en.trans (hbk.mono en.size);have rk:=fr.below bk;have xk:=bZ.below bk;have qk:=i0.below bk;have Tk:=hZ.mD bk;have Ck:=ev.mD bk;have Ak:=ej.mD bk;have Uk:=cK.mD bk;refine hK _ _ (fun _=>bL.out _ rk.bl Ck Ak Uk) ?_
     clear hK K;refine ah (by rfl) fun K hK=>?_
     have a7:=aF (ty:=75) (vs:=aK (dD S aL av 0) (dD S aL av 1) (dD S aL av 2) (a8 0) (a8 1)) xk.b7 rfl (by simp[dD,Value.oneCell']) (by kernel_rfl)
     refine zob a7 ?_;obtain⟨wl,bq⟩:=zex (wk.setRow N7 (aK (dD S aL av 0) (dD S aL av 1) (dD S aL av 2) (a8 0) (a8 1)));have i2:=rk.flt;have n7:∀j a,j<3->S j=some a->a.block≠N7/\a.block≠NT:=fun j a hj e=>by
      rcases n4 j hj with h|h
      ·exact⟨xk.k7 j a hj (h.symm.trans e),ib j a hj (h.symm.trans e)⟩
      ·have:=h9 a (h.symm.trans e)
       omega
     have rl:Run w wl T F' D J.y B y:=by rw[bq];exact rk.row (g:=N7) xk.f7 xk.d7 cp fO _
     have xl:Bk wl F' B N7 av a8 S aL:=by rw[bq];exact xk.book (fun k hk=>(n2 k hk).below hbk) (fun j a hj e=>(n7 j a hj e).1) n3 n1
     have ql:RTx wl (Far (N7::NT::F')) y J.y U:=by rw[bq];exact qk.row (fun b hb e=>hb (e▸me ..)) _
     have Tl:Blk wl NT 50 tv:=by rw[bq];exact Tk.mO f0
     have Cl:Blk wl C 78 (az cw ck cz co cn (.slice ca L.length M) s (.slice P pn pc)):=by rw[bq];exact Ck.mO (by omega)
     have Al:Blk wl AB 83 (bH (.slice RA J.R.length lk) (.slice PA J.P.length pk) J.t J.z J.E):=by rw[bq];exact Ak.mO (by omega)
     have Ul:Blk wl UB 50 U:=by rw[bq];exact Uk.mO (by omega)
     rw[<-bq];refine hK _ _ (fun _=>bL.out _ rl.bl Cl Al Ul) ?_
     clear hK K a7 bq;refine ah (by rfl) fun K hK=>?_
     have a7:=aR Tl he cD fo;refine zob a7 ?_;refine hK _ _ (fun h=>absurd h (by decide)) ?_
     refine ax ?_;have pB:Pq w (wl.setRow NT U) T D N7 NT B y F' J.y U av a8 S aL:=⟨rl.row gN fQ cp fR _,xl.row (Ne.symm f0) (fun j a hj e=>(n7 j a hj e).2) _,ql.row (fun b hb e=>hb (e▸ly _ (me ..))) _,Tl.setRow,gN,fun j a hj e=>(n7 j a hj e).2,br.out.2.2.2.2⟩
     go_wp2_with fail
     go_roundw
     case rel=>exact⟨k+1,F',J.y,U,av,a8,S,aL,by omega,by go_num,pB⟩
     case measure=>simp[RowKit.intOf];omega
  ·obtain rfl:k=xs.length:=by omega
   have BW:=hr.run.bl;have e7:Calls prog 22 #[] wr ((Zq (.bool true) wr)):=z3C wr (HH.out.below BW cp)
   go_wp2_with fail
   refine e7.mono ?_;rintro e w5 ⟨rfl,a6⟩;go_wp2_with fail
   go_ret
   exact⟨rfl,BW.trans (a6.mono BW.size)⟩
end Go.Proofs.YtejmknghkbobnaaGreatDoor
