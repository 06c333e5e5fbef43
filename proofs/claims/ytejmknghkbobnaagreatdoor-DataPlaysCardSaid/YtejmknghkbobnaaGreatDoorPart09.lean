import Derived.Test.YtejmknghkbobnaaGreatDoorPart08
import Derived.Laws.EntriesVeiled
set_option linter.all false
set_option maxRecDepth 100000
set_option maxHeartbeats 0
namespace Go.Proofs.YtejmknghkbobnaaGreatDoor
open Go.Proofs.Tryz
open Go.RowKit Go.Maps
theorem jK {x:DevS}{l:List (Int × Fr)}{k m:Nat}(h:(x.puts l k).1≠0)(c:k<=m):x.puts l m=x.puts l k:=by
 induction m with
 | zero=>
  have e:k=0:=by omega
  rw[e]
 | succ m ih=>
  by_cases e:k=m+1
  ·rw[e]
  ·have ih:=ih (by omega)
   show (if (x.puts l m).1≠0 then x.puts l m else _)=_
   rw[ih,if_pos h]
theorem jJ {x:DevS}{l:List (Int × Fr)}{k:Nat}(h:(x.puts l k).1=0){a:Int}{f:Fr}(c:l.getD k default=(a,f)):x.puts l (k+1)=(x.puts l k).2.put a f.kind f.seq f.data:=by
 show (if (x.puts l k).1≠0 then _ else _)=_
 rw[if_neg (by rw[h];simp),c]
theorem z5V {F q:Int}{l:List Rec}{k:Nat}(c:k<l.length):(ef F q l).getD k default=(F+1+k,⟨2,q,gE l[k]⟩):=by
 unfold ef;simp[kN,c]
theorem eM (F q:Int)(l:List Rec):(ef F q l).length=l.length:=by unfold ef;simp
theorem z8O (r:Rec):gE r=aH r.at_++strOfNums [r.kind % 256]++r.data:=by
 apply ByteArray.ext
 simp only[gE,jS,ByteArray.data_append]
theorem z4v {n F Z:Int}{l:List Rec}(h:cV n F Z l=0):(l.length:Int)<=cj Z/\∀k (c:k<l.length),im n F Z (l.take k) l[k]=0:=by
 unfold cV at h;split at h
 ·omega
 ·rename_i A
  refine⟨by omega,fun k c=>?_⟩
  have D:∀m,m<=l.length->cd n F Z l m=0:=fun m A=>by
   by_cases e:cd n F Z l m=0
   ·exact e
   ·exact absurd ((z09 e A).symm.trans h) e
  rw[<-z08 (D k (by omega)) c]
  exact D (k+1) (by omega)
theorem z48 {n F Z:Int}{l:List Rec}{r:Rec}(h:im n F Z l r=0):¬(F<=r.at_/\r.at_<F+Z)/\0<=r.at_/\r.at_<n/\1<=r.kind/\r.kind<=255/\r.data.size<=96/\r.at_∉l.map (·.at_):=by
 unfold im at h;split at h
 ·omega
 ·split at h
  ·omega
  ·split at h
   ·omega
   ·split at h
    ·omega
    ·exact⟨by assumption,by omega,by omega,by omega,by omega,by omega,by assumption⟩
theorem iC (x:DevS)(F Z:Int):0<=(x.head F Z).2/\(x.head F Z).2<4294967296:=by
 unfold DevS.head;split
 ·exact⟨Int.le_refl 0,by show (0:Int)<4294967296;decide⟩
 ·split
  ·exact⟨Int.le_refl 0,by show (0:Int)<4294967296;decide⟩
  ·split
   ·exact⟨Int.le_refl 0,by show (0:Int)<4294967296;decide⟩
   ·exact zcu x F
theorem i7 {x:DevS}{F Z:Int}(h:(x.head F Z).1=0):0<=F/\F<=256 - Z/\8<=Z/\Z<=96:=by
 unfold DevS.head at h;by_cases c:aO F Z=0
 ·unfold aO at c;split at c<;>omega
 ·rw[if_pos c]at h;exact absurd h c
theorem Grow.qx {w I W:World}{g:Nat}{B A:List Nat}(h:Grow I (g::B) W (g::A))(c:Zr w I)(J:w.heap.size<=g):Grow w B W A:=
 ⟨⟨h.keep.os.trans c.os,h.keep.tape.trans c.tape,h.keep.output.trans c.output,kO c.size h.keep.size,fun k D M=>(h.keep.block k (lh D c.size) (fm (by omega) M)).trans (c.block k D)⟩,
  fun b K=>by
   rcases h.new b (ly _ K)with e|e
   ·rcases lp.1 e with rfl|e
    ·exact .inr J
    ·exact .inl e
   ·exact .inr (kO c.size e)⟩
theorem ga {p:Int × DevS}(h:p.1=0):DevS.done p=p.2.flush:=by unfold DevS.done;rw[if_neg (by rw[h];simp)]
theorem gY {p:Int × DevS}(h:p.1≠0):DevS.done p=p:=by unfold DevS.done;rw[if_pos h]
theorem z6z {W:World}{g:Nat}{t:TypeId}{v:Int}(b:Blk W g t #[.int .u8 v]):(convert 113 9 (.slice (some ⟨g,0,none⟩) 1 1)).run prog W=.ok (.string (strOfNums [v])) W:=
 dR (some ⟨g,0,none⟩) 1 1 [v] rfl W (.inr ⟨g,0,rfl,b.lt,fun j u c=>by rw[ld,b.cells];simpa using c⟩)
theorem Reads.grow {w w':World}{F F':List Nat}{A:Option Addr}{xs:List Value}(h:Reads w A xs)(g:Grow w F w' F')(I:∀ad,A=some ad->ad.block∉F):Reads w' A xs:=by
 rcases h with h|⟨b,off,D,c,J⟩
 ·exact .inl h
 ·exact .inr ⟨b,off,D,lh c g.keep.size,fun j u K=>(World.cell?_of_block (w:=w) (a:=⟨b,off+j,none⟩) (g.keep.block b c (I _ D))).trans (J j u K)⟩
theorem zbx (D:Nat)(F Z:Int)(B:List Nat)(x:DevS)(A:Option Addr)(c:Nat)(l:List Rec)(cm:gv l)(w:World)(h:DevAt w D B x)(hr:RunAt w A l)(d3:∀ad,A=some ad->ad.block∉B):
  Calls prog 123 #[.pointer (some ⟨D,0,none⟩),.agg #[.int .i64 F,.int .i64 Z],.slice A l.length c] w (da w D B (x.log F Z l)):=by
 have fa:∀(fn:Fn) (first cb:Array Value) (w:World),(Instr.makeFunc fn first cb).run prog w=.ok (.func fn first cb) w:=fun _ _ _ _=>rfl
 have ej:=cm.1;obtain⟨wA,hA⟩:=zex (((w.alloc (.cells #[.pointer (some ⟨D,0,none⟩)] 27)).alloc (.cells #[.int .i64 F,.int .i64 Z] 109)).alloc (.cells #[.slice A l.length c] 48));have bP:Blk wA w.heap.size 27 #[.pointer (some ⟨D,0,none⟩)]:=by rw[hA];exact zbn
 have bJ:Blk wA (w.heap.size+1) 109 #[.int .i64 F,.int .i64 Z]:=by rw[hA];exact zbn
 have bR:Blk wA (w.heap.size+1+1) 48 #[.slice A l.length c]:=by rw[hA];exact zbn
 have BA:Zr w wA:=by rw[hA];exact zgr
 have zA:wA.heap.size=w.heap.size+3:=by rw[hA];simp
 have ck:=h.below BA;have a2:=z2G D F Z B x wA ck;have hq:=iC x F Z;unfold da;have cP:=bP.cells;have cJ:=bJ.cells;have cR:=bR.cells;have lP:=bP.lt;have lJ:=bJ.lt;have lR:=bR.lt;have ZA:=kD zA;clear zA;go_enter func123,ntmps123
 go_wp2_with fail
 rw[<-hA];clear hA;go_wp2_with fail
 refine a2.mono ?_;rintro e w1 ⟨rfl,O⟩;have B1:=BA.trans (O.mono BA.size);have bc:=bP.mD O;have bb:=bJ.mD O;have bp:=bR.mD O;have bO:=h.below B1;have z1:w.heap.size+3<=w1.heap.size:=by have:=O.size;have:=ZA.out;omega
 clear O cP cJ cR lP lJ lR bP bJ bR ck a2 BA ZA;by_cases S:(x.head F Z).1=0
 rotate_left
 ·have HL:Hid (x.log F Z l=((x.head F Z).1,x)):=kD (by unfold DevS.log;rw[if_pos S])
  generalize (x.head F Z).1=E at *;generalize (x.head F Z).2=q at *;have bK:(E != 0)=true:=by simpa using S
  clear S;go_wp2_with fail
  go_ret
  exact⟨by rw[HL.out];rfl,B,by rw[HL.out];exact bO.alloc _,Grow.of_below (B1.alloc B1.size _) B⟩
 have e7:=i7 S;have bB:Hid (x.log F Z l=if cV x.stable.length F Z l≠0 then (cV x.stable.length F Z l,x)else if (x.puts (ef F (aD (x.head F Z).2) l) l.length).1≠0 then x.puts (ef F (aD (x.head F Z).2) l) l.length else DevS.done ((x.puts (ef F (aD (x.head F Z).2) l) l.length).2.put (F+1+l.length) 3 (aD (x.head F Z).2) (aH l.length))):=kD (by unfold DevS.log;rw[if_neg (by rw[S];simp)])
 rw[S];clear S;generalize (x.head F Z).2=q at *;have b5:Blk (w1.alloc (.cells #[.int .u32 q] 188)) w1.heap.size 188 #[.int .u32 q]:=Blk.new _ _ _;have bw:=z9J D F Z (by omega) B x A c l cm (w1.alloc (.cells #[.int .u32 q] 188)) (bO.alloc _) (Reads.below hr (B1.alloc B1.size _))
 have ds:=bc.cells;have c9:=bb.cells;have dT:=bp.cells;have eN:=bc.lt;have ey:=bb.lt;have e0:=bp.lt;go_wp2_with fail
 refine bw.mono ?_;rintro e w2 ⟨rfl,ab⟩;have bk:=(bc.alloc _).mD ab;have bD:=(bb.alloc _).mD ab;have bq:=(bp.alloc _).mD ab;have bn:=b5.mD ab;have U:Zr w w2:=(B1.alloc B1.size _).trans (ab.mono (by have:=B1.size;simp;omega))
 have Y:=h.below U;have z2:w1.heap.size+1<=w2.heap.size:=by have:=ab.size;simpa using this
 clear ab bc bb bp b5 ds c9 dT eN ey e0 bw bO B1;by_cases S:cV x.stable.length F Z l=0
 rotate_left
 ·have HL:Hid (x.log F Z l=(cV x.stable.length F Z l,x)):=kD (by rw[bB.out,if_pos S])
  generalize cV x.stable.length F Z l=E at *;have bK:(E != 0)=true:=by simpa using S
  clear S;go_wp2_with fail
  go_ret
  exact⟨by rw[HL.out];rfl,B,by rw[HL.out];exact Y,Grow.of_below U B⟩
 have HL:Hid (x.log F Z l=if (x.puts (ef F (aD q) l) l.length).1≠0 then x.puts (ef F (aD q) l) l.length else DevS.done ((x.puts (ef F (aD q) l) l.length).2.put (F+1+l.length) 3 (aD q) (aH l.length))):=kD (by rw[bB.out,if_neg (by rw[S];simp)])
 obtain⟨fc,co⟩:=z4v S;have cF:=kD co;rw[S];clear S co bB;have dv:=bk.cells;have db:=bD.cells;have d1:=bq.cells;have eW:=bk.lt;have ez:=bD.lt;have e1:=bq.lt;have cw:=bn.lt;go_wp2_with fail
 obtain⟨PQ,cc⟩:=zex w1.heap.size;obtain⟨I,br⟩:=zex w2.heap.size;rw[<-cc]at bn cw z2 |-;rw[<-br]at z2 |-;obtain⟨wL,hL⟩:=zex ((w2.alloc (.cells #[.int .i64 F] 3)).alloc (.cells #[.func (.func 189) #[] #[.pointer (some ⟨I,0,none⟩),.pointer (some ⟨w.heap.size,0,none⟩),.pointer (some ⟨PQ,0,none⟩)]] 268));have cW:Blk wL w.heap.size 27 #[.pointer (some ⟨D,0,none⟩)]:=by rw[hL];exact(bk.alloc _).alloc _
 have c8:Blk wL PQ 188 #[.int .u32 q]:=by rw[hL];exact(bn.alloc _).alloc _
 have b8:Blk wL (w.heap.size+1+1) 48 #[.slice A l.length c]:=by rw[hL];exact(bq.alloc _).alloc _
 have cQ:Blk wL I 3 #[.int .i64 F]:=by rw[hL,br];exact zbn
 have bC:Blk wL (I+1) 268 #[.func (.func 189) #[] #[.pointer (some ⟨I,0,none⟩),.pointer (some ⟨w.heap.size,0,none⟩),.pointer (some ⟨PQ,0,none⟩)]]:=by rw[hL,br];exact zbn
 have BL:Zr w wL:=by rw[hL];exact(U.alloc U.size _).alloc (by have:=U.size;simp;omega) _
 have d7:=h.below BL;have en:RunAt wL A l:=Reads.below hr BL;rw[<-hL];have y1:=U.size;have nA:I∉B:=h.far (by omega)
 have b0:w.heap.size<=I:=by omega
 have cA:I≠0:=by have:=h.half.1;omega
 have cB:I≠w.heap.size:=by omega
 have cC:I≠PQ:=by omega
 have nP:w.heap.size∉I::B:=fm (by omega) (h.far (kE _))
 have nQ:PQ∉I::B:=fm (by omega) (h.far (by omega))
 have nR:w.heap.size+1+1∉I::B:=fm (by omega) (h.far (by omega))
 have nF:I+1∉I::B:=fm (by omega) (h.far (by omega))
 have d4:∀ad,A=some ad->l=[]\/ad.block∉I::B:=fun ad e=>by
  rcases hr with h'|⟨b,off,hb,a6,hc⟩
  ·left
   cases l with
   | nil=>rfl
   | cons r t=>simp[bE]at h'
  ·right
   rw[hb]at e;cases e;exact fm (by show b≠I;omega) (d3 _ hb)
 clear hL br dv db d1 eW ez e1 cw bk bD bq bn Y U cc z1 z2 y1;obtain⟨L,bL⟩:=zex (ef F (aD q) l);rw[<-bL]at HL;have cD:Hid (∀k (hk:k<l.length),L.getD k default=(F+1+k,⟨2,aD q,gE l[k]⟩)):=kD (fun k hk=>by rw[bL];exact z5V hk)
 clear bL;go_loopw [13,14,36] (fun _ _ i wr=>∃k:Nat,k<=l.length/\i=.int .i64 k/\(x.puts L k).1=0/\∃B',DevAt wr D B' (x.puts L k).2/\Grow wL (I::B) wr (I::B')/\I∉B'/\Blk wr I 3 #[.int .i64 (F+k)]) (fun _ _ i _=>l.length - (intOf i).toNat)
 case atStart=>exact⟨0,kP _,rfl,rfl,B,d7,Grow.refl _ _,nA,by simpa using cQ⟩
 case round=>
  obtain⟨k,hk,rfl,h0,B',hd,hg,cz,bA⟩:=hrel;have b3:=hg.blk bC nF;have bF:=hg.blk cW nP;have b7:=hg.blk c8 nQ;have ca:=hg.blk b8 nR;by_cases a6:k<l.length
  ·have bu:l≠[]:=by intro e;subst e;simp at a6
   have es:RunAt wr A l:=Reads.grow en hg (fun ad e=>(d4 ad e).resolve_left bu)
   obtain⟨b,off,rfl,e8,c0,c1,c2⟩:=es.at_ a6;obtain⟨-,d5,d6,ea,eg,cn,-⟩:=z48 (cF.out k a6);have a8:Hid (x.puts L (k+1)=(x.puts L k).2.put (F+k+1) 2 (aD q) (aH l[k].at_++strOfNums [l[k].kind]++l[k].data)):=kD (by
    rw[jJ h0 (cD.out k a6),z8O,show F+1+(k:Int)=F+k+1 by omega,show l[k].kind % 256=l[k].kind by omega])
   have bW:Hid ((x.puts L (k+1)).1≠0->x.log F Z l=x.puts L (k+1)):=kD (fun bu=>by rw[HL.out,jK bu (by omega),if_pos bu])
   generalize l[k]=r at *;obtain⟨av,T,sv⟩:=r;simp only at c0 c1 c2 d5 d6 ea eg cn a8
   have e9:IntKind.u8.wrap T=T:=by rw[IntKind.wrap_u8'];omega
   have bX:Blk (wr.alloc (.cells #[.int .i64 av,.int .i64 T,.string sv] 118)) wr.heap.size 118 #[.int .i64 av,.int .i64 T,.string sv]:=Blk.new _ _ _;have ba:=b3.alloc (.cells #[.int .i64 av,.int .i64 T,.string sv] 118);have BX:Zr wr (wr.alloc (.cells #[.int .i64 av,.int .i64 T,.string sv] 118)):=(kF _ _).alloc (kE _) _;obtain⟨d2,e2⟩:=ca.zc;clear h0;go_wp2_with fail
   obtain⟨X,hX⟩:=zex (wr.alloc (.cells #[.int .i64 av,.int .i64 T,.string sv] 118));rw[<-hX]at bX ba BX |-;clear hX d2 e2 c0 c1 c2;have zX:=BX.size;have lX:=bX.lt;have cg:X.cell? ⟨I+1,0,none⟩=some (.func (.func 189) #[] #[.pointer (some ⟨I,0,none⟩),.pointer (some ⟨w.heap.size,0,none⟩),.pointer (some ⟨PQ,0,none⟩)])/\X.cell? ⟨wr.heap.size,0,none⟩=some (.int .i64 av)/\X.cell? ⟨wr.heap.size,1,none⟩=some (.int .i64 T)/\X.cell? ⟨wr.heap.size,2,none⟩=some (.string sv):=⟨by rw[ba.cells];rfl,by rw[bX.cells];rfl,by rw[bX.cells];rfl,by rw[bX.cells];rfl⟩
   have V:∀W,Zr X W->W.cell? ⟨I+1,0,none⟩=some (.func (.func 189) #[] #[.pointer (some ⟨I,0,none⟩),.pointer (some ⟨w.heap.size,0,none⟩),.pointer (some ⟨PQ,0,none⟩)])/\W.cell? ⟨wr.heap.size,0,none⟩=some (.int .i64 av)/\W.cell? ⟨wr.heap.size,1,none⟩=some (.int .i64 T)/\W.cell? ⟨wr.heap.size,2,none⟩=some (.string sv):=fun W hb=>⟨by rw[(ba.mD hb).cells];rfl,by rw[(bX.mD hb).cells];rfl,by rw[(bX.mD hb).cells];rfl,by rw[(bX.mD hb).cells];rfl⟩
   refine zrm [.take 0,.take 1,.take 2,.take 4,.take 5,.take 6,.take 10,.take 11,.par 3 [7,8],.one 9,.one 12,.one 13,.one 14] 15 (fun w'=>w'.cell? ⟨I+1,0,none⟩=some (.func (.func 189) #[] #[.pointer (some ⟨I,0,none⟩),.pointer (some ⟨w.heap.size,0,none⟩),.pointer (some ⟨PQ,0,none⟩)])/\w'.cell? ⟨wr.heap.size,0,none⟩=some (.int .i64 av)/\w'.cell? ⟨wr.heap.size,1,none⟩=some (.int .i64 T)/\w'.cell? ⟨wr.heap.size,2,none⟩=some (.string sv)) cg ?_
   simp only[kR,kS,Ms.fill,kT,kV];iterate 8 refine ztk ?_
   refine z0z fun K0 an=>?_
   refine gb (fun K M=>?_) (fun K M=>?_)
   focus
    go_simp;refine(iJ av X.drew).mono ?_;rintro e w1 ⟨rfl,O⟩;have ac:Zr X w1:=(kF _ _).drew.trans O;refine M _ _ (V _ ac) ?_;clear M K;have bS:Blk (w1.alloc (.cells #[.int .u8 T] 5)) w1.heap.size 5 #[.int .u8 T]:=Blk.new _ _ _;have J:Zr X (w1.alloc (.cells #[.int .u8 T] 5)):=ac.alloc ac.size _;have a1:=z6z bS;refine dx (fun K M=>?_)
    go_simp;refine M _ _ (V _ J) ?_;clear M K;refine dx (fun K M=>?_)
    go_simp;refine M _ _ (V _ J) ?_;clear M K;refine fe ?_;refine an _ _ ?_;clear an K0 a1 bS O ac;generalize w1.alloc (.cells #[.int .u8 T] 5)=w3 at *
   rotate_left;focus
    have bS:Blk (X.alloc (.cells #[.int .u8 T] 5)).drew X.heap.size 5 #[.int .u8 T]:=(Blk.new _ _ _).drew;have J:Zr X (X.alloc (.cells #[.int .u8 T] 5)).drew:=((kF _ _).alloc (kE _) _).drew;obtain⟨X2,ci⟩:=zex ((X.alloc (.cells #[.int .u8 T] 5)).drew);go_simp;rw[<-ci]at bS J |-;refine M _ _ (V _ J) ?_;clear M K ci;have z2:=J.size;refine gb (fun K M=>?_) (fun K M=>?_)
    focus
     go_simp;refine(iJ av X2).mono ?_;rintro e w3 ⟨rfl,O⟩;have J:Zr X w3:=J.trans (O.mono z2);refine M _ _ (V _ J) ?_;clear M K;have a1:=z6z (bS.mD O);refine dx (fun K M=>?_)
     go_simp;refine M _ _ (V _ J) ?_;clear M K;refine fe ?_;refine an _ _ ?_;clear an K0 a1 bS O
    rotate_left;focus
     have a1:=z6z bS;go_simp;refine M _ _ (V _ J) ?_;clear M K;refine z0A (fun K M=>?_)
     go_simp;refine(iJ av X2).mono ?_;rintro e w3 ⟨rfl,O⟩;have J:Zr X w3:=J.trans (O.mono z2);refine M _ _ (V _ J) ?_;clear M K;refine an _ _ ?_;clear an K0 a1 bS O
   all_goals
    have aL:Zr wr w3:=BX.trans (J.mono zX);have bQ:=hd.below aL;have cL:=bA.mD aL;have cU:=bF.mD aL;have cX:=b7.mD aL;have cS:=ba.mD J;have bM:=V _ J;have ev:(aH av).size=2:=by show (strOfNums _).size=2;rw[strOfNums_size];rfl
    have ex:(strOfNums [T]).size=1:=by rw[strOfNums_size];rfl
    have fd:¬9223372036854775807<(aH av).size+(strOfNums [T]).size+sv.size:=by omega
    have fk:¬9223372036854775807<(aH av).size+(strOfNums [T]).size:=by omega
    have cp:(aH av++strOfNums [T]++sv).size<=maxLen:=by rw[ByteArray.size_append,ByteArray.size_append];unfold maxLen;omega
    have cK:=kD cp;clear ev ex cp;refine ah (by rfl) fun K M=>?_
    go_simp;refine M _ _ (fun _=>bM) ?_
    clear M K;refine ah (by rfl) fun K M=>?_
    go_simp;refine M _ _ (fun _=>bM) ?_
    clear M K;refine ah (by rfl) fun K M=>?_
    go_simp;refine(zb3 D I w.heap.size PQ (F+k) 2 q (by omega) hq (aH av++strOfNums [T]++sv) cK.out B' _ w3 bQ cL cz cA cU cB cX cC).mono ?_
    rintro e w4 ⟨rfl,B4,bt,bU,cM,e3⟩;rw[<-a8.out];have HP:Hid (x.puts L (k+1)=x.puts L (k+1)):=kD rfl;obtain⟨p,hp⟩:=zxe (x.puts L (k+1));rw[<-a8.out]at bt;rw[hp]at bt bW |-;have HP:=kD hp;clear hp a8;have cT:=bU.blk cS (hg.og nF bC.lt);have gN:Grow wL (I::B) w4 (I::B4):=(hg.trans (Grow.of_below aL _)).trans bU;have bN:w4.cell? ⟨I+1,0,none⟩=some (.func (.func 189) #[] #[.pointer (some ⟨I,0,none⟩),.pointer (some ⟨w.heap.size,0,none⟩),.pointer (some ⟨PQ,0,none⟩)])/\w4.cell? ⟨wr.heap.size,0,none⟩=some (.int .i64 av)/\w4.cell? ⟨wr.heap.size,1,none⟩=some (.int .i64 T)/\w4.cell? ⟨wr.heap.size,2,none⟩=some (.string sv):=by
     have bG:=bU.blk (bX.mD J) (fm (by have:=bA.lt;omega) (hd.far (kE _)))
     exact⟨by rw[cT.cells];rfl,by rw[bG.cells];rfl,by rw[bG.cells];rfl,by rw[bG.cells];rfl⟩
    refine M _ _ (fun _=>bN) ?_
    clear M K;refine ah (by rfl) fun K M=>?_
    go_simp;refine M _ _ (fun _=>bN) ?_
    clear M K;refine ax ?_;clear bN bM V cg;by_cases S:p.1=0
    ·have bK:(p.1 != 0)=false:=by simpa using S
     have HE:=kD S;clear S;have cN:Blk w4 I 3 #[.int .i64 (F+((k+1:Nat):Int))]:=by
      rw[show F+((k+1:Nat):Int)=F+k+1 by omega];exact cM
     go_wp2_with fail
     go_roundw
     case rel=>exact⟨k+1,by omega,by go_num,by rw[HP.out];exact HE.out,B4,by rw[HP.out];exact bt,gN,e3,cN⟩
     case measure=>simp[intOf];omega
    ·have bK:(p.1 != 0)=true:=by simpa using S
     have HE:=kD S;clear S;go_wp2_with fail
     go_ret
     rw[bW.out HE.out];exact⟨rfl,B4,bt,gN.qx BL b0⟩
  ·obtain rfl:k=l.length:=by omega
   have bZ:Hid (x.log F Z l=DevS.done ((x.puts L l.length).2.put (F+l.length+1) 3 (aD q) (aH l.length))):=kD (by rw[HL.out,if_neg (by rw[h0];simp),show F+1+(l.length:Int)=F+l.length+1 by omega])
   generalize (x.puts L l.length).2=y at *;obtain⟨p,hp⟩:=zxe (y.put (F+l.length+1) 3 (aD q) (aH l.length));rw[hp]at bZ;have HP:=kD hp;obtain⟨wT,hT⟩:=zex (wr.alloc (.cells #[.func (.func 191) #[] #[.pointer (some ⟨I+1,0,none⟩),.pointer (some ⟨w.heap.size+1+1,0,none⟩)],.func (.func 121) #[.pointer (some ⟨D,0,none⟩)] #[]] 58));have bT:Blk wT wr.heap.size 58 #[.func (.func 191) #[] #[.pointer (some ⟨I+1,0,none⟩),.pointer (some ⟨w.heap.size+1+1,0,none⟩)],.func (.func 121) #[.pointer (some ⟨D,0,none⟩)] #[]]:=by rw[hT];exact zbn
   have BT:Zr wr wT:=by rw[hT];exact(kF _ _).alloc (kE _) _
   have cl:=hd.below BT;have b1:=bA.mD BT;have b2:=b3.mD BT;have b4:=bF.mD BT;have b6:=b7.mD BT;have b9:=ca.mD BT;have nT:wr.heap.size∉I::B':=fm (by have:=bA.lt;omega) (hd.far (kE _))
   have e4:=hg.og nF bC.lt;have e5:=hg.og nR b8.lt;have a7:=zcP 191 121 #[] #[.pointer (some ⟨I+1,0,none⟩),.pointer (some ⟨w.heap.size+1+1,0,none⟩)] #[.pointer (some ⟨D,0,none⟩)] #[] wr.heap.size wT
    (fun W=>p.1=0/\∃U,DevAt W D U p.2/\Grow wT (I::B') W (I::U)) (fun E W=>E=(DevS.done p).1/\∃U,DevAt W D U (DevS.done p).2/\Grow wT (I::B') W (I::U))
    (fun _ _=>by kernel_rfl) (fun _ _=>by kernel_rfl) bT (fun W hJ=>by
     obtain⟨-,U,-,g2⟩:=hJ;exact g2.blk bT nT)
    (by
     refine eJ (zcx D I w.heap.size PQ (I+1) (w.heap.size+1+1) (F+l.length) q (by omega) hq A l.length c ej B' y wT cl b1 cz cA b4 cB b6 cC b2 e4 b9 e5) rfl ?_
     rintro e W' ⟨rfl,U,Y,ao⟩;rw[hp]at Y |-;refine⟨_,rfl,fun S=>⟨S,U,Y,ao⟩,fun S=>?_⟩
     rw[gY S];exact⟨rfl,U,Y,ao⟩)
    (by
     rintro W ⟨S,U,Y,ao⟩;refine eJ (jz D U p.2 W Y) rfl ?_;rintro e W' ⟨rfl,bQ,d8⟩;refine⟨_,rfl,?_⟩
     rw[ga S];exact⟨rfl,U,bQ,ao.trans (d8.qL I)⟩)
   obtain⟨e6,fl⟩:=bF.zc;clear hp bT cl b1 b2 b4 b6 b9 nT h0 hd bA;go_wp2_with fail
   rw[<-hT];refine a7.mono ?_;rintro e w' ⟨E,rfl,rfl,U,Y,ao⟩;clear hT a7;go_wp2_with fail
   go_ret
   rw[bZ.out];exact⟨rfl,U,Y,((hg.trans (Grow.of_below BT _)).trans ao).qx BL b0⟩
theorem z5K {q:Int}{l:List Rec}{k:Nat}(c:k<l.length):(ik q l).getD k default=(l[k].at_,⟨l[k].kind,q,l[k].data⟩):=by
 unfold ik;simp[kN,c]
theorem z9W (D:Nat)(q:Int)(hq:0<=q/\q<4294967296)(wh:Bool)(B:List Nat)(x:DevS)(A:Option Addr)(c:Nat)(l:List Rec)(Y:gv l)(w:World)(h:DevAt w D B x)(hr:RunAt w A l)(a1:∀ad,A=some ad->ad.block∉B):
  Calls prog 138 #[.pointer (some ⟨D,0,none⟩),.agg #[.int .u32 q,.slice A l.length c,.bool wh]] w (da w D B (x.applies q l)):=by
 have bk:=Y.1;obtain⟨wA,hA⟩:=zex (w.alloc (.cells #[.int .u32 q,.slice A l.length c,.bool wh] 216));have bX:Blk wA w.heap.size 216 #[.int .u32 q,.slice A l.length c,.bool wh]:=by rw[hA];exact zbn
 have BA:Zr w wA:=by rw[hA];exact zgr
 have a6:=h.below BA;have a8:RunAt wA A l:=Reads.below hr BA;have nX:w.heap.size∉B:=h.far (kE _);obtain⟨cX,lX⟩:=bX.zc;obtain⟨L,hL⟩:=zex (ik (aD q) l);have HL:Hid (x.applies q l=DevS.done (x.puts L l.length)):=kD (by rw[hL];rfl)
 have ao:Hid (∀k (hk:k<l.length),L.getD k default=(l[k].at_,⟨l[k].kind,aD q,l[k].data⟩)):=kD (fun k hk=>by rw[hL];exact z5K hk)
 clear hL;unfold da;go_enter func138,ntmps138
 go_wp2_with fail
 rw[<-hA];clear hA;go_wp2_with fail
 go_loopw [6,7,11] (fun _ _ i wr=>∃k:Nat,k<=l.length/\i=.int .i64 k/\(x.puts L k).1=0/\∃S,DevAt wr D S (x.puts L k).2/\Grow wA B wr S) (fun _ _ i _=>l.length - (intOf i).toNat)
 case atStart=>exact⟨0,kP _,rfl,rfl,B,a6,Grow.refl _ _⟩
 case round=>
  obtain⟨k,hk,rfl,h0,S,hd,hg⟩:=hrel;have aL:=hg.blk bX nX;by_cases O:k<l.length
  ·have ba:RunAt wr A l:=Reads.grow a8 hg a1;obtain⟨b,off,rfl,bc,c0,c1,c2⟩:=ba.at_ O;have ac:=(Y.2 _ (li O)).2;have K:Hid (x.puts L (k+1)=(x.puts L k).2.put l[k].at_ l[k].kind (aD q) l[k].data):=kD (jJ h0 (ao.out k O));have U:Hid ((x.puts L (k+1)).1≠0->x.applies q l=x.puts L (k+1)):=kD (fun V=>by rw[HL.out,jK V (by omega:k+1<=l.length),gY V])
   generalize l[k]=r at *;obtain⟨av,kv,sv⟩:=r;simp only at c0 c1 c2 ac K
   have BX:Zr wr (wr.alloc (.cells #[.int .i64 av,.int .i64 kv,.string sv] 118)):=(kF _ _).alloc (kE _) _;have hp:=z2Z D S (x.puts L k).2 av kv ((q+1) % 4294967296) sv ac (by omega) _ (hd.below BX)
   obtain⟨bb,bn⟩:=aL.zc;obtain⟨p,J⟩:=zxe (x.puts L (k+1));have ab:(x.puts L k).2.put av kv ((q+1) % 4294967296) sv=p:=by rw[<-J,K.out];rfl
   rw[ab]at hp;rw[J]at U;have HP:=kD J;clear ab J K h0 hd;go_wp2_with fail
   refine hp.mono ?_;rintro e w1 ⟨rfl,B1,I,M⟩;have gN:=(hg.trans (Grow.of_below BX _)).trans M;clear hp;by_cases T:p.1=0
   ·have a2:(p.1 != 0)=false:=by simpa using T
    have HE:=kD T;clear T;go_wp2_with fail
    go_roundw
    case rel=>exact⟨k+1,by omega,by go_num,by rw[HP.out];exact HE.out,B1,by rw[HP.out];exact I,gN⟩
    case measure=>simp[intOf];omega
   ·have a2:(p.1 != 0)=true:=by simpa using T
    have HE:=kD T;clear T;go_wp2_with fail
    go_ret
    rw[U.out HE.out];exact⟨rfl,B1,I,(Grow.of_below BA B).trans gN⟩
  ·obtain rfl:k=l.length:=by omega
   have an:Hid (x.applies q l=(x.puts L l.length).2.flush):=kD (by rw[HL.out,ga h0])
   have a7:=jz D S _ wr hd;clear h0;go_wp2_with fail
   refine a7.mono ?_;rintro e w1 ⟨rfl,I,M⟩;go_wp2_with fail
   go_ret
   rw[an.out];exact⟨rfl,S,I,((Grow.of_below BA B).trans hg).trans M⟩
end Go.Proofs.YtejmknghkbobnaaGreatDoor
