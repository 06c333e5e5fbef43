import Derived.Test.YtejmknghkbobnaaGreatDoorPart02
import Derived.Maps.OwnSet
import Derived.ChangeKeysEq
import Derived.StillTailTactics
import Derived.OrdersHeld
set_option linter.all false
set_option maxRecDepth 100000
set_option maxHeartbeats 0
namespace Go.Proofs.YtejmknghkbobnaaGreatDoor
open Go.Proofs.Tryz
open Go.RowKit Go.Maps
theorem z5Z {xs:List Int}{a j:Nat}{n v:Int}(h:j<a\/a+4<=j)(k:Nat)(c:k<=4):(fx xs a n k).set j v=fx (xs.set j v) a n k:=by
 induction k with
 | zero=>rfl
 | succ k ih=>
  have ih:=ih (by omega)
  show ((fx xs a n k).set (a+k) (nb n k)).set j v=(fx (xs.set j v) a n k).set (a+k) (nb n k)
  rw[<-ih,List.set_comm _ _ (by omega)]
theorem z99 {xs:List Int}{a b:Nat}{n m:Int}(h:a+4<=b\/b+4<=a)(k q:Nat)(c:k<=4)(A:q<=4):fx (fx xs a n k) b m q=fx (fx xs b m q) a n k:=by
 induction q with
 | zero=>rfl
 | succ q ih=>
  have ih:=ih (by omega)
  show (fx (fx xs a n k) b m q).set (b+q) (nb m q)=fx ((fx xs b m q).set (b+q) (nb m q)) a n k
  rw[ih,z5Z (by omega) k c]
theorem z9b {xs:List Int}{a b:Nat}{n m:Int}(h:a+4<=b\/b+4<=a):eT (eT xs a n) b m=eT (eT xs b m) a n:=z99 h 4 4 (by omega) (by omega)
theorem cG (xs:List Int)(a:Nat)(n:Int):(eT xs a n).length=xs.length:=ip _ _ _ _
theorem z7f {xs:List Int}(h:bj xs)(a:Nat)(n:Int)(k:Nat):bj (fx xs a n k):=by
 induction k with
 | zero=>exact h
 | succ k ih=>
  intro x c;rcases List.mem_or_eq_of_mem_set (show x∈(fx xs a n k).set (a+k) (nb n k)from c)with h|h
  ·exact ih x h
  ·subst h;unfold nb;omega
theorem fg {xs:List Int}(h:bj xs)(a:Nat)(n:Int):bj (eT xs a n):=z7f h a n 4
theorem fi:bj zsec:=by
 intro x c;have:=mv c
 omega
theorem z1v {xs:List Int}(h:bj xs)(k:Nat){v:Int}(A:0<=v/\v<256):bj (xs.set k v):=by
 intro x D;rcases List.mem_or_eq_of_mem_set D with c|c
 ·exact h x c
 ·subst c;exact A
theorem jl {kind:Int}(D:0<=kind/\kind<256){s:ByteArray}(I:s.size<=112):bj (eF kind s):=by
 have A:bj (eX kind s.size):=z1v (z1v (z1v fi 0 (by omega)) 1 D) 2 (by omega)
 intro x c;unfold eF at c;rcases lE.1 c with c|c
 ·rcases lE.1 c with c|c
  ·exact A x (List.mem_of_mem_take c)
  ·exact d9 s x c
 ·exact A x (List.mem_of_mem_drop c)
theorem iZ {xs:List Int}(h:bj xs)(k:Nat):bj (xs.take k):=fun x c=>h x (List.mem_of_mem_take c)
theorem z7C (l:List Int)(s:ByteArray)(k:Nat):((ag l).toList.take k++Lib.byteCells s.data.toList++(ag l).toList.drop (k+s.size)).toArray=ag (l.take k++cf s++l.drop (k+s.size)):=by
 unfold ag cf Lib.byteCells;simp[List.map_take,List.map_drop,List.map_map,Function.comp_def]
theorem z1M {P:Program}{ops:Array Oper}{rest:List Oper}{o:Oper}{a:Act}{w:World}{Q:Exit->Act->World->Prop}(K:o.guard=none)(d x:Operand)(J O:TypeId)(Y:o.op=.call { callee:=.builtin .copy,args:=#[d,x],argTypes:=#[J,O] })
  (A:TypeId) (hu:P.underlying J=some (.slice A)) (hs:(P.info? A).map (·.size)=some 1) (g k n c:Nat) (s:ByteArray) (V:a.eval d=.slice (some ⟨g,k,none⟩) n c) (hx:a.eval x=.string s)
  (l:List Int) (t:TypeId) (b:Blk w g t (ag l)) (M:s.size<=n) (I:k+s.size<=l.length)
  (h:wpList P ops Q rest (a.put o.dst (goInt s.size)) (w.setRow g (ag (l.take k++cf s++l.drop (k+s.size))))):wpList P ops Q (o::rest) a w:=by
 refine wpList_plain K fun _ U=>?_
 have D:=Lib.run_copy_row_string (P:=P) w J O o.type A g k n c s (ag l) t hu hs b M (by rw[dJ];exact I)
 rw[z7C]at D;unfold Oper.wp execOp;simp only[Y,resolve,invoke,builtin,Sem.run_bind,Sem.run_pure,Result.andThen_ok,List.map_toArray,kR,kS,V,hx,D];exact U _ _ h
theorem gw:Keyed prog 3:=int_keyed underlying3
def fH (xs:List Int)(a seq:Int)(left:Lit->Bool):List Int:=
 if left (.int .i64 120)=true then (if left (.int .i64 4)=true then xs else eT xs 4 seq)else (if left (.int .i64 4)=true then eT xs 120 a else eT (eT xs 4 seq) 120 a)
theorem z3c (xs:List Int)(a seq:Int)(left:Lit->Bool):(fH xs a seq left).length=xs.length:=by
 unfold fH;split<;>split<;>simp[cG]
theorem gR (S n:Nat)(x:Int)(I:x=(n:Int))(D:n<=124)(xs:List Int)(A:xs.length=128)(w:World)(c:Blk w S 128 (ag xs)):
  Calls prog 220 #[.pointer (some ⟨S,0,none⟩),.int .i64 x] w fun e J=>
   e=.returned (.tuple #[.func (.func 242) #[] #[.pointer (some ⟨w.heap.size,0,none⟩)],.func (.func 243) #[] #[.pointer (some ⟨w.heap.size,0,none⟩)]]) /\
   J=w.alloc (.cells #[.slice (some ⟨S,n,none⟩) 4 4] 113):=by
 subst I;exact z79 S n D (ag xs) (by rw[dJ];exact A) w c
theorem Reads.take {w:World}{A:Option Addr}{xs:List Value}(h:Reads w A xs)(k:Nat):Reads w A (xs.take k):=by
 rcases h with h|⟨b,off,D,I,J⟩
 ·subst h;exact .inl (by simp)
 ·refine .inr ⟨b,off,D,I,fun j u c=>J j u ?_⟩
  rw[mh]at c;split at c
  ·exact c
  ·cases c
theorem zb1 (A:Option Addr)(n c:Nat)(xs:List Int)(M:xs.length=n)(K:n<=100000)(D:bj xs)(w:World)(I:HalfAt w)(J:Reads w A (xs.map (.int .u8))):
  Calls prog 221 #[.slice A n c] w fun e O=>e=.returned (.int .u32 (crc xs))/\Zr w O:=by
 subst M;exact zbp A c xs K D w I J
theorem kj (xs:List Int):0<=crc xs/\crc xs<4294967296:=by
 unfold crc;exact⟨bits_lo_u32 _ _ _,by have:=bits_hi_u32 .xor IntKind.u32.max (crcL 4294967295 xs);omega⟩
theorem KeepEx.grownBy {S:Nat}{w w':World}(h:KeepEx w.heap.size [S] w w'):w.grownBy w' (some S):=
 ⟨h.os,h.tape,h.output,h.size,fun k c A=>h.block k c (by simpa using fun e=>A (by rw[e]))⟩
theorem zaL {xs:List Int}{a seq:Int}{left:Lit->Bool}(h:left (.int .i64 4)=true):fH xs a seq (fun z=>left z&&!z.sameKey (.int .i64 4))=eT (fH xs a seq left) 4 seq:=by
 have c:(Lit.int IntKind.i64 120).sameKey (.int .i64 4)=false:=by decide
 have A:(Lit.int IntKind.i64 4).sameKey (.int .i64 4)=true:=by decide
 unfold fH;simp only[c,A,h,Bool.not_false,Bool.not_true,Bool.and_true,Bool.and_false,if_true];cases left (.int .i64 120)
 ·simp[z9b (xs:=xs) (a:=4) (b:=120) (n:=seq) (m:=a) (by omega)]
 ·simp
theorem z7x {xs:List Int}{a seq:Int}{left:Lit->Bool}(h:left (.int .i64 120)=true):fH xs a seq (fun z=>left z&&!z.sameKey (.int .i64 120))=eT (fH xs a seq left) 120 a:=by
 have c:(Lit.int IntKind.i64 4).sameKey (.int .i64 120)=false:=by decide
 have A:(Lit.int IntKind.i64 120).sameKey (.int .i64 120)=true:=by decide
 unfold fH;simp only[c,A,h,Bool.not_false,Bool.not_true,Bool.and_true,Bool.and_false,if_true];cases left (.int .i64 4)<;>simp
def ii (a seq:Int):DataW Unit:=((DataW.map []).put (.int .i64 4) (.lit (.int .u32 seq))).put (.int .i64 120) (.lit (.int .u32 a))
theorem z9s (a seq x:Int):has (ii a seq) (.int .i64 x)=true->x=4\/x=120:=by
 intro h;by_cases A:x=4
 ·exact .inl A
 by_cases c:x=120
 ·exact .inr c
 unfold ii at h;rw[has_put_other (by intro e;cases e;exact c rfl),has_put_other (by intro e;cases e;exact A rfl)]at h
 cases h
theorem z7y (a seq:Int):has (ii a seq) (.int .i64 4)=true:=by
 unfold ii;rw[has_put_other (by simp)]
 exact has_put_same isMap_empty (show WideAt.IsKeyLit (.int .i64 4)from trivial) _
theorem z4k (a seq:Int):has (ii a seq) (.int .i64 120)=true:=by
 unfold ii;exact has_put_same (isMap_empty.put _ _) (show WideAt.IsKeyLit (.int .i64 120)from trivial) _
theorem z9r (a seq:Int)(z:DataW Unit):(ii a seq).atKey (.int .i64 4) z=.lit (.int .u32 seq):=by
 unfold ii;rw[atKey_put_other (by simp)]
 exact atKey_put_same isMap_empty (show WideAt.IsKeyLit (.int .i64 4)from trivial) _ _
theorem z5r (a seq:Int)(z:DataW Unit):(ii a seq).atKey (.int .i64 120) z=.lit (.int .u32 a):=by
 unfold ii;exact atKey_put_same (isMap_empty.put _ _) (show WideAt.IsKeyLit (.int .i64 120)from trivial) _ _
theorem z9w (a kind seq:Int)(s:ByteArray)(hq:0<=seq/\seq<4294967296)(w:World)(hH:HalfAt w)(hE:bY a kind s.size=0):
  Calls prog 183 #[.int .i64 a,.int .i64 kind,.int .u32 seq,.string s] w (eI a kind seq s w):=by
 have hz:=cy;unfold eI;rw[if_pos hE,hE];have hb:¬(a<0\/256<=a\/kind<1\/255<kind)/\¬112<s.size:=by
  unfold bY at hE;split at hE
  ·omega
  ·split at hE
   ·omega
   ·exact⟨by assumption,by assumption⟩
 clear hE;obtain⟨cg,ci⟩:=hb;have b3:=@run_makeMap prog;go_enter func183,ntmps183
 have J:s.size<=112:=by omega
 have wq:(Lit.int .u32 seq).wf=true:=by simp[Lit.wf,IntKind.min,IntKind.max,IntKind.signed,IntKind.bits];omega
 have wa:(Lit.int .u32 a).wf=true:=by simp[Lit.wf,IntKind.min,IntKind.max,IntKind.signed,IntKind.bits];omega
 have w4:(Lit.int .i64 4).wf=true:=by decide
 have bU:(Lit.int .i64 120).wf=true:=by decide
 go_wp2_with (first
  | (refine z1M rfl _ _ _ _ rfl 5 underlying113 (by kernel_rfl) (w.heap.size+1) 8 112 112 s rfl rfl (eX kind s.size) 128 (by unfold eX;rw[<-dl,<-dl,<-dl];exact zbn) J (by rw[dO];omega) ?_;obtain⟨W1,Y⟩:=zex (World.setRow ((w.alloc (.cells (ag zsec) 128)).alloc (.cells ((((ag zsec).setIfInBounds 0 (.int .u8 76)).setIfInBounds 1 (.int .u8 kind)).setIfInBounds 2 (.int .u8 (s.size:Int))) 128)) (w.heap.size+1) (ag ((eX kind s.size).take 8++cf s++(eX kind s.size).drop (8+s.size))));rw[<-Y];have bR:Blk W1 w.heap.size 128 (ag zsec):=(by rw[Y];exact((Blk.new _ _ _).alloc _).mO (by omega));have bS:Blk W1 (w.heap.size+1) 128 (ag (eF kind s)):=(by rw[Y];exact Blk.setRow (Blk.new' (by simp)));have B1:Zr w W1:=(by rw[Y];exact Below.setRow (((kF _ _).alloc (kE _) _).alloc (by simp) _) (by omega) _);have A:Hid (W1.heap.size=w.heap.size+2):=kD (by rw[Y];simp);clear Y;obtain⟨w5,b4,bN,a2⟩:=(World.ownsMap_made (H:=Unit) W1 prog 3 (plainElem prog 188)).update gw underlying300 (by simp only[maxLen];omega) (keyOf_int_mk underlying3 w4) (plainElem_int underlying188 wq);obtain⟨w6,b7,bO,a6⟩:=bN.update gw underlying300 (by simp only[maxLen];omega) (keyOf_int_mk underlying3 bU) (plainElem_int underlying188 wa);obtain⟨w7,b8,ab,a7,br⟩:=bO.range gw underlying300;have bu:=kD br;clear br))
 have bZ:Blk w7 w.heap.size 128 (ag zsec):=(((bR.alloc _).grown a2 (by simp;rw[A.out];omega)).grown a6 (by simp;rw[A.out];omega)).grown a7 (by simp)
 have b0:Blk w7 (w.heap.size+1) 128 (ag (eF kind s)):=(((bS.alloc _).grown a2 (by simp;rw[A.out];omega)).grown a6 (by simp;rw[A.out];omega)).grown a7 (by simp)
 have z5:=a2.size;have z6:=a6.size;have z7:=a7.size;rw[World.size_alloc]at z5;have B7:Zr w w7:=by
  have b5:Zr w w5:=(B1.alloc B1.size _).grown a2 (by have:=B1.size;simp;omega) (by intro q hq;cases hq;exact B1.size)
  have b6:Zr w w6:=b5.grown a6 b5.size (by intro q hq;cases hq;exact B1.size)
  exact b6.grown a7 b6.size (by intro q hq;cases hq)
 have bP:w7.ranges prog 3 (plainElem prog 188) W1.heap.size w6.heap.size (0+1+1) (ii a seq) (has (ii a seq)) (size (ii a seq)):=ab;clear bR bS B1 a2 a6 a7 bN bO b4 b7 b8 ab;have bL:=eV kind s J;have bG:=jl (kind:=kind) (by omega) J
 have ca:w.heap.size+3<=w6.heap.size:=by have:=A.out;omega
 have cl:w.heap.size+2=W1.heap.size:=A.out.symm;have br:=bu.out;have b2:fH (eF kind s) a seq (has (ii a seq))=eF kind s:=by
  unfold fH;rw[z7y,z4k];rfl
 clear A bu z5 z6 z7 b3 hz;generalize W1.heap.size=mb at *;generalize w6.heap.size=ri at *;go_loopw [11,12,13,14] (fun _ _ _ _ wr=>∃left bC,wr.ranges prog 3 (plainElem prog 188) mb ri (0+1+1) (ii a seq) left bC/\(∀x,left (.int .i64 x)=true->x=4\/x=120)/\Blk wr (w.heap.size+1) 128 (ag (fH (eF kind s) a seq left))/\Blk wr w.heap.size 128 (ag zsec)/\Zr w wr) (fun _ _ _ _ wr=>wr.rangeLeft mb ri)
 case atStart=>exact⟨_,_,bP,z9s a seq,by rw[b2];exact b0,bZ,B7⟩
 case round=>
  obtain⟨left,bC,ab,I,bS,bR,hB⟩:=hrel;go_wp2_with (at_next;refine wpList_next_ranges_ii _ rfl _ rfl 3 188 .i64 .u32 gw underlying3 underlying188 mb ri _ _ _ _ rfl ab ?_ ?_)
  ·intro _ bK;have bJ:fH (eF kind s) a seq left=eG a kind seq s:=by unfold fH eG;rw[bK,bK];rfl
   rw[bJ]at bS;have a8:(eG a kind seq s).length=128:=by unfold eG;rw[cG,cG];exact bL
   have bD:bj (eG a kind seq s):=fg (fg bG _ _) _ _;have bk:Hid (eT (eG a kind seq s) 124 (crc ((eG a kind seq s).take 124))=cq a kind seq s):=kD rfl;generalize eG a kind seq s=xs at bS a8 bD bk;have lS:=bS.lt;have cc:=hH.below hB hH.1;go_wp2_with fail
   refine(gR (w.heap.size+1) 124 124 rfl (by omega) _ a8 wr bS).mono ?_
   rintro e w2 ⟨rfl,rfl⟩;obtain⟨w2,ac⟩:=zex (wr.alloc (.cells #[.slice (some ⟨w.heap.size+1,124,none⟩) 4 4] 113));rw[<-ac];have U:Blk w2 (w.heap.size+1) 128 (ag xs):=by rw[ac];exact bS.alloc _
   have bX:Blk w2 w.heap.size 128 (ag zsec):=by rw[ac];exact bR.alloc _
   have M:Blk w2 wr.heap.size 113 #[.slice (some ⟨w.heap.size+1,124,none⟩) 4 4]:=by rw[ac];exact zbn
   have aL:Zr w w2:=by rw[ac];exact hB.alloc hB.size _
   clear ac;have cm:=M.lt;go_wp2_with fail
   refine(zb1 (some ⟨w.heap.size+1,0,none⟩) 124 128 (xs.take 124) (by rw[kX];omega) (by omega) (iZ bD _) w2 (hH.below aL hH.1) (by rw[List.map_take];exact(el U).take 124)).mono ?_
   rintro e w3 ⟨rfl,a1⟩;have ao:=U.mD a1;have O:=bX.mD a1;have bW:=M.mD a1;have V:=aL.trans (a1.mono aL.size);have b1:=kj (xs.take 124);clear a1;go_wp2_with fail
   refine(z2S (w.heap.size+1) wr.heap.size 124 (by omega) (crc (xs.take 124)) b1 _ a8 w3 ao bW (by omega)).mono ?_
   rintro e w4 ⟨⟨v,rfl⟩,bB,bT⟩;have b9:=O.lt;have bA:=bT.blk O b9 (by simp)
   have cb:Zr w w4:=V.trans (bT.nK V.size (by simp))
   rw[bk.out]at bB;have bn:(cq a kind seq s).length=128:=by rw[<-bk.out,cG];exact a8
   go_wp2_with (first
    | (refine aY rfl _ rfl (w.heap.size+1) rfl bB bn ?_)
    | (refine aA rfl _ _ rfl w.heap.size (cq a kind seq s) rfl rfl bA am bn ?_))
   refine bodyPost_ret (fE rfl rfl rfl (bA.setRow (cs':=ag (cq a kind seq s))) bn) rfl ?_;exact⟨Below.setRow (zgr) (kE _) _,rfl⟩
  ·intro x c w1 bb hwx hwc bq bF bc bM bp bQ ck;have A:=kD bQ;clear bQ;have an:=bS.grown bp (by simp;omega)
   have bw:=bR.grown bp (by simp;omega)
   have av:=hB.grown bp hB.size (by intro q hq;cases hq;omega)
   have zz:=av.size;have cn:=an.lt;have ba:(fH (eF kind s) a seq left).length=128:=by rw[z3c];exact bL
   rcases I x bq with rfl|rfl
   ·have hc:c=seq:=by
     have:=(bF (.nil)).symm.trans (z9r a seq .nil)
     simpa using this
    subst hc;have bt:=kD (zaL (xs:=eF kind s) (a:=a) (seq:=c) bq);go_wp2_with fail
    refine(gR (w.heap.size+1) 4 4 rfl (by omega) _ ba w1 an).mono ?_
    rintro e w2 ⟨rfl,rfl⟩;go_wp2_with fail
    have U:=an.alloc (.cells #[.slice (some ⟨w.heap.size+1,4,none⟩) 4 4] 113);have M:Blk (w1.alloc (.cells #[.slice (some ⟨w.heap.size+1,4,none⟩) 4 4] 113)) w1.heap.size 113 #[.slice (some ⟨w.heap.size+1,4,none⟩) 4 4]:=Blk.new _ _ _;refine(z2S (w.heap.size+1) w1.heap.size 4 (by omega) c (by omega) _ ba _ U M (by omega)).mono ?_
    rintro e w3 ⟨⟨v,rfl⟩,ao,K⟩;have O:=K.blk (bw.alloc _) (by simp;omega) (by simp)
    have V:Zr w w3:=(av.alloc av.size _).trans (K.nK (by simp;omega) (by simp))
    have D:=(bc.alloc (.cells #[.slice (some ⟨w.heap.size+1,4,none⟩) 4 4] 113)).kept K.grownBy (by simp;omega) (by simp;omega)
    go_wp2_with fail
    go_roundw
    case rel=>exact⟨_,bb,D,fun y hy=>I y (by simp at hy;exact hy.1),by rw[bt.out];exact ao,O,V⟩
    case measure=>rw[D.left_eq,ab.left_eq];exact bM
   ·have hc:c=a:=by
     have:=(bF (.nil)).symm.trans (z5r a seq .nil)
     simpa using this
    subst hc;have bt:=kD (z7x (xs:=eF kind s) (a:=c) (seq:=seq) bq);go_wp2_with fail
    refine(gR (w.heap.size+1) 120 120 rfl (by omega) _ ba w1 an).mono ?_
    rintro e w2 ⟨rfl,rfl⟩;go_wp2_with fail
    have U:=an.alloc (.cells #[.slice (some ⟨w.heap.size+1,120,none⟩) 4 4] 113);have M:Blk (w1.alloc (.cells #[.slice (some ⟨w.heap.size+1,120,none⟩) 4 4] 113)) w1.heap.size 113 #[.slice (some ⟨w.heap.size+1,120,none⟩) 4 4]:=Blk.new _ _ _;refine(z2S (w.heap.size+1) w1.heap.size 120 (by omega) c (by omega) _ ba _ U M (by omega)).mono ?_
    rintro e w3 ⟨⟨v,rfl⟩,ao,K⟩;have O:=K.blk (bw.alloc _) (by simp;omega) (by simp)
    have V:Zr w w3:=(av.alloc av.size _).trans (K.nK (by simp;omega) (by simp))
    have D:=(bc.alloc (.cells #[.slice (some ⟨w.heap.size+1,120,none⟩) 4 4] 113)).kept K.grownBy (by simp;omega) (by simp;omega)
    go_wp2_with fail
    go_roundw
    case rel=>exact⟨_,bb,D,fun y hy=>I y (by simp at hy;exact hy.1),by rw[bt.out];exact ao,O,V⟩
    case measure=>rw[D.left_eq,ab.left_eq];exact bM
theorem zaM (a kind seq:Int)(s:ByteArray)(I:s.size<=maxLen)(D:0<=seq/\seq<4294967296)(w:World)(A:HalfAt w):
  Calls prog 183 #[.int .i64 a,.int .i64 kind,.int .u32 seq,.string s] w (eI a kind seq s w):=by
 by_cases c:bY a kind s.size=0
 ·exact z9w a kind seq s D w A c
 ·exact zaN a kind seq s I w c
theorem dP (a kind seq:Int)(s:ByteArray)(h:s.size<=112):(cq a kind seq s).length=128:=by
 unfold cq eG;rw[cG,cG,cG];exact eV kind s h
theorem gp {a kind:Int}(seq:Int){s:ByteArray}(c:bY a kind s.size=0):bj (cq a kind seq s):=by
 have A:(1<=kind/\kind<=255)/\s.size<=112:=by
  unfold bY at c;split at c
  ·omega
  ·split at c<;>omega
 exact fg (fg (fg (jl (by omega) A.2) _ _) _ _) _ _
def dr (ats:List Int):Nat->DataW Unit
 | 0=>.map []
 | k+1=>(dr ats k).put (.int .i64 (ats.getD k 0)) (.lit (.int .i64 k))
def dU (ats:List Int)(a:Int):Nat->Option Nat
 | 0=>none
 | k+1=>if ats.getD k 0=a then some k else dU ats a k
theorem jX (c:List Int)(k:Nat):IsMap (dr c k):=by
 cases k with
 | zero=>exact isMap_empty
 | succ k=>
  induction k with
  | zero=>exact isMap_empty.put _ _
  | succ k ih=>exact ih.put _ _
theorem z59 (c:List Int)(a:Int)(k:Nat):has (dr c k) (.int .i64 a)=(dU c a k).isSome:=by
 induction k with
 | zero=>rfl
 | succ k ih=>
  unfold dr dU;by_cases h:c.getD k 0=a
  ·rw[h,if_pos rfl];exact has_put_same (jX c k) (show WideAt.IsKeyLit (.int .i64 a)from trivial) _
  ·rw[if_neg h,has_put_other (by intro e;cases e;exact h rfl),ih]
theorem z74 (c:List Int)(a:Int)(k:Nat)(z:DataW Unit):(dr c k).atKey (.int .i64 a) z=match dU c a k with|some i=>.lit (.int .i64 i)|none=>z:=by
 induction k with
 | zero=>rfl
 | succ k ih=>
  unfold dr dU;by_cases h:c.getD k 0=a
  ·rw[h,if_pos rfl];exact atKey_put_same (jX c k) (show WideAt.IsKeyLit (.int .i64 a)from trivial) _ _
  ·rw[if_neg h,atKey_put_other (by intro e;cases e;exact h rfl),ih]
theorem jG {c:List Int}{a:Int}{k i:Nat}(h:dU c a k=some i):i<k/\c.getD i 0=a:=by
 induction k with
 | zero=>cases h
 | succ k ih=>
  unfold dU at h;split at h
  ·cases h;exact⟨by omega,by assumption⟩
  ·have:=ih h;exact⟨by omega,this.2⟩
def gd (S:Nat)(ats:List Int)(g:Nat)(a:Nat):Addr:=match dU ats (a:Int) ats.length with|some i=>⟨g,i*129+1,none⟩|none=>⟨S,a*128,none⟩
theorem z9g (D S n c g L cc:Nat)(A:Option Addr)(tk pw:Int)(off:Bool)(M q:Nat)(K:List Int)(a:Nat)(hL:K.length=L)(hA:0<L->A=some ⟨g,0,none⟩)(ha:a<n)(hn:n<=1000)(ab:L<=1000)(w:World)
  (bD:Blk w D 133 (fu S n c (.slice A L cc) tk pw off M)) (U:w.ownsMap prog 3 (plainElem prog 3) M q (dr K L)):
  Calls prog 219 #[.pointer (some ⟨D,0,none⟩),.int .i64 a] w fun e w'=>e=.returned (.pointer (some (gd S K g a)))/\w'=w:=by
 have wa:(Lit.int .i64 (a:Int)).wf=true:=by simp[Lit.wf,IntKind.min,IntKind.max,IntKind.signed,IntKind.bits];omega
 have hz:(zeroValue 3).run prog w=.ok (.int .i64 0) w:=by kernel_rfl
 obtain⟨v,ps,I,Y⟩:=U.look_ok (int_keyed underlying3) underlying131 hz (plainElem_int underlying3 (by decide)) (keyOf_int_mk underlying3 wa)
 obtain⟨i,rfl,J,_⟩:=plainElem_int_inv underlying3 Y;have J:=congrArg Prod.fst J;simp only at J
 rw[z74]at J;rw[z59]at I;unfold fu at bD;have cD:=bD.cells;unfold gd;rw[hL];cases hx:dU K (a:Int) L with
 | none=>
  rw[hx]at J I;have HI:=kD J;clear J Y U hx;simp only[Option.isSome_none]at I;go_enter func219,ntmps219
  go_wp2_with fail
  go_ret
  exact⟨rfl,rfl⟩
 | some p=>
  obtain⟨hp,_⟩:=jG hx;have O:=hA (by omega)
  subst O;rw[hx]at J I;have V:(p:Int)=i:=by simpa using J
  subst V;clear J Y U hx;simp only[Option.isSome_some]at I;go_enter func219,ntmps219
  go_wp2_with fail
  go_ret
  exact⟨rfl,rfl⟩
def SecAt (w:World)(p:Addr)(xs:List Int):Prop:=xs.length=128/\p.spot=none/\∀j,j<128->w.cell? ⟨p.block,p.off+j,none⟩=some (.int .u8 (xs.getD j 0))
theorem SecAt.load {w:World}{p:Addr}{xs:List Int}(h:SecAt w p xs):(loadVar 128 p).run prog w=.ok (.agg (ag xs)) w:=by
 obtain⟨V,D,U⟩:=h;obtain⟨b,off,O⟩:=p;simp only at D
 subst D;have c:(loadCells ⟨b,off,none⟩ 128).run prog w=.ok (ag xs) w:=by
  have:=run_loadCells_list (P:=prog) w ⟨b,off,none⟩ (xs.map (Value.int .u8)) (fun j v I=>by
   have A:(⟨b,off,none⟩:Addr).add j=⟨b,off+j,none⟩:=by unfold Addr.add;split<;>simp_all
   rw[mq]at I;by_cases M:j<xs.length
   ·rw[kQ M,Option.map_some,lx]at I;rw[A,U j (by omega),<-I]
    simp[kN,M]
   ·rw[List.getElem?_eq_none (by omega)]at I;cases I)
  rw[lZ,V]at this;exact this
 have J:(isAgg 128).run prog w=.ok true w:=by kernel_rfl
 have K:(sizeOf 128).run prog w=.ok 128 w:=by kernel_rfl
 unfold loadVar;simp[J,K,c]
theorem ix {ops:Array Oper}{rest:List Oper}{o:Oper}{a:Act}{w:World}{Q:Exit->Act->World->Prop}(c:o.guard=none)(x:Operand)(D:o.op=.load 128 x)
  (p:Addr) (J:a.eval x=.pointer (some p)) {l:List Int} (I:SecAt w p l)
  (h:wpList prog ops Q rest (a.put o.dst (.agg (ag l))) w):wpList prog ops Q (o::rest) a w:=by
 refine wpList_plain c fun _ A=>?_
 unfold Oper.wp execOp;simp only[D,J,Instr.loadAt,Instr.sureAddr,Sem.run_bind,Sem.run_pure,Result.andThen_ok,I.load];exact A _ _ h
theorem fp {D:Func}{m n R:Nat}{tmps:Array Value}{w:World}{t:TypeId}{l:List Int}{e:Int}(O:D.results=#[.cell m 128,.tmp n])(K:tmps.getD m undef=.pointer (some ⟨R,0,none⟩))(M:tmps.getD n undef=.int .i64 e)(b:Blk w R t (ag l))(J:l.length=128):
  (results D tmps).run prog w=.ok (.tuple #[.agg (ag l),.int .i64 e]) w:=by
 have h:=b.pW J;have I:(asAddr (.pointer (some ⟨R,0,none⟩))).run prog w=.ok ⟨R,0,none⟩ w:=rfl;have c:tmps[m]?.getD undef=.pointer (some ⟨R,0,none⟩):=by simpa using K
 have A:tmps[n]?.getD undef=.int .i64 e:=by simpa using M
 simp[results,O,c,A,I,h]
theorem zaC (D S n c g L Y:Nat)(A:Option Addr)(tk pw:Int)(off:Bool)(M q:Nat)(I:List Int)(a:Int)(xs:List Int)(hL:I.length=L)(hA:0<L->A=some ⟨g,0,none⟩)(hn:n<=1000)(ao:L<=1000)(w:World)
  (bD:Blk w D 133 (fu S n c (.slice A L Y) tk pw off M)) (hM:w.ownsMap prog 3 (plainElem prog 3) M q (dr I L)) (O:atE off n a=0->SecAt w (gd S I g a.toNat) xs/\(gd S I g a.toNat).block<w.heap.size):
  Calls prog 175 #[.pointer (some ⟨D,0,none⟩),.int .i64 a] w fun e w'=>Zr w w'/\e=.returned (.tuple #[.agg (ag (if atE off n a=0 then xs else zsec)),.int .i64 (atE off n a)]):=by
 have hz:=cy;have V:Blk (w.alloc (.cells (ag zsec) 128)) D 133 (fu S n c (.slice A L Y) tk pw off M):=bD.alloc _;have K:Blk (w.alloc (.cells (ag zsec) 128)) w.heap.size 128 (ag zsec):=Blk.new _ _ _;have lD:=bD.lt;by_cases J:atE off n a=0
 ·rw[if_pos J];obtain⟨O,ab⟩:=O J;have ac:=O.1;have ha:0<=a/\a<(n:Int):=by
   unfold atE at J;cases off
   ·simp only[Bool.false_eq_true,if_false]at J;split at J
    ·omega
    ·omega
   ·simp at J
  obtain⟨an,rfl⟩:=lz ha.1;rw[lO]at O ab;have U:=z5L D S n c (.slice A L Y) tk pw off M an _ V;rw[J]at U |-;have aL:=z9g D S n c g L Y A tk pw off M q I an hL hA (by omega) hn ao _ V (hM.alloc _)
  have av:SecAt (w.alloc (.cells (ag zsec) 128)) (gd S I g an) xs:=⟨O.1,O.2.1,fun j hj=>by
   rw[<-O.2.2 j hj];exact World.cell?_of_block (Below.heap_alloc w _ _ ab)⟩
  generalize gd S I g an=p at *;clear J bD hM O;go_enter func175,ntmps175
  go_wp2_with fail
  refine U.mono ?_;rintro e w1 ⟨rfl,rfl⟩;go_wp2_with fail
  refine aL.mono ?_;rintro e w1 ⟨rfl,rfl⟩;go_wp2_with (first
   | (refine ix rfl _ rfl p rfl av ?_)
   | (refine aA rfl _ _ rfl w.heap.size xs rfl rfl K am ac ?_))
  refine bodyPost_ret (fp rfl rfl rfl (K.setRow (cs':=ag xs)) ac) rfl ?_;exact⟨Below.setRow (zgr) (kE _) _,rfl⟩
 ·rw[if_neg J];have U:=z5L D S n c (.slice A L Y) tk pw off M a _ V;generalize atE off n a=E at *;have a1:(E != 0)=true:=by simpa using J
  clear J O hM bD;go_enter func175,ntmps175
  go_wp2_with fail
  refine U.mono ?_;rintro e w1 ⟨rfl,rfl⟩;go_wp2_with (refine aA rfl _ _ rfl w.heap.size zsec rfl rfl K am am ?_)
  refine bodyPost_ret (fp rfl rfl rfl (K.setRow (cs':=ag zsec)) am) rfl ?_;exact⟨Below.setRow (zgr) (kE _) _,rfl⟩
theorem z96 (l:List Int)(i:Nat)(h:i<l.length)(w:World):(part 5 (ag l) i).run prog w=.ok (.int .u8 (l.getD i 0)) w:=by
 have c:=bv h;unfold part;simp[c]
theorem eqU8 (d:Nat)(a b:Int)(w:World):(Op.equalIn (d+1) 5 (.int .u8 a) (.int .u8 b)).run prog w=.ok (a==b) w:=by
 simp[Op.equalIn,run_underlying underlying5]
theorem z1X (d:Nat)(xs c:List Int)(w:World):∀is:List Nat,(∀i∈is,i<xs.length/\i<c.length) ->
  (Op.eqItems (d+1) 5 1 (ag xs) (ag c) is).run prog w=.ok (is.all fun i=>xs.getD i 0==c.getD i 0) w
 | [],_=>by simp[Op.eqItems]
 | i::is,h=>by
  have A:=h i (by simp)
  have ih:=z1X d xs c w is (fun j D=>h j (by simp[D]))
  simp only[Op.eqItems,Nat.mul_one,Sem.run_bind,z96 xs i A.1,z96 c i A.2,Result.andThen_ok,eqU8,List.all_cons];cases hq:(xs.getD i 0==c.getD i 0)
  ·simp
  ·simpa using ih
theorem z3x {xs c:List Int}(J:xs.length=c.length):((List.range xs.length).all fun i=>xs.getD i 0==c.getD i 0)=decide (xs=c):=by
 by_cases h:xs=c
 ·subst h;simp
 ·rw[decide_eq_false h];rw[List.all_eq_false];refine Classical.byContradiction fun K=>h ?_
  apply List.ext_getElem J
  intro i A D;have:=fun I=>K ⟨i,by simpa using A,I⟩
  simp[kN,A,D]at this
  exact this
theorem zbs (xs c:List Int)(J:xs.length=128)(K:c.length=128)(w:World):
  (binOp .eql 128 (.agg (ag xs)) (.agg (ag c))).run prog w=.ok (.bool (decide (xs=c))) w:=by
 have A:∃i,prog.info? 5=some i:=by
  obtain⟨i,h,_⟩:=info_parts (show (prog.info? 5).map (fun i=>(i.zero,i.size,i.bytes))=some (some (.int .u8 0),1,1) by kernel_rfl)
  exact⟨i,h⟩
 obtain⟨i,A⟩:=A;have D:prog.cellsOf 5=1:=by kernel_rfl
 rw[run_eql_struct,run_equalIn_array w 9999 (ag xs) (ag c) underlying128 A,D,z1X 9998 xs c w (List.range 128) (fun j I=>by have:=List.mem_range.1 I;omega)]
 rw[<-J,z3x (by omega)]
 rfl
open Go
section
variable {P:Program}{ops:Array Oper}{Q:Exit->Act->World->Prop}{S:World->Prop}{T:Nat}
def anyT (P:Program)(ops:Array Oper)(Q:Exit->Act->World->Prop)(S:World->Prop)(T:Nat):Nat->Array Bool->Act->World->Prop
 | 0,L,a,w=>Region.ready .any ops L=[]/\Q .normal a w
 | f+1,L,a,w=>(Region.ready .any ops L=[]->Q .normal a w) /\
  ∀i∈Region.ready .any ops L,wpOp P ops Q i (fun a' w'=>(i≠T->S w')/\anyT P ops Q S T f (L.setIfInBounds i true) a' w') a w
theorem z4D (f:Nat):∀(L:Array Bool) (a:Act) (w:World),anyT P ops Q S T f L a w->wpAny P .any ops Q f L a w:=by
 induction f with
 | zero=>exact fun _ _ _ h=>h
 | succ f ih=>exact fun L a w h=>⟨h.1,fun i D=>wpOp_mono (fun c I A=>ih _ c I A.2) (h.2 i D)⟩
theorem z88 {i:Nat}{o:Oper}{v:Value}(ho:ops[i]?=some o)(av:Region.noSelect ops=true)(hT:Region.waitsFor .any ops T i=true)
  (hQ:∀c a d v w,Q (.panic c) (Act.put a d v) w->Q (.panic c) a w) (f:Nat):
  ∀(L:Array Bool) (a:Act) (w:World),(∀j p,ops[j]?=some p->j≠i->L.getD j true=false->(∀e∈p.after,Region.binds .any e=true->e.on≠i)->o.apart ops p=true) ->
   i∈Region.ready .any ops L->YieldsIf P ops S o v a->S w->anyT P ops Q S T f (L.setIfInBounds i true) (a.put o.dst v) w->anyT P ops Q S T (f+1) L a w:=by
 have A:=Region.noSelect_spec av;induction f with
 | zero=>
  intro L a w _ I hy M H;refine⟨fun h0=>(by rw[h0]at I;cases I),fun j hj=>?_⟩
  by_cases e:j=i
  ·subst e;exact hy.wpOp ho M ⟨fun _=>M,H⟩
  ·have:=ready_mono hj e;rw[H.1]at this;cases this
 | succ f ih=>
  intro L a w U I hy M H;refine⟨fun h0=>(by rw[h0]at I;cases I),fun j hj=>?_⟩
  by_cases e:j=i
  ·subst e;exact hy.wpOp ho M ⟨fun _=>M,H⟩
  ·have ab:=getD_both (mem_ready.1 I).1;obtain⟨V,p,hp,O⟩:=mem_ready.1 hj;have Y:∀x∈p.after,Region.binds .any x=true->x.on≠i:=fun x hx hb a1=>by
    have:=O x hx hb
    rw[a1,ab]at this;cases this
   have D:j≠T:=fun D=>by
    obtain⟨q,hq,x,hx,hb,aL⟩:=Region.waitsFor_spec hT;rw[D]at hp;rw[hp]at hq;cases hq;exact Y x hx hb aL
   have J:=wpOp_putIf hp (U j p hp e V Y) (fun cs b=>A i o cs b ho) (fun cs b=>A j p cs b hp) (fun c a w=>hQ c a o.dst v w) hy (H.2 j (ready_mono hj e))
   refine wpOp_mono (fun a' w' h'=>⟨h'.2.1,?_⟩) J
   refine ih (L.setIfInBounds j true) a' w' (fun k q hk an ac ao=>U k q hk an ?_ ao) (ready_mono I (Ne.symm e)) h'.1 (h'.2.1 D) ?_
   ·by_cases K:j=k
    ·subst K;exact V
    ·rwa [getD_set_ne true K]at ac
   ·rw[Array.setIfInBounds_comm _ _ e];exact h'.2.2
def jW (P:Program)(ops:Array Oper)(S:World->Prop)(K:Act->Prop):List Oper->Act->Prop
 | [],a=>K a
 | o::r,a=>∃v,YieldsIf P ops S o v a/\jW P ops S K r (a.put o.dst v)
def iw (P:Program)(ops:Array Oper)(Q:Exit->Act->World->Prop)(S:World->Prop):List Oper->Act->World->Prop
 | [],a,w=>Q .normal a w
 | o::r,a,w=>if Region.wanted o (yielded ops a.tmps)then o.wp P a w (fun a' w'=>(r≠[]->S w')/\iw P ops Q S r a' w') Q else (r≠[]->S w)/\iw P ops Q S r (a.put o.dst undef) w
def lexT (ops:Array Oper)(T g:Nat):Nat->Nat->Array Bool->Bool
 | 0,k,L=>Region.seqB .any ops g k L
 | f+1,k,L=>(Region.ready .any ops L).contains k&&Region.free .any ops L k&&Region.waitsFor .any ops T k&&lexT ops T g f (k+1) (L.setIfInBounds k true)
theorem z5J:∀(l:List Oper) (k:Nat) (L:Array Bool) (a:Act) (w:World),(∀j,l[j]?=ops[k+j]?)->Region.seqB .any ops l.length k L=true->k+l.length=T+1->iw P ops Q S l a w->anyT P ops Q S T l.length L a w
 | [],k,L,a,w,_,hB,_,h=>⟨by simpa[Region.seqB]using hB,h⟩
 | o::r,k,L,a,w,hl,hB,hk,h=>by
  have V:ops[k]?=some o:=by simpa using (hl 0).symm
  simp only[lr,Region.seqB,lq,decide_eq_true_eq]at hB;refine⟨fun M=>(by rw[hB.1]at M;cases M),fun i O=>?_⟩
  rw[hB.1]at O;have I:i=k:=by simpa using O
  subst I;have c:∀D A,((r≠[]->S A)/\iw P ops Q S r D A)->(i≠T->S A)/\anyT P ops Q S T r.length (L.setIfInBounds i true) D A:=fun D A K=>
   ⟨fun J=>K.1 (fun e=>by subst e;simp at hk;exact J hk),z5J r (i+1) _ D A (fun j=>by have:=hl (j+1);simpa[Nat.add_assoc,Nat.add_comm 1 j]using this) hB.2 (by simp at hk;omega) K.2⟩
  unfold wpOp;simp only[V];unfold iw at h;by_cases U:Region.wanted o (yielded ops a.tmps)=true
  ·rw[if_pos U]at h |-;exact .inl (Oper.wp_mono c h)
  ·rw[if_neg U]at h |-;exact c _ _ h
theorem z5I {g:Nat}{w:World}{K:Act->Prop}(A:Region.noSelect ops=true)(M:∀c a d v w,Q (.panic c) (Act.put a d v) w->Q (.panic c) a w)(O:S w):
  ∀(l:List Oper) (k:Nat) (L:Array Bool) (a:Act),(∀j,j<l.length->l[j]?=ops[k+j]?)->lexT ops T g l.length k L=true ->
   (∀D I,Region.seqB .any ops g (k+l.length) D=true->K I->anyT P ops Q S T g D I w)->jW P ops S K l a->anyT P ops Q S T (l.length+g) L a w
 | [],k,L,a,_,hB,hK,h=>by
  rw[lH,ld];exact hK L a hB h
 | o::r,k,L,a,hl,hB,hK,h=>by
  have J:ops[k]?=some o:=by simpa using (hl 0 (by simp)).symm
  simp only[lr,lexT,lq]at hB;obtain⟨⟨⟨U,V⟩,Y⟩,h4⟩:=hB;obtain⟨v,hy,h⟩:=h;rw[lr,show r.length+1+g=(r.length+g)+1 by omega]
  refine z88 J A Y M _ L a w (Region.free_spec J V) (by simpa using U) hy O ?_
  exact z5I A M O r (k+1) _ _ (fun j hj=>by have:=hl (j+1) (by simp;omega);simpa[Nat.add_assoc,Nat.add_comm 1 j]using this) h4
   (fun D I hs hk=>hK D I (by rw[lr,show k+(r.length+1)=k+1+r.length by omega];exact hs) hk) h
theorem z1D {id:Nat}{a:Act}{w:World}{l:List Oper}(n:Nat)(S:World->Prop)(hm:P.follows .mixedOrders=true)
  (I:(Region.noSelect l.toArray&&decide (n<l.length)&&lexT l.toArray (l.length - 1) (l.length - n) n 0 (Array.replicate l.length false))=true)
  (K:∀c a t v w,Q (.panic c) (Act.put a (some t) v) w->Q (.panic c) a w) (Y:S w.drew)
  (h:jW P l.toArray S (fun J=>iw P l.toArray Q S (l.drop n) J w.drew) (l.take n) a):(Code.region id l.toArray true).wp P Q a w:=by
 have V:∀c a d v w,Q (.panic c) (Act.put a d v) w->Q (.panic c) a w:=fun c a d v w h=>by
  cases d with
  | none=>exact h
  | some t=>exact K c a t v w h
 simp only[lq,decide_eq_true_eq]at I;obtain⟨⟨M,hn⟩,I⟩:=I;have A:(l.take n).length=n:=by simp;omega
 have D:(l.drop n).length=l.length - n:=by simp
 refine wp_region_any hm ?_;have H:=z5I (P:=P) (Q:=Q) (S:=S) (T:=l.length - 1) (g:=l.length - n) (w:=w.drew) M V Y (l.take n) 0 (Array.replicate l.length false) a
  (fun j O=>by rw[A]at O;simp[O]) (by rw[A];exact I)
  (fun U J hs hk=>by
   have:=z5J (P:=P) (Q:=Q) (S:=S) (T:=l.length - 1) (l.drop n) n U J w.drew (fun j=>by simp[List.getElem?_drop]) (by rw[D];rwa [A,ld]at hs) (by rw[D];omega) hk
   rwa [D]at this) h
 rw[A,show n+(l.length - n)=l.length by omega]at H
 have:=z4D _ _ _ _ H
 simpa using this
theorem z8C {K:Act->Prop}{a:Act}(h:K a):jW P ops S K [] a:=h
theorem kq {K:Act->Prop}{o:Oper}{r:List Oper}{a:Act}(c:o.guard=none)(v:Value)(A:∀w,S w->(execOp a.eval o).run P w=.ok (.value v) w)(h:jW P ops S K r (a.put o.dst v)):jW P ops S K (o::r) a:=
 ⟨v,.inl ⟨by simp only[Region.wanted,c],A⟩,h⟩
theorem z6Q {K:Act->Prop}{o:Oper}{r:List Oper}{a:Act}(c:o.guard=none)(ty:TypeId)(x:Operand)(A:o.op=.load ty x)(v p:Value)(I:a.eval x=p)
  (J:∀w,S w->(Instr.loadAt ty p).run P w=.ok v w) (h:jW P ops S K r (a.put o.dst v)):jW P ops S K (o::r) a:=
 kq c v (fun w D=>by unfold execOp;simp only[A,I,Sem.run_bind,Sem.run_pure,Result.andThen_ok,J w D]) h
theorem z4T {K:Act->Prop}{o:Oper}{r:List Oper}{a:Act}(A:o.guard=none)(t:TypeId)(c:Array (Nat × Operand))(I:o.op=.build t c)(vs:List (Nat × Value))(D:c.toList.map (fun p=>(p.1,a.eval p.2))=vs)(v:Value)
  (J:∀w,(Instr.build t vs.toArray).run P w=.ok v w) (h:jW P ops S K r (a.put o.dst v)):jW P ops S K (o::r) a:=
 kq A v (fun w _=>by
  have e:(c.map fun (i,x)=>(i,a.eval x))=vs.toArray:=by rw[<-D];apply Array.toList_inj.1;simp
  unfold execOp;simp only[I,e,Sem.run_bind,J w,Result.andThen_ok,Sem.run_pure]) h
theorem z2e {o:Oper}{r:List Oper}{a:Act}{w:World}(h:∀K:Act->World->Prop,(∀A c,(r≠[]->S c)->iw P ops Q S r A c->K A c)->if Region.wanted o (yielded ops a.tmps)then o.wp P a w K Q else K (a.put o.dst undef) w):iw P ops Q S (o::r) a w:=
 h _ fun _ _ D I=>⟨D,I⟩
theorem z4q {o:Oper}{r:List Oper}{a:Act}{w w':World}(A:o.guard=none)(v:Value)(c:(execOp a.eval o).run P w=.ok (.value v) w')(I:r≠[]->S w')(h:iw P ops Q S r (a.put o.dst v) w'):iw P ops Q S (o::r) a w:=by
 refine z2e fun K D=>?_
 simp only[Region.wanted,A,if_true];unfold Oper.wp;rw[c];exact D _ _ I h
theorem z5y {o:Oper}{r:List Oper}{a:Act}{w w':World}(D:o.guard=none)(t:TypeId)(n:Nat)(c:Array (Nat × Operand))(K:o.op=.buildSlice t n c)(vs:List (Nat × Value))(I:c.toList.map (fun p=>(p.1,a.eval p.2))=vs)(v:Value)
  (A:(Instr.buildSlice t n vs.toArray).run P w=.ok v w') (J:r≠[]->S w') (h:iw P ops Q S r (a.put o.dst v) w'):iw P ops Q S (o::r) a w:=by
 have e:(c.map fun (i,x)=>(i,a.eval x))=vs.toArray:=by rw[<-I];apply Array.toList_inj.1;simp
 exact z4q D v (by unfold execOp;simp only[K,e,Sem.run_bind,A,Result.andThen_ok,Sem.run_pure]) J h
theorem z4p {o:Oper}{r:List Oper}{a:Act}{w w':World}(A:o.guard=none)(s x:Operand)(t:TypeId)(I:o.op=.call { callee:=.builtin .append,args:=#[s,x],argTypes:=#[t,t] })(p q v:Value)(J:a.eval s=p)(K:a.eval x=q)
  (c:(Builtin.append_ #[t,t] o.type #[p,q]).run P w=.ok v w') (D:r≠[]->S w') (h:iw P ops Q S r (a.put o.dst v) w'):iw P ops Q S (o::r) a w:=
 z4q A v (by unfold execOp;simp only[I,resolve,invoke,builtin,Sem.run_bind,Sem.run_pure,Result.andThen_ok,List.map_toArray,kR,kS,J,K,c]) D h
end
end Go.Proofs.YtejmknghkbobnaaGreatDoor
