import Derived.Test.YtejmknghkbobnaaGreatDoorPart01
import Derived.RangeFuncNested
import Derived.RangeFuncBound
import Derived.RangeFuncCalls
import Derived.RangeFuncLeaves
import Derived.RangeFuncBox
import Derived.Shelf.Abstract
import Derived.Shelf.RegionOpen
import Derived.OwnWalkIn
import Derived.TacticsInMore
import Derived.LoopNIn
import Derived.LoopIn
import Derived.Deep.WholeRow
import Derived.Lib.BufferWrite
import Derived.Maps.OwnRows
import Derived.Maps.OwnOps
import Derived.Maps.RangeWalk
set_option linter.all false
set_option maxRecDepth 100000
set_option maxHeartbeats 0
namespace Go.Proofs.YtejmknghkbobnaaGreatDoor
open Go.Proofs.Tryz
open Go.RowKit
def gk (x:Int)(m:Nat):Bool:=bits BinOp.and IntKind.u8 (x / 2 ^ m) 1==1
def gx (xs:List Int)(k:Nat):Bool:=gk (xs.getD (k / 8) 0) (k % 8)
def fJ (xs:List Int)(n:Nat):Nat->List Bool
 | 0=>List.replicate n false
 | k+1=>if k<n then (fJ xs n k).set k (gx xs k)else fJ xs n k
theorem dc (xs:List Int)(n k:Nat):(fJ xs n k).length=n:=by
 induction k with
 | zero=>simp[fJ]
 | succ k ih=>unfold fJ;split<;>simp[ih]
theorem z4N {xs:List Int}{n k:Nat}(h:k<n):fJ xs n (k+1)=(fJ xs n k).set k (gx xs k):=by
 show (if k<n then _ else _)=_
 rw[if_pos h]
theorem z2y {xs:List Int}{n k:Nat}(h:¬k<n):fJ xs n (k+1)=fJ xs n k:=by
 show (if k<n then _ else _)=_
 rw[if_neg h]
theorem zbq (xs:List Int)(n k b:Nat)(D:b<n):(fJ xs n k)[b]?=some (if b<k then gx xs b else false):=by
 induction k with
 | zero=>simp[fJ,D]
 | succ k ih=>
  by_cases c:k<n
  ·rw[z4N c,List.getElem?_set];by_cases h:k=b
   ·subst h;simp[dc,c]
   ·rw[if_neg h,ih];by_cases A:b<k
    ·rw[if_pos A,if_pos (by omega)]
    ·rw[if_neg A,if_neg (by omega)]
  ·rw[z2y c,ih];rw[if_pos (by omega),if_pos (by omega)]
def fy (l:List Bool):Array Value:=(l.map Value.bool).toArray
theorem iM (n:Nat):fy (List.replicate n false)=fill (.bool false) n:=by rw[z2C];unfold fy;simp
theorem kh (l:List Bool)(m:Nat)(x:Bool):(fy l).setIfInBounds m (.bool x)=fy (l.set m x):=by
 unfold fy;simp[List.map_set]
theorem kg {l:List Bool}{m:Nat}(h:m<l.length):(fy l)[m]?=some (.bool (l.getD m false)):=by
 unfold fy;simp[h]
theorem z1k {w:World}{g:Nat}{t:TypeId}{l:List Bool}(h:Blk w g t (fy l)):Reads w (some ⟨g,0,none⟩) (l.map Value.bool):=
 .inr ⟨g,0,rfl,h.lt,fun j u c=>by rw[h.cells,ld];unfold fy;simpa using c⟩
def eS (xs:List Int)(n k:Nat):Prop:=∀b,n<=b->b<k->gx xs b=false
def z0J (s j i:Int)(xs:List Int)(w:World)(e:Ending)(w':World):Prop:=
 Zr w w' /\
  ((rgE s j i≠0/\e=.returned (.tuple #[.agg #[.int .i64 0,.int .i64 0,.int .i64 0,.slice none 0 0],.int .i64 (rgE s j i)])) \/
  (rgE s j i=0/\xs.length≠96/\e=.returned (.tuple #[.agg #[.int .i64 0,.int .i64 0,.int .i64 0,.slice none 0 0],.int .i64 3])) \/
  (rgE s j i=0/\xs.length=96/\¬eS xs (rgB s j i).toNat 768/\e=.returned (.tuple #[.agg #[.int .i64 0,.int .i64 0,.int .i64 0,.slice none 0 0],.int .i64 6])) \/
  (rgE s j i=0/\xs.length=96/\eS xs (rgB s j i).toNat 768/\∃g,e=.returned (.tuple #[.agg #[.int .i64 s,.int .i64 j,.int .i64 i,.slice (some ⟨g,0,none⟩) (rgB s j i).toNat (rgB s j i).toNat],.int .i64 0]) /\
   w.heap.size<=g/\Reads w' (some ⟨g,0,none⟩) ((fJ xs (rgB s j i).toNat 768).map .bool)))
theorem z6E (s j i:Int)(A:Option Addr)(c:Nat)(xs:List Int)(bc:xs.length<=maxLen)(w:World)(hR:Reads w A (xs.map (.int .u8))):
  Calls prog 99 #[.agg #[.int .i64 s,.int .i64 j,.int .i64 i],.slice A xs.length c] w (z0J s j i xs w):=by
 go_enter func99,ntmps99
 go_wp2_with fail
 refine(z8X s j i _).mono ?_;rintro e M ⟨I,⟨V,rfl⟩|⟨V,g,rfl,hg,T⟩⟩
 ·have a2:(rgE s j i != 0)=true:=by simpa using V
  have HE:=kD V;clear V;have D:Blk M (w.heap.size+1) 47 #[.int .i64 0,.int .i64 0,.int .i64 0,.slice none 0 0]:=Blk.mD zbn I
  have B1:Zr w M:=eE I;clear I;have U:=D.cells;have fR:=D.free;have lR:=D.lt;go_wp2_with fail
  refine bodyPost_ret (v:=.tuple #[.agg #[.int .i64 0,.int .i64 0,.int .i64 0,.slice none 0 0],.int .i64 (rgE s j i)]) (by simp[results,results99,go_sem,U,lR]) rfl ?_
  exact⟨zgr,.inl ⟨HE.out,rfl⟩⟩
 ·have a2:(rgE s j i != 0)=false:=by simpa using V
  have HE:=kD V;clear V;have D:Blk M (w.heap.size+1) 47 #[.int .i64 0,.int .i64 0,.int .i64 0,.slice none 0 0]:=Blk.mD zbn I
  have B1:Zr w M:=eE I;clear I;have U:=D.cells;have fR:=D.free;have lR:=D.lt;have ab:Blk M g 4 (fill (.bool false) (rgB s j i).toNat):=T;by_cases O:xs.length=96
  ·have hn:((xs.length:Int) != 96)=false:=by rw[O];rfl
   unfold z0J;generalize ac:(rgB s j i).toNat=n at *;have NN:=kD ac;clear ac;have K:Blk M g 4 (fy (fJ xs n 0)):=by rw[show fJ xs n 0=List.replicate n false from rfl,iM];exact ab
   clear T ab;go_wp2_with fail
   have bW:Blk (M.alloc (.cells #[.int .i64 s,.int .i64 j,.int .i64 i,.slice (some ⟨g,0,none⟩) n n] 47)) M.heap.size 47 #[.int .i64 s,.int .i64 j,.int .i64 i,.slice (some ⟨g,0,none⟩) n n]:=Blk.new _ _ _;have aL:=K.alloc (.cells #[.int .i64 s,.int .i64 j,.int .i64 i,.slice (some ⟨g,0,none⟩) n n] 47);have a1:=D.alloc (.cells #[.int .i64 s,.int .i64 j,.int .i64 i,.slice (some ⟨g,0,none⟩) n n] 47);have B2:=B1.alloc B1.size (.cells #[.int .i64 s,.int .i64 j,.int .i64 i,.slice (some ⟨g,0,none⟩) n n] 47);have ba:w.heap.size+2<=g:=by simpa using hg
   have bb:g<M.heap.size:=K.lt;clear U fR hg;go_loopw [28] (fun q wr=>∃k:Nat,k<=768/\q=.int .i64 k/\Blk wr g 4 (fy (fJ xs n k))/\Blk wr (w.heap.size+1) 47 #[.int .i64 0,.int .i64 0,.int .i64 0,.slice none 0 0]/\Blk wr M.heap.size 47 #[.int .i64 s,.int .i64 j,.int .i64 i,.slice (some ⟨g,0,none⟩) n n]/\eS xs n k/\Zr w wr) (fun q _=>768 - (intOf q).toNat)
   case atStart=>exact⟨0,kP _,rfl,aL,a1,bW,fun b _ h=>absurd h (by omega),B2⟩
   case round=>
    obtain⟨k,hk,rfl,K,D,bW,Y,av⟩:=hrel;have cQ:=K.cells;have fQ:=K.free;have U:=D.cells;have fR:=D.free;have cW:=bW.cells;by_cases a6:k<768
    ·have ao:k / 8<xs.length:=by omega
     obtain⟨b,off,rfl,hb,hc⟩:=(hR.below av).at_ (k:=k / 8) (by simpa using ao)
     rw[lf]at hc;have bk:0<=(k:Int) / 8/\(k:Int) / 8<96:=by omega
     have S:gx xs k=gk xs[k / 8] (k % 8):=by unfold gx;simp[ao]
     have HB:=kD S;clear S;generalize xs[k / 8]=x at hc HB;by_cases J:k<n
     ·have hd:=decide_eq_true J;have a8:wr.cell? ⟨g,k,none⟩=some (.bool ((fJ xs n k).getD k false)):=by rw[K.cells];exact kg (by rw[dc];exact J)
      have hs:=kD (z4N (xs:=xs) J);clear cQ;go_wp2_with fail
      go_roundw
      case rel=>exact⟨k+1,by omega,by go_num,by rw[hs.out,HB.out,<-kh];exact K.mG _ _,D.far (by simp;omega) _,bW.far (by simp;omega) _,fun b h1 h2=>Y b h1 (by omega),zgr⟩
      case measure=>simp[intOf];omega
     ·have hd:=decide_eq_false J;have hs:=kD (z2y (xs:=xs) J);clear cQ;cases hbt:gk x (k % 8)
      ·have an:(bits BinOp.and IntKind.u8 (x / 2 ^ (k % 8)) 1==1)=false:=hbt;have HT:=kD hbt;clear hbt;go_wp2_with fail
       go_roundw
       case rel=>exact⟨k+1,by omega,by go_num,by rw[hs.out];exact K,D,bW,fun b h1 h2=>by
        by_cases hbk:b=k
        ·subst hbk;rw[HB.out,HT.out]
        ·exact Y b h1 (by omega),av⟩
       case measure=>simp[intOf];omega
      ·have an:(bits BinOp.and IntKind.u8 (x / 2 ^ (k % 8)) 1==1)=true:=hbt;have HT:=kD hbt;clear hbt;have lR:=D.lt;go_wp2_with fail
       refine bodyPost_ret (v:=.tuple #[.agg #[.int .i64 0,.int .i64 0,.int .i64 0,.slice none 0 0],.int .i64 6]) (by simp[results,results99,go_sem,U,lR]) rfl ?_
       exact⟨zgr,.inr (.inr (.inl ⟨HE.out,O,fun h=>(by rw[NN.out]at h;have:=h k (by omega) a6;rw[HB.out,HT.out]at this;cases this),rfl⟩))⟩
    ·obtain rfl:k=768:=by omega
     have lR:=D.lt;have lQ:=K.lt;clear cQ;go_wp2_with fail
     refine bodyPost_ret (v:=.tuple #[.agg #[.int .i64 s,.int .i64 j,.int .i64 i,.slice (some ⟨g,0,none⟩) n n],.int .i64 0]) (by simp[results,results99,go_sem,U,lR]) rfl ?_
     have a7:eS xs (rgB s j i).toNat 768:=by rw[NN.out];exact Y
     refine⟨zgr,.inr (.inr (.inr ⟨HE.out,O,a7,g,by rw[NN.out],by omega,?_⟩))⟩
     rw[NN.out];exact z1k (t:=4) (by (repeat' (first|(with_reducible exact K)|refine Blk.far ?_ (by simp;omega) _)))
  ·have hn:((xs.length:Int) != 96)=true:=by simp;omega
   go_wp2_with fail
   refine bodyPost_ret (v:=.tuple #[.agg #[.int .i64 0,.int .i64 0,.int .i64 0,.slice none 0 0],.int .i64 3]) (by simp[results,results99,go_sem,U,lR]) rfl ?_
   exact⟨zgr,.inr (.inl ⟨HE.out,O,rfl⟩)⟩
theorem zbG:∀x:Fin 256,∀m c:Fin 8,gk (orv (x.val:Int) m.val) c.val=(gk (x.val:Int) c.val||c.val==m.val):=by decide +kernel
theorem zbF:∀x:Fin 256,∀m:Fin 8,0<=orv (x.val:Int) m.val/\orv (x.val:Int) m.val<256:=by decide +kernel
def ofBits (f:Nat->Bool):Int:=
 (if f 0 then 1 else 0)+(if f 1 then 2 else 0)+(if f 2 then 4 else 0)+(if f 3 then 8 else 0)+(if f 4 then 16 else 0)+(if f 5 then 32 else 0)+(if f 6 then 64 else 0)+(if f 7 then 128 else 0)
theorem z9Z:∀m:Fin 8,gk 0 m.val=false:=by decide +kernel
def bj (xs:List Int):Prop:=∀x∈xs,0<=x/\x<256
theorem z5S {x:Int}(h:0<=x/\x<256):∃y:Fin 256,x=(y.val:Int):=⟨⟨x.toNat,by omega⟩,by simp;omega⟩
theorem zbE {x:Int}(h:0<=x/\x<256){m c:Nat}(D:m<8)(A:c<8):gk (orv x m) c=(gk x c||c==m):=by
 obtain⟨y,rfl⟩:=z5S h;exact zbG y ⟨m,D⟩ ⟨c,A⟩
theorem zaw {x:Int}(h:0<=x/\x<256){m:Nat}(c:m<8):0<=orv x m/\orv x m<256:=by
 obtain⟨y,rfl⟩:=z5S h;exact zbF y ⟨m,c⟩
theorem aZ {xs:List Int}(h:bj xs)(k:Nat):0<=xs.getD k 0/\xs.getD k 0<256:=by
 by_cases c:k<xs.length
 ·rw[kN,kQ c];exact h _ (li c)
 ·rw[kN,List.getElem?_eq_none (by omega)];simp
theorem kn (us:List Bool)(k:Nat):bj (dZ us k):=by
 induction k with
 | zero=>intro x c;simp[dZ]at c;omega
 | succ k ih=>
  unfold dZ;split
  ·intro x c;rcases List.mem_or_eq_of_mem_set c with h|h
   ·exact ih x h
   ·subst h;exact zaw (aZ ih _) (Nat.mod_lt _ (by omega))
  ·exact ih
theorem z8h {xs:List Int}{k b:Nat}{v:Int}(A:k / 8<xs.length):gx (xs.set (k / 8) v) b=if b / 8=k / 8 then gk v (b % 8)else gx xs b:=by
 unfold gx;rw[kN,kN,List.getElem?_set];by_cases h:b / 8=k / 8
 ·rw[if_pos h.symm,if_pos A,if_pos h];rfl
 ·rw[if_neg (fun c=>h c.symm),if_neg h]
theorem ke {us:List Bool}(S:us.length<=768){k:Nat}(O:k<=us.length)(b:Nat):gx (dZ us k) b=(decide (b<k)&&us.getD b false):=by
 induction k with
 | zero=>
  simp only[Nat.not_lt_zero,decide_false,Bool.false_and];unfold gx;have:(dZ us 0).getD (b / 8) 0=0:=by
   show (List.replicate 96 (0:Int)).getD (b / 8) 0=0
   rw[kN,List.getElem?_replicate];split<;>rfl
  rw[this];exact z9Z ⟨b % 8,Nat.mod_lt _ (by omega)⟩
 | succ k ih=>
  have ih:=ih (by omega)
  have c:us[k]?=some us[k]:=kQ (by omega)
  by_cases I:us[k]=true
  ·rw[I]at c;rw[z2B c,z8h (by rw[ei];omega)]
   by_cases h:b / 8=k / 8
   ·rw[if_pos h,zbE (aZ (kn us k) _) (Nat.mod_lt _ (by omega)) (Nat.mod_lt _ (by omega))]
    have K:gk ((dZ us k).getD (k / 8) 0) (b % 8)=gx (dZ us k) b:=by unfold gx;rw[h]
    rw[K,ih];by_cases hbk:b=k
    ·subst hbk;simp[kN,c]
    ·have J:(b % 8==k % 8)=false:=by simp;omega
     have A:decide (b<k+1)=decide (b<k):=by simp;omega
     rw[J,A,Bool.or_false]
   ·rw[if_neg h,ih];have A:decide (b<k+1)=decide (b<k):=by
     have:b≠k:=fun M=>h (by rw[M])
     simp;omega
    rw[A]
  ·have D:us[k]=false:=by simpa using I
   rw[D]at c;rw[z0Z c,ih];by_cases hbk:b=k
   ·subst hbk;simp[kN,c]
   ·have A:decide (b<k+1)=decide (b<k):=by simp;omega
    rw[A]
theorem zbr {us:List Bool}(A:us.length<=768):fJ (dZ us us.length) us.length 768=us/\eS (dZ us us.length) us.length 768:=by
 constructor
 ·apply List.ext_getElem?
  intro b;by_cases c:b<us.length
  ·rw[zbq _ _ _ _ c,if_pos (by omega),ke A (kE _),kQ c]
   simp[kN,c]
  ·rw[List.getElem?_eq_none (by rw[dc];omega),List.getElem?_eq_none (by omega)]
 ·intro b c _;rw[ke A (kE _)];have:decide (b<us.length)=false:=by simp;omega
  rw[this,Bool.false_and]
def halfL:List Int:=[0x00000000,0x1db71064,0x3b6e20c8,0x26d930ac,0x76dc4190,0x6b6b51f4,0x4db26158,0x5005713c,0xedb88320,0xf00f9344,0xd6d6a3e8,0xcb61b38c,0x9b64c2b0,0x86d3d2d4,0xa00ae278,0xbdbdf21c]
def nib (x:Int):Int:=bits .xor .u32 (halfL.getD (bits .and .u32 x 15).toNat 0) (x / 16)
def crcB (x c:Int):Int:=nib (nib (bits .xor .u32 x c))
def crcL (x:Int)(l:List Int):Int:=l.foldl crcB x
theorem z0R (x:Int)(l:List Int)(k:Nat)(h:k<l.length):crcL x (l.take (k+1))=crcB (crcL x (l.take k)) l[k]:=by
 unfold crcL;rw[kZ h,List.foldl_append];rfl
def crc (l:List Int):Int:=bits .xor .u32 IntKind.u32.max (crcL 4294967295 l)
def HalfAt (w:World):Prop:=0<w.heap.size/\∀j,j<16->w.cell? ⟨0,j,none⟩=some (.int .u32 (halfL.getD j 0))
theorem HalfAt.below {w w':World}{B:Nat}(h:HalfAt w)(c:Below B w w')(A:0<B):HalfAt w':=
 ⟨lh h.1 c.size,fun j D=>(c.cell (p:=⟨0,j,none⟩) A).trans (h.2 j D)⟩
theorem zcp (x:Int):∃n:Nat,bits .and .u32 x 15=(n:Int)/\n<16:=by
 refine⟨(bits .and .u32 x 15).toNat,?_,?_⟩
 ·rw[Int.toNat_of_nonneg (bits_lo_u32 _ _ _)]
 ·have h:bits .and .u32 x 15=IntKind.u32.wrap ((BitVec.ofInt 32 x &&& BitVec.ofInt 32 15).toNat:Int):=rfl;have A:(BitVec.ofInt 32 x &&& BitVec.ofInt 32 15).toNat<=15:=by
   rw[BitVec.toNat_and];exact kO Nat.and_le_right (by decide)
  have c:IntKind.u32.wrap ((BitVec.ofInt 32 x &&& BitVec.ofInt 32 15).toNat:Int)=((BitVec.ofInt 32 x &&& BitVec.ofInt 32 15).toNat:Int):=by
   rw[IntKind.wrap_u32];omega
  rw[h,c];omega
theorem zbK (R:Nat)(A:Option Addr)(c:Nat)(xs:List Int)(hl:xs.length<=100000)(T:bj xs)(M:Int)(w:World)(O:HalfAt w)(hX:Reads w A (xs.map (.int .u8)))(S:Blk w R 325 #[.int .u32 M]):
  Calls prog 252 #[.pointer (some ⟨R,0,none⟩),.slice A xs.length c] w fun e w'=>(∃v,e=.returned v)/\w'=w.setCell ⟨R,0,none⟩ (.int .u32 (crcL M xs)):=by
 have cR:=S.cells;have fR:=S.free;have lR:=S.lt;obtain⟨h0,O⟩:=O;have HH:=kD O;clear O;go_enter func252,ntmps252
 go_wp2_with fail
 go_loopw [4,6,12] (fun x _ q wr=>∃k:Nat,k<=xs.length/\q=.int .i64 k/\x=.int .u32 (crcL M (xs.take k))/\wr=w) (fun _ _ q _=>xs.length - (intOf q).toNat)
 case atStart=>exact⟨0,kP _,rfl,rfl,rfl⟩
 case round=>
  obtain⟨k,hk,rfl,rfl,hw⟩:=hrel;subst hw;by_cases D:k<xs.length
  ·obtain⟨b,off,rfl,hb,hc⟩:=hX.at_ (k:=k) (by simpa using D)
   rw[lf]at hc;have hs:=kD (z0R M xs k D);generalize crcL M (xs.take k)=x at hs;have ac:=T _ (li D);generalize xs[k]=y at hc hs ac;have av:y % 4294967296=y:=by omega
   obtain⟨K,Y,U⟩:=zcp (bits .xor .u32 x y);have an:=HH.out K U;have I:crcB x y=nib (bits .xor .u32 (halfL.getD K 0) (bits .xor .u32 x y / 16)):=by
    unfold crcB;congr 1
    unfold nib;rw[Y];rfl
   obtain⟨n2,ab,V⟩:=zcp (bits .xor .u32 (halfL.getD K 0) (bits .xor .u32 x y / 16));have ao:=HH.out n2 V;have J:crcB x y=bits .xor .u32 (halfL.getD n2 0) (bits .xor .u32 (halfL.getD K 0) (bits .xor .u32 x y / 16) / 16):=by
    rw[I];conv=>lhs;unfold nib
    rw[ab];rfl
   have HX:=kD J;clear I J;generalize halfL.getD K 0=y1 at *;generalize halfL.getD n2 0=y2 at *;go_wp2_with fail
   go_roundw
   case rel=>exact⟨k+1,by omega,by go_num,by rw[hs.out,HX.out],by first|trivial|rfl⟩
   case measure=>simp[intOf];omega
  ·obtain rfl:k=xs.length:=by omega
   rw[lj];go_wp2_with fail
   go_end0
   exact⟨⟨_,rfl⟩,rfl⟩
theorem zcF (A:Option Addr)(c:Nat)(xs:List Int)(Y:xs.length<=100000)(S:bj xs)(w:World)(U:HalfAt w)(V:Reads w A (xs.map (.int .u8))):
  Calls prog 244 #[.int .u32 0,.slice A xs.length c] w (Zq (.int .u32 (crc xs)) w):=by
 have ab:∀(T:Fn) (first I:Array Value) (w:World),(Instr.makeFunc T first I).run prog w=.ok (.func T first I) w:=fun _ _ _ _=>rfl
 have ac:bits BinOp.xor IntKind.u32 IntKind.u32.max 0=4294967295:=by decide
 go_enter func244,ntmps244
 go_wp2_with fail
 obtain⟨K,D⟩:=zex (w.alloc (.cells #[.int .u32 4294967295] 325));rw[<-D];have M:Blk K w.heap.size 325 #[.int .u32 4294967295]:=by rw[D];exact zbn
 have J:Zr w K:=by rw[D];exact(kF _ _).alloc (kE _) _
 clear D;refine(zbK w.heap.size A c xs Y S _ K (U.below J U.1) (V.below J) M).mono ?_;rintro e w' ⟨⟨v,rfl⟩,rfl⟩;have O:=M.mG 0 (.int .u32 (crcL 4294967295 xs));have cR:=O.cells;have lR:=M.lt;go_wp2_with fail
 go_ret
 exact⟨rfl,zgr⟩
theorem zbp (A:Option Addr)(c:Nat)(xs:List Int)(M:xs.length<=100000)(D:bj xs)(w:World)(I:HalfAt w)(J:Reads w A (xs.map (.int .u8))):
  Calls prog 221 #[.slice A xs.length c] w (Zq (.int .u32 (crc xs)) w):=by
 go_enter func221,ntmps221
 go_wp2_with fail
 refine(zcF A c xs M D _ I J).mono ?_;rintro e w' ⟨rfl,K⟩;go_wp2_with fail
 go_ret
 exact⟨rfl,K⟩
open Go.Shelf
structure KeepEx (B:Nat)(bs:List Nat)(w w':World):Prop where
 os:w'.os=w.os
 tape:w'.tape=w.tape
 output:w'.output=w.output
 size:w.heap.size<=w'.heap.size
 block:∀k,k<B->k∉bs->w'.heap[k]?=w.heap[k]?
section
variable {B:Nat}{bs:List Nat}{w w':World}
theorem KeepEx.refl (B:Nat)(bs:List Nat)(w:World):KeepEx B bs w w:=⟨rfl,rfl,rfl,kE _,fun _ _ _=>rfl⟩
theorem KeepEx.trans {a b c:World}(h:KeepEx B bs a b)(k:KeepEx B bs b c):KeepEx B bs a c:=
 ⟨k.os.trans h.os,k.tape.trans h.tape,k.output.trans h.output,kO h.size k.size,fun i A D=>(k.block i A D).trans (h.block i A D)⟩
theorem KeepEx.of_below (h:Below B w w'):KeepEx B bs w w':=⟨h.os,h.tape,h.output,h.size,fun k c _=>h.block k c⟩
theorem KeepEx.nK (h:KeepEx B bs w w'){c:Nat}(I:c<=B)(A:∀k∈bs,c<=k):Below c w w':=
 ⟨h.os,h.tape,h.output,h.size,fun k J=>h.block k (by omega) (fun D=>by have:=A k D;omega)⟩
theorem KeepEx.setCell (W:World){p:Addr}(c:p.block∈bs\/B<=p.block)(u:Value):KeepEx B bs W (W.setCell p u):=
 ⟨rfl,rfl,rfl,by simp,fun k D A=>Below.heap_setCell _ _ _ _ (fun e=>by subst e;rcases c with c|c;exact A c;omega)⟩
theorem KeepEx.grown {A:Option Nat}{W D:World}(c:W.grownBy D A)(K:B<=W.heap.size)(J:∀k,A=some k->k∈bs\/B<=k):KeepEx B bs W D:=
 ⟨c.os,c.tape,c.output,c.size,fun k M I=>c.block k (by omega) (fun e=>by rcases J k e.symm with h|h;exact I h;omega)⟩
theorem KeepEx.alloc (W:World)(c:B<=W.heap.size)(o:Obj):KeepEx B bs W (W.alloc o):=.of_below ((kF _ _).alloc c o)
theorem KeepEx.blk {g:Nat}{t:TypeId}{cs:Array Value}(h:KeepEx B bs w w')(c:Blk w g t cs)(A:g<B)(D:g∉bs):Blk w' g t cs:=(h.block g A D).trans c
theorem KeepEx.cell (h:KeepEx B bs w w'){p:Addr}(A:p.block<B)(c:p.block∉bs):w'.cell? p=w.cell? p:=World.cell?_of_block (w:=w) (h.block p.block A c)
theorem zad {X Y Z:World}(h:KeepEx B bs X Y)(k:KeepEx B bs Y Z):KeepEx B bs X Z:=h.trans k
theorem zac {w:World}(D:B<=w.heap.size)(W:World)(l:Nat)(o c:Obj)(A:w.heap.size<=l)(h:W.heap[l]?=some o)(_:o.isCells=false)(_:o.isWalk=false):KeepEx B bs W (W.putObj l c):=
 KeepEx.grown (grownBy_putObj' W l c) (by have:=(lu.1 h).1;omega) (fun k e=>by cases e;right;omega)
theorem fC {β:Type}{C:Nat}{A:World}(J:B<=A.heap.size)(D:B<=C):OwnFrom C (fun (_:β) W=>KeepEx B bs A W):=
 fun _ _ _ _ c I K=>c.trans (KeepEx.grown I (kO J c.size) (fun k e=>.inr (kO D (K k e).1)))
theorem z2T {β:Type}{C:Nat}{p:β->Prop}:OwnFrom C (fun (s:β) (_:World)=>p s):=fun _ _ _ _ c _ _=>c
end
theorem iN {W K:World}{B base:Nat}{t e:TypeId}{size:Nat}{v I:Value}{k m:Nat}{xs ys:List Value}{D:Obj}
  (hv:Boxed W B t v) (J:W.ownsRow base e size v k xs) (hB:B<base) (U:base<=W.heap.size) (M:K.ownsRow base e size I m ys) (c:(W.alloc D).grownBy K v.ownBlock):
  Boxed K B t v/\Boxed (K.setCell ⟨B,0,none⟩ I) B t I/\(K.setCell ⟨B,0,none⟩ I).ownsRow base e size I m ys/\KeepsOthers W (K.setCell ⟨B,0,none⟩ I)/\KeepEx base [B] W (K.setCell ⟨B,0,none⟩ I):=by
 have A:∀k,v.ownBlock=some k->base<=k:=fun k T=>(J.lt k T).1
 have O:Boxed K B t v:=(hv.alloc D).kept c (fun e'=>by have:=A B e'.symm;omega)
 refine⟨O,O.set I,ownsRow_setCell_below M hB I,?_,?_⟩
 ·refine((KeepsOthers.alloc W D).trans (KeepsOthers.of_grownBy c fun j o V Y=>?_)).trans (KeepsOthers.setCell _ _ _)
  rcases (J.alloc D).2 with ⟨rfl,_⟩|⟨g,ab,ac,rfl,_,S,_⟩
  ·simp[Value.ownBlock]at V
  ·obtain rfl:g=j:=by simpa[Value.ownBlock]using V
   rw[S]at Y;cases Y;rfl
 ·exact((KeepEx.alloc W U D).trans (KeepEx.grown c (by simp;omega) (fun k T=>.inr (A k T)))).trans (KeepEx.setCell _ (.inl (by simp)) _)
theorem kA {n:Nat}{P:Program}{c:Code}{K:Act->World->Prop}{O:Exit->Act->World->Prop}{a:Act}{w:World}(A:Nat->World->Prop)
  (h:c.wpIn Fence.wide n P (fun e I w'=>(e=.normal\/e=.exit 0)/\∃D,I={ a with defers:={ target:=.collected D,args:=#[] }::a.defers }/\A D w') a w)
  (J:∀D w',A D w'->K { a with defers:={ target:=.collected D,args:=#[] }::a.defers } w'):c.wp P (Exit.inBlock 0 (Exit.then K O)) a w:=
 wp_mono (wpIn_wide.1 h) (by
  rintro e I w' ⟨S,D,rfl,M⟩;rcases S with rfl|rfl
  ·exact J D w' M
  ·exact J D w' M)
theorem gW {P:Program}{f:FuncId}{A:Func}{c:Code}{args:Array Value}{w:World}{R:Ending->World->Prop}
  (I:P.funcs[f]?=some A) (D:A.body=some c)
  (h:c.wp P (bodyPostM Fence.wide 9 P A R) { tmps:=args++Array.replicate (A.ntmps - args.size) undef,defers:=[] } w):Calls P f args w R:=
 (callsIn_wide (n:=9)).1 (callsIn_of_wp_marks I D trivial (wpIn_wide.2 h) rfl)
theorem z3U {C:World->Prop}{W:World}(F:World->Prop)(c:F W)(h:∀W,F W->C W):C W:=h W c
theorem jE {n:Nat}{P:Program}{A:Func}{R:Ending->World->Prop}{tmps:Array Value}{D:Nat}{W:World}(v:Value)(c:W.heap[D]?=some (.deferred (some [])))
  (J:(results A tmps).run P (W.putObj D (.deferred none))=.ok v (W.putObj D (.deferred none))) (I:R (.returned v) (W.putObj D (.deferred none))):
  bodyPostM Fence.wide n P A R .ret { tmps,defers:=[{ target:=.collected D,args:=#[] }] } W:=
 ⟨by simp,.inl ⟨_,_,rfl,run_takeDeferred c,⟨v,J,I⟩⟩⟩
theorem z2q {W:World}{g:Nat}{t:TypeId}{cs:Array Value}{D:Nat}{o:Obj}(h:Blk W g t cs)(c:g≠D):Blk (W.putObj D o) g t cs:=h.grown (grownBy_putObj' W D o) (by simpa using c)
theorem z0O {w W:World}{D:Nat}{o:Obj}(h:Zr w W)(c:w.heap.size<=D):Zr w (W.putObj D o):=h.grown (grownBy_putObj' W D o) h.size (by intro k A;cases A;exact c)
def nb (n:Int)(k:Nat):Int:=n / 2 ^ (8*k) % 256
def fx (xs:List Int)(at_:Nat)(n:Int):Nat->List Int
 | 0=>xs
 | k+1=>(fx xs at_ n k).set (at_+k) (nb n k)
def eT (xs:List Int)(at_:Nat)(n:Int):List Int:=fx xs at_ n 4
theorem ip (xs:List Int)(c:Nat)(n:Int)(k:Nat):(fx xs c n k).length=xs.length:=by
 induction k with
 | zero=>rfl
 | succ k ih=>unfold fx;simp[ih]
def fV (xs:List Int)(at_:Nat):Nat->Int
 | 0=>0
 | k+1=>bits .or .u32 (fV xs at_ k) (xs.getD (at_+k) 0*2 ^ (8*k) % 4294967296)
def aE (xs:List Int)(at_:Nat):Int:=fV xs at_ 4
theorem z79 (S n:Nat)(V:n<=124)(cs:Array Value)(O:cs.size=128)(w:World)(J:Blk w S 128 cs):
  Calls prog 220 #[.pointer (some ⟨S,0,none⟩),.int .i64 n] w fun e w'=>
   e=.returned (.tuple #[.func (.func 242) #[] #[.pointer (some ⟨w.heap.size,0,none⟩)],.func (.func 243) #[] #[.pointer (some ⟨w.heap.size,0,none⟩)]]) /\
   w'=w.alloc (.cells #[.slice (some ⟨S,n,none⟩) 4 4] 113):=by
 have T:∀(I:Fn) (first c:Array Value) (w:World),(Instr.makeFunc I first c).run prog w=.ok (.func I first c) w:=fun _ _ _ _=>rfl
 have A:prog.arrayLen 128=128:=by kernel_rfl
 have U:∀w:World,(Instr.sliceAt 128 (.pointer (some ⟨S,0,none⟩)) (some (.int .i64 n)) (some (.int .i64 ((n:Int)+4))) (some (.int .i64 ((n:Int)+4)))).run prog w=.ok (.slice (some ⟨S,n,none⟩) 4 4) w:=fun w=>by
  rw[run_sliceAt_array_lhm w 128 _ (by kernel_rfl) .i64 .i64 .i64 n ((n:Int)+4) ((n:Int)+4) (by omega) (by omega) (by omega) (by rw[A];omega)]
  have D:(sizeOf (prog.elem 128)).run prog w=.ok 1 w:=by kernel_rfl
  rw[D];have K:((n:Int)+4).toNat=n+4:=by omega
  have M:(n:Int).toNat=n:=by omega
  simp only[Result.andThen_ok,slicedAt,K,M,if_neg (show ¬n+4=n by omega),Nat.mul_one]
  rw[show n+4 - n=4 by omega]
  simp[Addr.add]
  omega
 have Y:=J.lt;go_enter func220,ntmps220
 go_wp2_with fail
 go_ret2
 exact⟨rfl,rfl⟩
theorem z2S (S B a:Nat)(ha:a<=124)(n:Int)(hn:0<=n/\n<4294967296)(xs:List Int)(hl:xs.length=128)(w:World)(K:Blk w S 128 (ag xs))(J:Blk w B 113 #[.slice (some ⟨S,a,none⟩) 4 4])(D:S≠B):
  Calls prog 242 #[.int .u32 n,.pointer (some ⟨B,0,none⟩)] w fun e w'=>(∃v,e=.returned v)/\Blk w' S 128 (ag (eT xs a n))/\KeepEx w.heap.size [S] w w':=by
 obtain⟨M,V⟩:=J.zc;have lS:=K.lt;go_enter func242,ntmps242
 go_wp2_with fail
 go_loopw [3,6] (fun _ q wr=>∃k:Nat,k<=4/\q=.int .i64 k/\Blk wr S 128 (ag (fx xs a n k))/\KeepEx w.heap.size [S] w wr) (fun _ q _=>4 - (intOf q).toNat)
 case atStart=>exact⟨0,by omega,rfl,K,KeepEx.refl _ _ _⟩
 case round=>
  obtain⟨k,hk,rfl,c,I⟩:=hrel;have A:=I.blk J V (by simpa using fun h=>D h.symm)
  have M:=A.cells;have Y:=c.free;by_cases T:k<4
  ·have O:wr.cell? ⟨S,a+k,none⟩=some (.int .u8 ((fx xs a n k).getD (a+k) 0)):=by rw[c.cells];exact bv (by rw[ip];omega)
   have U:IntKind.i64.wrap (8*(k:Int))=8*(k:Int):=by rw[kW];omega
   go_wp2_with fail
   go_region
   all_goals go_wp2
   go_roundw
   case rel=>exact⟨k+1,by omega,by go_num,by show Blk _ _ _ (ag ((fx xs a n k).set (a+k) (nb n k)));rw[<-dl];exact(c.mG _ _).drew,I.trans (KeepEx.trans (KeepEx.setCell _ (.inl (by simp)) _) (KeepEx.of_below (kF _ _).drew))⟩
   case measure=>simp[intOf];omega
  ·obtain rfl:k=4:=by omega
   go_wp2_with fail
   go_end0
   exact⟨⟨_,rfl⟩,c,I⟩
theorem gH (xs:List Int)(a k:Nat):0<=fV xs a k/\fV xs a k<4294967296:=by
 cases k with
 | zero=>simp[fV]
 | succ k=>unfold fV;exact⟨bits_lo_u32 _ _ _,by have:=bits_hi_u32 .or (fV xs a k) (xs.getD (a+k) 0*2 ^ (8*k) % 4294967296);omega⟩
theorem iF (S B a:Nat)(V:a<=124)(xs:List Int)(hl:xs.length=128)(c:bj xs)(w:World)(A:Blk w S 128 (ag xs))(D:Blk w B 113 #[.slice (some ⟨S,a,none⟩) 4 4]):
  Calls prog 243 #[.pointer (some ⟨B,0,none⟩)] w fun e w'=>e=.returned (.int .u32 (aE xs a))/\w'=w:=by
 obtain⟨U,lB⟩:=D.zc;have lS:=A.lt;go_enter func243,ntmps243
 go_wp2_with fail
 go_loopw [2,3,6] (fun x _ q wr=>∃k:Nat,k<=4/\q=.int .i64 k/\x=.int .u32 (fV xs a k)/\wr=w) (fun _ _ q _=>4 - (intOf q).toNat)
 case atStart=>exact⟨0,by omega,rfl,rfl,rfl⟩
 case round=>
  obtain⟨k,Y,rfl,rfl,M⟩:=hrel;subst M;by_cases J:k<4
  ·have I:wr.cell? ⟨S,a+k,none⟩=some (.int .u8 (xs.getD (a+k) 0)):=by rw[A.cells];exact bv (by omega)
   have O:=aZ c (a+k);have K:Hid (fV xs a (k+1)=bits .or .u32 (fV xs a k) (xs.getD (a+k) 0*2 ^ (8*k) % 4294967296)):=kD rfl;generalize xs.getD (a+k) 0=y at *;generalize fV xs a k=x at *;have T:y % 4294967296=y:=by omega
   go_wp2_with fail
   go_roundw
   case rel=>exact⟨k+1,by omega,by go_num,by rw[K.out],by first|trivial|rfl⟩
   case measure=>simp[intOf];omega
  ·obtain rfl:k=4:=by omega
   go_wp2_with fail
   go_ret
   exact⟨rfl,rfl⟩
theorem dJ (l:List Int):(ag l).size=l.length:=by unfold ag;simp
theorem z6w (l:List Int):(ag l).all (·.oneCell')=true:=by
 unfold ag;simp[Value.oneCell']
theorem Tryz.pg:(prog.info? 128).map (fun i=>(i.zero,i.size))=some (some (.agg (fill (.int .u8 0) 128)),128):=by kernel_rfl
def zsec:List Int:=List.replicate 128 0
theorem am:zsec.length=128:=m4 ..
theorem cy (w:World):(zeroValue 128).run prog w=.ok (.agg (ag zsec)) w:=by
 unfold zsec;rw[fZ];exact(zero_of_info Tryz.pg).1 w
theorem ij:(prog.info? 128).map (·.size)=some 128:=(zero_of_info Tryz.pg).2
theorem Blk.pW {w:World}{g:Nat}{t:TypeId}{l:List Int}(h:Blk w g t (ag l))(c:l.length=128):(loadVar 128 ⟨g,0,none⟩).run prog w=.ok (.agg (ag l)) w:=
 run_loadVar_row w g t 128 (ag l) (0,0) _ h underlying128 rfl (by rw[dJ,c];exact ij)
theorem Blk.oJ {w:World}{g:Nat}{t:TypeId}{l:List Int}(h:Blk w g t (ag l))(c:l.length=128):(Instr.loadAt 128 (.pointer (some ⟨g,0,none⟩))).run prog w=.ok (.agg (ag l)) w:=by
 simp only[Instr.loadAt,Instr.sureAddr,Sem.run_bind,Sem.run_pure,Result.andThen];exact h.pW c
theorem Blk.setRow {w:World}{g:Nat}{t:TypeId}{cs cs':Array Value}(h:Blk w g t cs):Blk (w.setRow g cs') g t cs':=setRow_heap w g cs cs' t _ h
theorem ak (w:World)(g k:Nat)(cs:Array Value)(h:k≠g):(w.setRow g cs).heap[k]?=w.heap[k]?:=by
 unfold World.setRow;simp only[Array.getElem?_modify];rw[if_neg (fun e=>h e.symm)]
theorem Blk.mO {w:World}{g k:Nat}{t:TypeId}{cs cs':Array Value}(h:Blk w g t cs)(c:g≠k):Blk (w.setRow k cs') g t cs:=(ak w k g cs' c).trans h
theorem Below.setRow {B:Nat}{a w:World}(h:Below B a w){g:Nat}(A:B<=g)(cs:Array Value):Below B a (w.setRow g cs):=
 ⟨h.os,h.tape,h.output,by simpa using h.size,fun k c=>(ak w g k cs (by omega)).trans (h.block k c)⟩
theorem KeepEx.setRow {B:Nat}{bs:List Nat}(W:World){g:Nat}(c:g∈bs\/B<=g)(cs:Array Value):KeepEx B bs W (W.setRow g cs):=
 ⟨rfl,rfl,rfl,by simp,fun k D A=>ak W g k cs (fun e=>by subst e;rcases c with c|c;exact A c;omega)⟩
theorem aY {c:Array Oper}{rest:List Oper}{o:Oper}{a:Act}{w:World}{Q:Exit->Act->World->Prop}(A:o.guard=none)(x:Operand)(I:o.op=.load 128 x)
  (g:Nat) (J:a.eval x=.pointer (some ⟨g,0,none⟩)) {t:TypeId} {l:List Int} (b:Blk w g t (ag l)) (D:l.length=128)
  (h:wpList prog c Q rest (a.put o.dst (.agg (ag l))) w):wpList prog c Q (o::rest) a w:=
 wpList_load_row A 128 x I g J t (ag l) (0,0) _ b underlying128 rfl (by rw[dJ,D];exact ij) h
theorem aA {D:Array Oper}{rest:List Oper}{o:Oper}{a:Act}{w:World}{Q:Exit->Act->World->Prop}(I:o.guard=none)(x y:Operand)(K:o.op=.store 128 x y)
  (g:Nat) (l:List Int) (M:a.eval x=.pointer (some ⟨g,0,none⟩)) (O:a.eval y=.agg (ag l)) {t:TypeId} {c:List Int} (b:Blk w g t (ag c)) (A:c.length=128) (J:l.length=128)
  (h:wpList prog D Q rest (a.put o.dst undef) (w.setRow g (ag l))):wpList prog D Q (o::rest) a w:=
 wpList_store_row I 128 x y K g (ag l) M O t (ag c) b (by rw[dJ,J];exact ij) (by rw[dJ,dJ,A,J]) (z6w l) h
def cf (s:ByteArray):List Int:=s.data.toList.map fun b=>(b.toNat:Int)
theorem dg (s:ByteArray):(cf s).length=s.size:=by unfold cf;rw[lZ];rfl
theorem d9 (s:ByteArray):bj (cf s):=by
 intro x c;unfold cf at c;obtain⟨b,_,rfl⟩:=List.mem_map.1 c;have:=b.toNat_lt
 omega
def bY (a kind:Int)(n:Nat):Int:=if a<0\/256<=a\/kind<1\/255<kind then 7 else if 112<n then 3 else 0
def eX (kind:Int)(n:Nat):List Int:=((zsec.set 0 76).set 1 kind).set 2 n
def eF (kind:Int)(s:ByteArray):List Int:=(eX kind s.size).take 8++cf s++(eX kind s.size).drop (8+s.size)
def eG (a kind seq:Int)(s:ByteArray):List Int:=eT (eT (eF kind s) 4 seq) 120 a
def cq (a kind seq:Int)(s:ByteArray):List Int:=eT (eG a kind seq s) 124 (crc ((eG a kind seq s).take 124))
theorem dO (kind:Int)(n:Nat):(eX kind n).length=128:=by
 unfold eX;rw[List.length_set,List.length_set,List.length_set,am]
theorem eV (kind:Int)(s:ByteArray)(h:s.size<=112):(eF kind s).length=128:=by
 unfold eF;rw[kY,kY,kX,ma,dg,dO];omega
def eI (a kind seq:Int)(s:ByteArray)(w:World)(e:Ending)(w':World):Prop:=
 Zr w w'/\e=.returned (.tuple #[.agg (ag (if bY a kind s.size=0 then cq a kind seq s else zsec)),.int .i64 (bY a kind s.size)])
theorem fE {D:Func}{n R:Nat}{tmps:Array Value}{w:World}{t:TypeId}{l:List Int}{e:Int}(O:D.results=#[.cell 8 128,.tmp n])(J:tmps.getD 8 undef=.pointer (some ⟨R,0,none⟩))(M:tmps.getD n undef=.int .i64 e)(b:Blk w R t (ag l))(K:l.length=128):
  (results D tmps).run prog w=.ok (.tuple #[.agg (ag l),.int .i64 e]) w:=by
 have h:=b.pW K;have I:(asAddr (.pointer (some ⟨R,0,none⟩))).run prog w=.ok ⟨R,0,none⟩ w:=rfl;have c:tmps[8]?.getD undef=.pointer (some ⟨R,0,none⟩):=by simpa using J
 have A:tmps[n]?.getD undef=.int .i64 e:=by simpa using M
 simp[results,O,c,A,I,h]
theorem zaN (a kind seq:Int)(s:ByteArray)(S:s.size<=maxLen)(w:World)(D:bY a kind s.size≠0):
  Calls prog 183 #[.int .i64 a,.int .i64 kind,.int .u32 seq,.string s] w (eI a kind seq s w):=by
 have T:=cy;have c:∃E,bY a kind s.size=E:=⟨_,rfl⟩;obtain⟨E,c⟩:=c;unfold eI;rw[if_neg D,c];have K:=kD c;have A:=D;clear D;unfold bY at c;by_cases M:a<0
 rotate_left;by_cases O:256<=a
 rotate_left;by_cases a3:kind<1
 rotate_left;by_cases a4:255<kind
 rotate_left;by_cases a5:112<s.size
 rotate_left
 ·exact absurd (by unfold bY;rw[if_neg (by omega),if_neg (by omega)]) A
 all_goals
  clear A;first
   | (rw[if_pos (by omega)]at c)
   | (rw[if_neg (by omega),if_pos (by omega)]at c)
  subst c;have I:Blk ((w.alloc (.cells (ag zsec) 128)).alloc (.cells (ag zsec) 128)) w.heap.size 128 (ag zsec):=(Blk.new _ _ _).alloc _;have J:Blk ((w.alloc (.cells (ag zsec) 128)).alloc (.cells (ag zsec) 128)) (w.heap.size+1) 128 (ag zsec):=Blk.new' (by simp)
  go_enter func183,ntmps183
  go_wp2_with (first
   | (refine aY rfl _ rfl (w.heap.size+1) rfl J am ?_)
   | (refine aA rfl _ _ rfl w.heap.size zsec rfl rfl I am am ?_))
  refine bodyPost_ret (fE rfl rfl rfl (I.setRow (cs':=ag zsec)) am) rfl ?_;exact⟨Below.setRow (zgr) (kE _) _,rfl⟩
def fu (S n c:Nat)(cv:Value)(tk pw:Int)(off:Bool)(M:Nat):Array Value:=#[.slice (some ⟨S,0,none⟩) n c,cv,.int .i64 tk,.int .i64 pw,.bool off,.map (some M)]
theorem z0U (D S n c:Nat)(cv:Value)(K J:Int)(off:Bool)(M:Nat)(w:World)(A:Blk w D 133 (fu S n c cv K J off M)):
  Calls prog 54 #[.pointer (some ⟨D,0,none⟩)] w fun e w'=>e=.returned (.bool true)/\w'=w:=by
 unfold fu at A;have O:=A.cells;have I:=run_neq_map_nil (P:=prog) w 131 3 3 (some M) underlying131;go_enter func54,ntmps54
 go_wp2_with fail
 go_ret
 exact⟨rfl,rfl⟩
def kB (off:Bool):Int:=if off then 13 else 0
theorem z47 (D S n c:Nat)(cv:Value)(K J:Int)(off:Bool)(M:Nat)(w:World)(A:Blk w D 133 (fu S n c cv K J off M)):
  Calls prog 186 #[.pointer (some ⟨D,0,none⟩)] w fun e w'=>e=.returned (.int .i64 (kB off))/\w'=w:=by
 have I:=z0U D S n c cv K J off M w A;unfold fu at A;have O:=A.cells;cases off
 all_goals
  go_enter func186,ntmps186
  go_wp2_with fail
  refine I.mono ?_;rintro e T ⟨rfl,rfl⟩;go_wp2_with fail
  go_ret
  exact⟨rfl,rfl⟩
def atE (off:Bool)(n:Nat)(a:Int):Int:=if off then 13 else if a<0\/(n:Int)<=a then 7 else 0
theorem z5L (D S n c:Nat)(cv:Value)(T O:Int)(off:Bool)(M:Nat)(a:Int)(w:World)(A:Blk w D 133 (fu S n c cv T O off M)):
  Calls prog 184 #[.pointer (some ⟨D,0,none⟩),.int .i64 a] w fun e w'=>e=.returned (.int .i64 (atE off n a))/\w'=w:=by
 have I:=z47 D S n c cv T O off M w A;unfold fu at A;have cD:=A.cells;unfold kB at I;cases off
 ·by_cases V:a<0
  rotate_left;by_cases Y:(n:Int)<=a
  all_goals
   have J:Hid (atE false n a=if a<0\/(n:Int)<=a then 7 else 0):=kD rfl
   first
    | (have K:Hid (atE false n a=0):=kD (by rw[J.out,if_neg (by omega)]))
    | (have K:Hid (atE false n a=7):=kD (by rw[J.out,if_pos (by omega)]))
   go_enter func184,ntmps184
   go_wp2_with fail
   refine I.mono ?_;rintro e U ⟨rfl,rfl⟩;go_wp2_with fail
   go_ret
   exact⟨by rw[K.out];rfl,rfl⟩
 ·go_enter func184,ntmps184
  go_wp2_with fail
  refine I.mono ?_;rintro e U ⟨rfl,rfl⟩;go_wp2_with fail
  go_ret
  exact⟨rfl,rfl⟩
end Go.Proofs.YtejmknghkbobnaaGreatDoor
