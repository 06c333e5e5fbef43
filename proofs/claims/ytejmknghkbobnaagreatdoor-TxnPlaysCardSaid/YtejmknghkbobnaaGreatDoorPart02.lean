import Derived.Test.YtejmknghkbobnaaGreatDoorPart00
import Derived.Test.YtejmknghkbobnaaGreatDoorPart01
import Derived.RangeFuncNested
import Derived.RangeFuncBound
import Derived.RangeFuncCalls
import Derived.RangeFuncLeaves
import Derived.RangeFuncBox
import Derived.Shelf.Abstract
import Derived.Shelf.RegionOpen
import Derived.OwnWalkIn
import Derived.TacticsInMore
import Derived.LoopNIn
import Derived.LoopIn
import Derived.Deep.WholeRow
import Derived.Lib.BufferWrite
import Derived.Maps.OwnRows
import Derived.Maps.OwnOps
import Derived.Maps.RangeWalk
set_option linter.unusedVariables false
set_option linter.unusedSimpArgs false
set_option maxRecDepth 100000
set_option maxHeartbeats 8000000
namespace Go.Proofs.YtejmknghkbobnaaGreatDoor
open Go.Proofs.Tryz
open Go.RowKit
def z3u (x:Int)(m:Nat):Bool:=bits BinOp.and IntKind.u8 (x / 2 ^ m) 1==1
def z3O (xs:List Int)(k:Nat):Bool:=z3u (xs.getD (k / 8) 0) (k % 8)
def decS (xs:List Int)(n:Nat):Nat→List Bool
 | 0=>List.replicate n false
 | k+1=>if k<n then (decS xs n k).set k (z3O xs k)else decS xs n k
theorem z18 (xs:List Int)(n k:Nat):(decS xs n k).length=n:=by
 induction k with
 | zero=>simp[decS]
 | succ k ih=>unfold decS;split<;>simp[ih]
theorem z9x {xs:List Int}{n k:Nat}(h:k<n):decS xs n (k+1)=(decS xs n k).set k (z3O xs k):=by
 show (if k<n then _ else _)=_
 rw[if_pos h]
theorem z8a {xs:List Int}{n k:Nat}(h:¬k<n):decS xs n (k+1)=decS xs n k:=by
 show (if k<n then _ else _)=_
 rw[if_neg h]
theorem zgt (xs:List Int)(n k b:Nat)(hb:b<n):(decS xs n k)[b]?=some (if b<k then z3O xs b else false):=by
 induction k with
 | zero=>simp[decS,hb]
 | succ k ih=>
  by_cases hk:k<n
  ·rw[z9x hk,List.getElem?_set];by_cases h:k=b
   ·subst h;simp[z18,hk]
   ·rw[if_neg h,ih];by_cases h2:b<k
    ·rw[if_pos h2,if_pos (by omega)]
    ·rw[if_neg h2,if_neg (by omega)]
  ·rw[z8a hk,ih];rw[if_pos (by omega),if_pos (by omega)]
def z2Q (l:List Bool):Array Value:=(l.map Value.bool).toArray
theorem z3L (n:Nat):z2Q (List.replicate n false)=fill (.bool false) n:=by rw[z8e];unfold z2Q;simp
theorem z57 (l:List Bool)(m:Nat)(x:Bool):(z2Q l).setIfInBounds m (.bool x)=z2Q (l.set m x):=by
 unfold z2Q;simp[List.map_set]
theorem z4Y {l:List Bool}{m:Nat}(h:m<l.length):(z2Q l)[m]?=some (.bool (l.getD m false)):=by
 unfold z2Q;simp[h]
theorem z6B {w:World}{g:Nat}{t:TypeId}{l:List Bool}(h:Blk w g t (z2Q l)):Reads w (some ⟨g,0,none⟩) (l.map Value.bool):=
 .inr ⟨g,0,rfl,h.lt,fun j u hu=>by rw[h.cells,zi8];unfold z2Q;simpa using hu⟩
def z1X (xs:List Int)(n k:Nat):Prop:=∀b,n≤b→b<k→z3O xs b=false
def z6o (s j i:Int)(xs:List Int)(w:World)(e:Ending)(w':World):Prop:=
 Below w.heap.size w w' ∧
  ((rgE s j i≠0∧e=.returned (.tuple #[.agg #[.int .i64 0,.int .i64 0,.int .i64 0,.slice none 0 0],.int .i64 (rgE s j i)])) ∨
  (rgE s j i=0∧xs.length≠96∧e=.returned (.tuple #[.agg #[.int .i64 0,.int .i64 0,.int .i64 0,.slice none 0 0],.int .i64 3])) ∨
  (rgE s j i=0∧xs.length=96∧¬z1X xs (rgB s j i).toNat 768∧e=.returned (.tuple #[.agg #[.int .i64 0,.int .i64 0,.int .i64 0,.slice none 0 0],.int .i64 6])) ∨
  (rgE s j i=0∧xs.length=96∧z1X xs (rgB s j i).toNat 768∧∃g,e=.returned (.tuple #[.agg #[.int .i64 s,.int .i64 j,.int .i64 i,.slice (some ⟨g,0,none⟩) (rgB s j i).toNat (rgB s j i).toNat],.int .i64 0]) ∧
   w.heap.size≤g∧Reads w' (some ⟨g,0,none⟩) ((decS xs (rgB s j i).toNat 768).map .bool)))
theorem zcc (s j i:Int)(A:Option Addr)(c:Nat)(xs:List Int)(hml:xs.length≤maxLen)(w:World)(hR:Reads w A (xs.map (.int .u8))):
  Calls prog 99 #[.agg #[.int .i64 s,.int .i64 j,.int .i64 i],.slice A xs.length c] w (z6o s j i xs w):=by
 go_enter func99,ntmps99
 go_wp2_with fail
 refine(ze7 s j i _).mono ?_;rintro e w1 ⟨hb1,⟨hE,rfl⟩|⟨hE,g,rfl,hg,hrow⟩⟩
 ·have hE':(rgE s j i != 0)=true:=by simpa using hE
  have HE:=zhs hE;clear hE;have bR:Blk w1 (w.heap.size+1) 47 #[.int .i64 0,.int .i64 0,.int .i64 0,.slice none 0 0]:=Blk.belowAll (by (repeat' (first|(with_reducible assumption)|exact Blk.new' (by simp)|refine Blk.alloc ?_ _))) hb1
  have B1:Below w.heap.size w w1:=z1W hb1;clear hb1;have cR:=bR.cells;have fR:=bR.free;have lR:=bR.lt;go_wp2_with fail
  refine bodyPost_ret (v:=.tuple #[.agg #[.int .i64 0,.int .i64 0,.int .i64 0,.slice none 0 0],.int .i64 (rgE s j i)]) (by simp[results,results99,go_sem,cR,lR]) rfl ?_
  exact⟨by (repeat' (first|with_reducible (first|exact zho _ _|assumption|refine zhp ?_ ?_ _|refine zhq ?_|refine z00 ?_ _|refine zhr ?_ ?_ _|exact zhT _)|omega|(simp;done)|(simp;omega))),.inl ⟨HE.out,rfl⟩⟩
 ·have hE':(rgE s j i != 0)=false:=by simpa using hE
  have HE:=zhs hE;clear hE;have bR:Blk w1 (w.heap.size+1) 47 #[.int .i64 0,.int .i64 0,.int .i64 0,.slice none 0 0]:=Blk.belowAll (by (repeat' (first|(with_reducible assumption)|exact Blk.new' (by simp)|refine Blk.alloc ?_ _))) hb1
  have B1:Below w.heap.size w w1:=z1W hb1;clear hb1;have cR:=bR.cells;have fR:=bR.free;have lR:=bR.lt;have bQ0:Blk w1 g 4 (fill (.bool false) (rgB s j i).toNat):=hrow;by_cases h96:xs.length=96
  ·have hn:((xs.length:Int) != 96)=false:=by rw[h96];rfl
   unfold z6o;generalize hNN:(rgB s j i).toNat=n at *;have NN:=zhs hNN;clear hNN;have bQ:Blk w1 g 4 (z2Q (decS xs n 0)):=by rw[show decS xs n 0=List.replicate n false from rfl,z3L];exact bQ0
   clear hrow bQ0;go_wp2_with fail
   have bW:Blk (w1.alloc (.cells #[.int .i64 s,.int .i64 j,.int .i64 i,.slice (some ⟨g,0,none⟩) n n] 47)) w1.heap.size 47 #[.int .i64 s,.int .i64 j,.int .i64 i,.slice (some ⟨g,0,none⟩) n n]:=Blk.new _ _ _;have bQ1:=bQ.alloc (.cells #[.int .i64 s,.int .i64 j,.int .i64 i,.slice (some ⟨g,0,none⟩) n n] 47);have bR1:=bR.alloc (.cells #[.int .i64 s,.int .i64 j,.int .i64 i,.slice (some ⟨g,0,none⟩) n n] 47);have B2:=B1.alloc B1.size (.cells #[.int .i64 s,.int .i64 j,.int .i64 i,.slice (some ⟨g,0,none⟩) n n] 47);have hg2:w.heap.size+2≤g:=by simpa using hg
   have hgl:g<w1.heap.size:=bQ.lt;clear cR fR hg;go_loopw [28] (fun q wr=>∃k:Nat,k≤768∧q=.int .i64 k∧Blk wr g 4 (z2Q (decS xs n k))∧Blk wr (w.heap.size+1) 47 #[.int .i64 0,.int .i64 0,.int .i64 0,.slice none 0 0]∧Blk wr w1.heap.size 47 #[.int .i64 s,.int .i64 j,.int .i64 i,.slice (some ⟨g,0,none⟩) n n]∧z1X xs n k∧Below w.heap.size w wr) (fun q _=>768 - (intOf q).toNat)
   case atStart=>exact⟨0,zi9 _,rfl,bQ1,bR1,bW,fun b _ h=>absurd h (by omega),B2⟩
   case round=>
    obtain⟨k,hk,rfl,bQ,bR,bW,hno,hnx⟩:=hrel;have cQ:=bQ.cells;have fQ:=bQ.free;have cR:=bR.cells;have fR:=bR.free;have cW:=bW.cells;by_cases hlt:k<768
    ·have hk8:k / 8<xs.length:=by omega
     obtain⟨b,off,rfl,hb,hc⟩:=(hR.below hnx).at_ (k:=k / 8) (by simpa using hk8)
     rw[List.getElem_map]at hc;have hq8:0≤(k:Int) / 8∧(k:Int) / 8<96:=by omega
     have hbit:z3O xs k=z3u xs[k / 8] (k % 8):=by unfold z3O;simp[hk8]
     have HB:=zhs hbit;clear hbit;generalize xs[k / 8]=x at hc HB;by_cases hkn:k<n
     ·have hd:=decide_eq_true hkn;have hcQ:wr.cell? ⟨g,k,none⟩=some (.bool ((decS xs n k).getD k false)):=by rw[bQ.cells];exact z4Y (by rw[z18];exact hkn)
      have hs:=zhs (z9x (xs:=xs) hkn);clear cQ;go_wp2_with fail
      go_roundw
      case rel=>exact⟨k+1,by omega,by go_num,by rw[hs.out,HB.out,←z57];exact bQ.set_ _ _,bR.far (by simp;omega) _,bW.far (by simp;omega) _,fun b h1 h2=>hno b h1 (by omega),by (repeat' (first|with_reducible (first|exact zho _ _|assumption|refine zhp ?_ ?_ _|refine zhq ?_|refine z00 ?_ _|refine zhr ?_ ?_ _|exact zhT _)|omega|(simp;done)|(simp;omega)))⟩
      case measure=>simp[intOf];omega
     ·have hd:=decide_eq_false hkn;have hs:=zhs (z8a (xs:=xs) hkn);clear cQ;cases hbt:z3u x (k % 8)
      ·have hbt':(bits BinOp.and IntKind.u8 (x / 2 ^ (k % 8)) 1==1)=false:=hbt;have HT:=zhs hbt;clear hbt;go_wp2_with fail
       go_roundw
       case rel=>exact⟨k+1,by omega,by go_num,by rw[hs.out];exact bQ,bR,bW,fun b h1 h2=>by
        by_cases hbk:b=k
        ·subst hbk;rw[HB.out,HT.out]
        ·exact hno b h1 (by omega),hnx⟩
       case measure=>simp[intOf];omega
      ·have hbt':(bits BinOp.and IntKind.u8 (x / 2 ^ (k % 8)) 1==1)=true:=hbt;have HT:=zhs hbt;clear hbt;have lR:=bR.lt;go_wp2_with fail
       refine bodyPost_ret (v:=.tuple #[.agg #[.int .i64 0,.int .i64 0,.int .i64 0,.slice none 0 0],.int .i64 6]) (by simp[results,results99,go_sem,cR,lR]) rfl ?_
       exact⟨by (repeat' (first|with_reducible (first|exact zho _ _|assumption|refine zhp ?_ ?_ _|refine zhq ?_|refine z00 ?_ _|refine zhr ?_ ?_ _|exact zhT _)|omega|(simp;done)|(simp;omega))),.inr (.inr (.inl ⟨HE.out,h96,fun h=>(by rw[NN.out]at h;have:=h k (by omega) hlt;rw[HB.out,HT.out]at this;cases this),rfl⟩))⟩
    ·obtain rfl:k=768:=by omega
     have lR:=bR.lt;have lQ:=bQ.lt;clear cQ;go_wp2_with fail
     refine bodyPost_ret (v:=.tuple #[.agg #[.int .i64 s,.int .i64 j,.int .i64 i,.slice (some ⟨g,0,none⟩) n n],.int .i64 0]) (by simp[results,results99,go_sem,cR,lR]) rfl ?_
     have hnn:z1X xs (rgB s j i).toNat 768:=by rw[NN.out];exact hno
     refine⟨by (repeat' (first|with_reducible (first|exact zho _ _|assumption|refine zhp ?_ ?_ _|refine zhq ?_|refine z00 ?_ _|refine zhr ?_ ?_ _|exact zhT _)|omega|(simp;done)|(simp;omega))),.inr (.inr (.inr ⟨HE.out,h96,hnn,g,by rw[NN.out],by omega,?_⟩))⟩
     rw[NN.out];exact z6B (t:=4) (by (repeat' (first|(with_reducible exact bQ)|refine Blk.far ?_ (by simp;omega) _)))
  ·have hn:((xs.length:Int) != 96)=true:=by simp;omega
   go_wp2_with fail
   refine bodyPost_ret (v:=.tuple #[.agg #[.int .i64 0,.int .i64 0,.int .i64 0,.slice none 0 0],.int .i64 3]) (by simp[results,results99,go_sem,cR,lR]) rfl ?_
   exact⟨by (repeat' (first|with_reducible (first|exact zho _ _|assumption|refine zhp ?_ ?_ _|refine zhq ?_|refine z00 ?_ _|refine zhr ?_ ?_ _|exact zhT _)|omega|(simp;done)|(simp;omega))),.inr (.inl ⟨HE.out,h96,rfl⟩)⟩
theorem zgl:∀x:Fin 256,∀m m':Fin 8,z3u (orv (x.val:Int) m.val) m'.val=(z3u (x.val:Int) m'.val||m'.val==m.val):=by decide +kernel
theorem zg9:∀x:Fin 256,∀m:Fin 8,0≤orv (x.val:Int) m.val∧orv (x.val:Int) m.val<256:=by decide +kernel
def ofBits (f:Nat→Bool):Int:=
 (if f 0 then 1 else 0)+(if f 1 then 2 else 0)+(if f 2 then 4 else 0)+(if f 3 then 8 else 0)+(if f 4 then 16 else 0)+(if f 5 then 32 else 0)+(if f 6 then 64 else 0)+(if f 7 then 128 else 0)
theorem zfw:∀m:Fin 8,z3u 0 m.val=false:=by decide +kernel
def z0V (xs:List Int):Prop:=∀x∈xs,0≤x∧x<256
theorem zaV {x:Int}(h:0≤x∧x<256):∃y:Fin 256,x=(y.val:Int):=⟨⟨x.toNat,by omega⟩,by simp;omega⟩
theorem zgz {x:Int}(h:0≤x∧x<256){m m':Nat}(hm:m<8)(hm':m'<8):z3u (orv x m) m'=(z3u x m'||m'==m):=by
 obtain⟨y,rfl⟩:=zaV h;exact zgl y ⟨m,hm⟩ ⟨m',hm'⟩
theorem zeJ {x:Int}(h:0≤x∧x<256){m:Nat}(hm:m<8):0≤orv x m∧orv x m<256:=by
 obtain⟨y,rfl⟩:=zaV h;exact zg9 y ⟨m,hm⟩
theorem z0x {xs:List Int}(h:z0V xs)(k:Nat):0≤xs.getD k 0∧xs.getD k 0<256:=by
 by_cases hk:k<xs.length
 ·rw[zhw,zhx hk];exact h _ (zhQ hk)
 ·rw[zhw,List.getElem?_eq_none (by omega)];simp
theorem z3I (us:List Bool)(k:Nat):z0V (encL us k):=by
 induction k with
 | zero=>intro x hx;simp[encL]at hx;omega
 | succ k ih=>
  unfold encL;split
  ·intro x hx;rcases List.mem_or_eq_of_mem_set hx with h|h
   ·exact ih x h
   ·subst h;exact zeJ (z0x ih _) (Nat.mod_lt _ (by omega))
  ·exact ih
theorem zdS {xs:List Int}{k b:Nat}{v:Int}(hk:k / 8<xs.length):z3O (xs.set (k / 8) v) b=if b / 8=k / 8 then z3u v (b % 8)else z3O xs b:=by
 unfold z3O;rw[zhw,zhw,List.getElem?_set];by_cases h:b / 8=k / 8
 ·rw[if_pos h.symm,if_pos hk,if_pos h];rfl
 ·rw[if_neg (fun h'=>h h'.symm),if_neg h]
theorem z52 {us:List Bool}(hl:us.length≤768){k:Nat}(hk:k≤us.length)(b:Nat):z3O (encL us k) b=(decide (b<k)&&us.getD b false):=by
 induction k with
 | zero=>
  simp only[Nat.not_lt_zero,decide_false,Bool.false_and];unfold z3O;have:(encL us 0).getD (b / 8) 0=0:=by
   show (List.replicate 96 (0:Int)).getD (b / 8) 0=0
   rw[zhw,List.getElem?_replicate];split<;>rfl
  rw[this];exact zfw ⟨b % 8,Nat.mod_lt _ (by omega)⟩
 | succ k ih=>
  have ih:=ih (by omega)
  have hku:us[k]?=some us[k]:=zhx (by omega)
  by_cases hx:us[k]=true
  ·rw[hx]at hku;rw[z8n hku,zdS (by rw[z1p];omega)]
   by_cases h:b / 8=k / 8
   ·rw[if_pos h,zgz (z0x (z3I us k) _) (Nat.mod_lt _ (by omega)) (Nat.mod_lt _ (by omega))]
    have hb:z3u ((encL us k).getD (k / 8) 0) (b % 8)=z3O (encL us k) b:=by unfold z3O;rw[h]
    rw[hb,ih];by_cases hbk:b=k
    ·subst hbk;simp[zhw,hku]
    ·have h1:(b % 8==k % 8)=false:=by simp;omega
     have h2:decide (b<k+1)=decide (b<k):=by simp;omega
     rw[h1,h2,Bool.or_false]
   ·rw[if_neg h,ih];have h2:decide (b<k+1)=decide (b<k):=by
     have:b≠k:=fun hh=>h (by rw[hh])
     simp;omega
    rw[h2]
  ·have hx':us[k]=false:=by simpa using hx
   rw[hx']at hku;rw[z6w hku,ih];by_cases hbk:b=k
   ·subst hbk;simp[zhw,hku]
   ·have h2:decide (b<k+1)=decide (b<k):=by simp;omega
    rw[h2]
theorem zek {us:List Bool}(hl:us.length≤768):decS (encL us us.length) us.length 768=us∧z1X (encL us us.length) us.length 768:=by
 constructor
 ·apply List.ext_getElem?
  intro b;by_cases hb:b<us.length
  ·rw[zgt _ _ _ _ hb,if_pos (by omega),z52 hl (zhT _),zhx hb]
   simp[zhw,hb]
  ·rw[List.getElem?_eq_none (by rw[z18];omega),List.getElem?_eq_none (by omega)]
 ·intro b hb _;rw[z52 hl (zhT _)];have:decide (b<us.length)=false:=by simp;omega
  rw[this,Bool.false_and]
def halfL:List Int:=[0x00000000,0x1db71064,0x3b6e20c8,0x26d930ac,0x76dc4190,0x6b6b51f4,0x4db26158,0x5005713c,0xedb88320,0xf00f9344,0xd6d6a3e8,0xcb61b38c,0x9b64c2b0,0x86d3d2d4,0xa00ae278,0xbdbdf21c]
def nib (x:Int):Int:=bits .xor .u32 (halfL.getD (bits .and .u32 x 15).toNat 0) (x / 16)
def crcB (x c:Int):Int:=nib (nib (bits .xor .u32 x c))
def crcL (x:Int)(l:List Int):Int:=l.foldl crcB x
theorem z5P (x:Int)(l:List Int)(k:Nat)(h:k<l.length):crcL x (l.take (k+1))=crcB (crcL x (l.take k)) l[k]:=by
 unfold crcL;rw[zhE h,List.foldl_append];rfl
def crc (l:List Int):Int:=bits .xor .u32 IntKind.u32.max (crcL 4294967295 l)
def HalfAt (w:World):Prop:=0<w.heap.size∧∀j,j<16→w.cell? ⟨0,j,none⟩=some (.int .u32 (halfL.getD j 0))
theorem HalfAt.below {w w':World}{B:Nat}(h:HalfAt w)(hb:Below B w w')(hB:0<B):HalfAt w':=
 ⟨zhR h.1 hb.size,fun j hj=>(hb.cell (p:=⟨0,j,none⟩) hB).trans (h.2 j hj)⟩
theorem zh2 (x:Int):∃n:Nat,bits .and .u32 x 15=(n:Int)∧n<16:=by
 refine⟨(bits .and .u32 x 15).toNat,?_,?_⟩
 ·rw[Int.toNat_of_nonneg (bits_lo_u32 _ _ _)]
 ·have h:bits .and .u32 x 15=IntKind.u32.wrap ((BitVec.ofInt 32 x &&& BitVec.ofInt 32 15).toNat:Int):=rfl;have h2:(BitVec.ofInt 32 x &&& BitVec.ofInt 32 15).toNat≤15:=by
   rw[BitVec.toNat_and];exact zhS Nat.and_le_right (by decide)
  have h3:IntKind.u32.wrap ((BitVec.ofInt 32 x &&& BitVec.ofInt 32 15).toNat:Int)=((BitVec.ofInt 32 x &&& BitVec.ofInt 32 15).toNat:Int):=by
   rw[IntKind.wrap_u32];omega
  rw[h,h3];omega
theorem zge (R:Nat)(A:Option Addr)(c:Nat)(xs:List Int)(hl:xs.length≤100000)(hbx:z0V xs)(r0:Int)(w:World)(hH:HalfAt w)(hX:Reads w A (xs.map (.int .u8)))(bR:Blk w R 325 #[.int .u32 r0]):
  Calls prog 252 #[.pointer (some ⟨R,0,none⟩),.slice A xs.length c] w fun e w'=>(∃v,e=.returned v)∧w'=w.setCell ⟨R,0,none⟩ (.int .u32 (crcL r0 xs)):=by
 have cR:=bR.cells;have fR:=bR.free;have lR:=bR.lt;obtain⟨h0,hH⟩:=hH;have HH:=zhs hH;clear hH;go_enter func252,ntmps252
 go_wp2_with fail
 go_loopw [4,6,12] (fun x _ q wr=>∃k:Nat,k≤xs.length∧q=.int .i64 k∧x=.int .u32 (crcL r0 (xs.take k))∧wr=w) (fun _ _ q _=>xs.length - (intOf q).toNat)
 case atStart=>exact⟨0,zi9 _,rfl,rfl,rfl⟩
 case round=>
  obtain⟨k,hk,rfl,rfl,hw⟩:=hrel;subst hw;by_cases hlt:k<xs.length
  ·obtain⟨b,off,rfl,hb,hc⟩:=hX.at_ (k:=k) (by simpa using hlt)
   rw[List.getElem_map]at hc;have hs:=zhs (z5P r0 xs k hlt);generalize crcL r0 (xs.take k)=x at hs;have hyb:=hbx _ (zhQ hlt);generalize xs[k]=y at hc hs hyb;have hym:y % 4294967296=y:=by omega
   obtain⟨n1,hn1,hl1⟩:=zh2 (bits .xor .u32 x y);have hc1:=HH.out n1 hl1;have hx1:crcB x y=nib (bits .xor .u32 (halfL.getD n1 0) (bits .xor .u32 x y / 16)):=by
    unfold crcB;congr 1
    unfold nib;rw[hn1];rfl
   obtain⟨n2,hn2,hl2⟩:=zh2 (bits .xor .u32 (halfL.getD n1 0) (bits .xor .u32 x y / 16));have hc2:=HH.out n2 hl2;have hx2:crcB x y=bits .xor .u32 (halfL.getD n2 0) (bits .xor .u32 (halfL.getD n1 0) (bits .xor .u32 x y / 16) / 16):=by
    rw[hx1];conv=>lhs;unfold nib
    rw[hn2];rfl
   have HX:=zhs hx2;clear hx1 hx2;generalize halfL.getD n1 0=y1 at *;generalize halfL.getD n2 0=y2 at *;go_wp2_with fail
   go_roundw
   case rel=>exact⟨k+1,by omega,by go_num,by rw[hs.out,HX.out],by first|trivial|rfl⟩
   case measure=>simp[intOf];omega
  ·obtain rfl:k=xs.length:=by omega
   rw[zia];go_wp2_with fail
   go_end0
   exact⟨⟨_,rfl⟩,rfl⟩
theorem zh5 (A:Option Addr)(c:Nat)(xs:List Int)(hl:xs.length≤100000)(hbx:z0V xs)(w:World)(hH:HalfAt w)(hX:Reads w A (xs.map (.int .u8))):
  Calls prog 244 #[.int .u32 0,.slice A xs.length c] w fun e w'=>e=.returned (.int .u32 (crc xs))∧Below w.heap.size w w':=by
 have hmf:∀(fn:Fn) (first cap:Array Value) (w:World),(Instr.makeFunc fn first cap).run prog w=.ok (.func fn first cap) w:=fun _ _ _ _=>rfl
 have hmx:bits BinOp.xor IntKind.u32 IntKind.u32.max 0=4294967295:=by decide
 go_enter func244,ntmps244
 go_wp2_with fail
 obtain⟨W1,hW1⟩:∃W1,W1=w.alloc (.cells #[.int .u32 4294967295] 325):=⟨_,rfl⟩;rw[←hW1];have bR:Blk W1 w.heap.size 325 #[.int .u32 4294967295]:=by rw[hW1];exact Blk.new _ _ _
 have hB1:Below w.heap.size w W1:=by rw[hW1];exact(zho _ _).alloc (zhT _) _
 clear hW1;refine(zge w.heap.size A c xs hl hbx _ W1 (hH.below hB1 hH.1) (hX.below hB1) bR).mono ?_;rintro e w' ⟨⟨v,rfl⟩,rfl⟩;have bR2:=bR.set_ 0 (.int .u32 (crcL 4294967295 xs));have cR:=bR2.cells;have lR:=bR.lt;go_wp2_with fail
 go_ret
 exact⟨rfl,by (repeat' (first|with_reducible (first|exact zho _ _|assumption|refine zhp ?_ ?_ _|refine zhq ?_|refine z00 ?_ _|refine zhr ?_ ?_ _|exact zhT _)|omega|(simp;done)|(simp;omega)))⟩
theorem zg0 (A:Option Addr)(c:Nat)(xs:List Int)(hl:xs.length≤100000)(hbx:z0V xs)(w:World)(hH:HalfAt w)(hX:Reads w A (xs.map (.int .u8))):
  Calls prog 221 #[.slice A xs.length c] w fun e w'=>e=.returned (.int .u32 (crc xs))∧Below w.heap.size w w':=by
 go_enter func221,ntmps221
 go_wp2_with fail
 refine(zh5 A c xs hl hbx _ hH hX).mono ?_;rintro e w' ⟨rfl,hb⟩;go_wp2_with fail
 go_ret
 exact⟨rfl,hb⟩
open Go.Shelf
structure KeepEx (B:Nat)(bs:List Nat)(w w':World):Prop where
 os:w'.os=w.os
 tape:w'.tape=w.tape
 output:w'.output=w.output
 size:w.heap.size≤w'.heap.size
 block:∀k,k<B→k∉bs→w'.heap[k]?=w.heap[k]?
section
variable {B:Nat}{bs:List Nat}{w w':World}
theorem KeepEx.refl (B:Nat)(bs:List Nat)(w:World):KeepEx B bs w w:=⟨rfl,rfl,rfl,zhT _,fun _ _ _=>rfl⟩
theorem KeepEx.trans {a b c:World}(h:KeepEx B bs a b)(k:KeepEx B bs b c):KeepEx B bs a c:=
 ⟨k.os.trans h.os,k.tape.trans h.tape,k.output.trans h.output,zhS h.size k.size,fun i hi hn=>(k.block i hi hn).trans (h.block i hi hn)⟩
theorem KeepEx.of_below (h:Below B w w'):KeepEx B bs w w':=⟨h.os,h.tape,h.output,h.size,fun k hk _=>h.block k hk⟩
theorem KeepEx.toBelow (h:KeepEx B bs w w'){B':Nat}(hB:B'≤B)(hbs:∀k∈bs,B'≤k):Below B' w w':=
 ⟨h.os,h.tape,h.output,h.size,fun k hk=>h.block k (by omega) (fun hm=>by have:=hbs k hm;omega)⟩
theorem KeepEx.setCell (W:World){p:Addr}(hp:p.block∈bs∨B≤p.block)(u:Value):KeepEx B bs W (W.setCell p u):=
 ⟨rfl,rfl,rfl,by simp,fun k hk hn=>Below.heap_setCell _ _ _ _ (fun e=>by subst e;rcases hp with hp|hp;exact hn hp;omega)⟩
theorem KeepEx.grown {row:Option Nat}{W W':World}(hg:W.grownBy W' row)(hB:B≤W.heap.size)(hr:∀k,row=some k→k∈bs∨B≤k):KeepEx B bs W W':=
 ⟨hg.os,hg.tape,hg.output,hg.size,fun k hk hn=>hg.block k (by omega) (fun e=>by rcases hr k e.symm with h|h;exact hn h;omega)⟩
theorem KeepEx.alloc (W:World)(hB:B≤W.heap.size)(o:Obj):KeepEx B bs W (W.alloc o):=.of_below ((zho _ _).alloc hB o)
theorem KeepEx.blk {g:Nat}{t:TypeId}{cs:Array Value}(h:KeepEx B bs w w')(hb:Blk w g t cs)(hg:g<B)(hn:g∉bs):Blk w' g t cs:=(h.block g hg hn).trans hb
theorem KeepEx.cell (h:KeepEx B bs w w'){p:Addr}(hp:p.block<B)(hn:p.block∉bs):w'.cell? p=w.cell? p:=World.cell?_of_block (w:=w) (h.block p.block hp hn)
theorem zb6 {X Y Z:World}(h:KeepEx B bs X Y)(k:KeepEx B bs Y Z):KeepEx B bs X Z:=h.trans k
theorem zaM {w:World}(hn:B≤w.heap.size)(W:World)(l:Nat)(o o':Obj)(hl:w.heap.size≤l)(h:W.heap[l]?=some o)(_:o.isCells=false)(_:o.isWalk=false):KeepEx B bs W (W.putObj l o'):=
 KeepEx.grown (grownBy_putObj' W l o') (by have:=(zhW.1 h).1;omega) (fun k e=>by cases e;right;omega)
theorem z2i {β:Type}{C:Nat}{w₀:World}(hn:B≤w₀.heap.size)(hB:B≤C):OwnFrom C (fun (_:β) W=>KeepEx B bs w₀ W):=
 fun _ _ _ _ hs hg hr=>hs.trans (KeepEx.grown hg (zhS hn hs.size) (fun k e=>.inr (zhS hB (hr k e).1)))
theorem z87 {β:Type}{C:Nat}{p:β→Prop}:OwnFrom C (fun (s:β) (_:World)=>p s):=fun _ _ _ _ hs _ _=>hs
end
theorem z5m {W w2:World}{B base:Nat}{t e:TypeId}{size:Nat}{v v':Value}{k m:Nat}{xs ys:List Value}{tmp:Obj}
  (hv:Boxed W B t v) (hrow:W.ownsRow base e size v k xs) (hB:B<base) (hsz:base≤W.heap.size) (hown':w2.ownsRow base e size v' m ys) (hgrow:(W.alloc tmp).grownBy w2 v.ownBlock):
  Boxed w2 B t v∧Boxed (w2.setCell ⟨B,0,none⟩ v') B t v'∧(w2.setCell ⟨B,0,none⟩ v').ownsRow base e size v' m ys∧KeepsOthers W (w2.setCell ⟨B,0,none⟩ v')∧KeepEx base [B] W (w2.setCell ⟨B,0,none⟩ v'):=by
 have hrow':∀k,v.ownBlock=some k→base≤k:=fun k hk=>(hrow.lt k hk).1
 have hv1:Boxed w2 B t v:=(hv.alloc tmp).kept hgrow (fun e'=>by have:=hrow' B e'.symm;omega)
 refine⟨hv1,hv1.set v',ownsRow_setCell_below hown' hB v',?_,?_⟩
 ·refine((KeepsOthers.alloc W tmp).trans (KeepsOthers.of_grownBy hgrow fun j o ej hj=>?_)).trans (KeepsOthers.setCell _ _ _)
  rcases (hrow.alloc tmp).2 with ⟨rfl,_⟩|⟨g,cap,cur,rfl,_,hgb,_⟩
  ·simp[Value.ownBlock]at ej
  ·obtain rfl:g=j:=by simpa[Value.ownBlock]using ej
   rw[hgb]at hj;cases hj;rfl
 ·exact((KeepEx.alloc W hsz tmp).trans (KeepEx.grown hgrow (by simp;omega) (fun k hk=>.inr (hrow' k hk)))).trans (KeepEx.setCell _ (.inl (by simp)) _)
theorem z4Q {n:Nat}{P:Program}{c:Code}{K:Act→World→Prop}{Q':Exit→Act→World→Prop}{a:Act}{w:World}(Post:Nat→World→Prop)
  (h:c.wpIn Fence.wide n P (fun e a' w'=>(e=.normal∨e=.exit 0)∧∃D,a'={ a with defers:={ target:=.collected D,args:=#[] }::a.defers }∧Post D w') a w)
  (hk:∀D w',Post D w'→K { a with defers:={ target:=.collected D,args:=#[] }::a.defers } w'):c.wp P (Exit.inBlock 0 (Exit.then K Q')) a w:=
 wp_mono (wpIn_wide.1 h) (by
  rintro e a' w' ⟨he,D,rfl,hp⟩;rcases he with rfl|rfl
  ·exact hk D w' hp
  ·exact hk D w' hp)
theorem z2U {P:Program}{f:FuncId}{fn:Func}{c:Code}{args:Array Value}{w:World}{R:Ending→World→Prop}
  (hf:P.funcs[f]?=some fn) (hb:fn.body=some c)
  (h:c.wp P (bodyPostM Fence.wide 9 P fn R) { tmps:=args++Array.replicate (fn.ntmps - args.size) undef,defers:=[] } w):Calls P f args w R:=
 (callsIn_wide (n:=9)).1 (callsIn_of_wp_marks hf hb trivial (wpIn_wide.2 h) rfl)
theorem z6t {C:World→Prop}{W:World}(F:World→Prop)(hF:F W)(h:∀W,F W→C W):C W:=h W hF
theorem z4G {n:Nat}{P:Program}{fn:Func}{R:Ending→World→Prop}{tmps:Array Value}{D:Nat}{W:World}(v:Value)(hKd:W.heap[D]?=some (.deferred (some [])))
  (hr:(results fn tmps).run P (W.putObj D (.deferred none))=.ok v (W.putObj D (.deferred none))) (hR:R (.returned v) (W.putObj D (.deferred none))):
  bodyPostM Fence.wide n P fn R .ret { tmps,defers:=[{ target:=.collected D,args:=#[] }] } W:=
 ⟨by simp,.inl ⟨_,_,rfl,run_takeDeferred hKd,⟨v,hr,hR⟩⟩⟩
theorem z6D {W:World}{g:Nat}{t:TypeId}{cs:Array Value}{D:Nat}{o:Obj}(h:Blk W g t cs)(hD:g≠D):Blk (W.putObj D o) g t cs:=h.grown (grownBy_putObj' W D o) (by simpa using hD)
theorem z4d {w W:World}{D:Nat}{o:Obj}(h:Below w.heap.size w W)(hD:w.heap.size≤D):Below w.heap.size w (W.putObj D o):=h.grown (grownBy_putObj' W D o) h.size (by intro k hk;cases hk;exact hD)
def nb (n:Int)(k:Nat):Int:=n / 2 ^ (8*k) % 256
def putK (xs:List Int)(at_:Nat)(n:Int):Nat→List Int
 | 0=>xs
 | k+1=>(putK xs at_ n k).set (at_+k) (nb n k)
def putN (xs:List Int)(at_:Nat)(n:Int):List Int:=putK xs at_ n 4
theorem z3b (xs:List Int)(at_:Nat)(n:Int)(k:Nat):(putK xs at_ n k).length=xs.length:=by
 induction k with
 | zero=>rfl
 | succ k ih=>unfold putK;simp[ih]
def z3k (xs:List Int)(at_:Nat):Nat→Int
 | 0=>0
 | k+1=>bits .or .u32 (z3k xs at_ k) (xs.getD (at_+k) 0*2 ^ (8*k) % 4294967296)
def z0o (xs:List Int)(at_:Nat):Int:=z3k xs at_ 4
theorem zcm (S n:Nat)(hn:n≤124)(cs:Array Value)(hcs:cs.size=128)(w:World)(bS:Blk w S 128 cs):
  Calls prog 220 #[.pointer (some ⟨S,0,none⟩),.int .i64 n] w fun e w'=>
   e=.returned (.tuple #[.func (.func 242) #[] #[.pointer (some ⟨w.heap.size,0,none⟩)],.func (.func 243) #[] #[.pointer (some ⟨w.heap.size,0,none⟩)]]) ∧
   w'=w.alloc (.cells #[.slice (some ⟨S,n,none⟩) 4 4] 113):=by
 have hmf:∀(fn:Fn) (first cap:Array Value) (w:World),(Instr.makeFunc fn first cap).run prog w=.ok (.func fn first cap) w:=fun _ _ _ _=>rfl
 have hal:prog.arrayLen 128=128:=by kernel_rfl
 have hsl:∀w:World,(Instr.sliceAt 128 (.pointer (some ⟨S,0,none⟩)) (some (.int .i64 n)) (some (.int .i64 ((n:Int)+4))) (some (.int .i64 ((n:Int)+4)))).run prog w=.ok (.slice (some ⟨S,n,none⟩) 4 4) w:=fun w=>by
  rw[run_sliceAt_array_lhm w 128 _ (by kernel_rfl) .i64 .i64 .i64 n ((n:Int)+4) ((n:Int)+4) (by omega) (by omega) (by omega) (by rw[hal];omega)]
  have hsz:(sizeOf (prog.elem 128)).run prog w=.ok 1 w:=by kernel_rfl
  rw[hsz];have h1:((n:Int)+4).toNat=n+4:=by omega
  have h2:(n:Int).toNat=n:=by omega
  simp only[Result.andThen_ok,slicedAt,h1,h2,if_neg (show ¬n+4=n by omega),Nat.mul_one]
  rw[show n+4 - n=4 by omega]
  simp[Addr.add]
  omega
 have lS:=bS.lt;go_enter func220,ntmps220
 go_wp2_with fail
 go_ret2
 exact⟨rfl,rfl⟩
theorem z7V (S B a:Nat)(ha:a≤124)(n:Int)(hn:0≤n∧n<4294967296)(xs:List Int)(hl:xs.length=128)(w:World)(bS:Blk w S 128 (z03 xs))(bB:Blk w B 113 #[.slice (some ⟨S,a,none⟩) 4 4])(hne:S≠B):
  Calls prog 242 #[.int .u32 n,.pointer (some ⟨B,0,none⟩)] w fun e w'=>(∃v,e=.returned v)∧Blk w' S 128 (z03 (putN xs a n))∧KeepEx w.heap.size [S] w w':=by
 have cB:=bB.cells;have lB:=bB.lt;have lS:=bS.lt;go_enter func242,ntmps242
 go_wp2_with fail
 go_loopw [3,6] (fun _ q wr=>∃k:Nat,k≤4∧q=.int .i64 k∧Blk wr S 128 (z03 (putK xs a n k))∧KeepEx w.heap.size [S] w wr) (fun _ q _=>4 - (intOf q).toNat)
 case atStart=>exact⟨0,by omega,rfl,bS,KeepEx.refl _ _ _⟩
 case round=>
  obtain⟨k,hk,rfl,bK,hx⟩:=hrel;have bB2:=hx.blk bB lB (by simpa using fun h=>hne h.symm)
  have cB:=bB2.cells;have fK:=bK.free;by_cases hlt:k<4
  ·have hcK:wr.cell? ⟨S,a+k,none⟩=some (.int .u8 ((putK xs a n k).getD (a+k) 0)):=by rw[bK.cells];exact z0J (by rw[z3b];omega)
   have hw8:IntKind.i64.wrap (8*(k:Int))=8*(k:Int):=by rw[IntKind.wrap_i64];omega
   go_wp2_with fail
   go_region
   all_goals go_wp2
   go_roundw
   case rel=>exact⟨k+1,by omega,by go_num,by show Blk _ _ _ (z03 ((putK xs a n k).set (a+k) (nb n k)));rw[←z1i];exact(bK.set_ _ _).drew,hx.trans (KeepEx.trans (KeepEx.setCell _ (.inl (by simp)) _) (KeepEx.of_below (zho _ _).drew))⟩
   case measure=>simp[intOf];omega
  ·obtain rfl:k=4:=by omega
   go_wp2_with fail
   go_end0
   exact⟨⟨_,rfl⟩,bK,hx⟩
theorem z2I (xs:List Int)(a k:Nat):0≤z3k xs a k∧z3k xs a k<4294967296:=by
 cases k with
 | zero=>simp[z3k]
 | succ k=>unfold z3k;exact⟨bits_lo_u32 _ _ _,by have:=bits_hi_u32 .or (z3k xs a k) (xs.getD (a+k) 0*2 ^ (8*k) % 4294967296);omega⟩
theorem z3G (S B a:Nat)(ha:a≤124)(xs:List Int)(hl:xs.length=128)(hbx:z0V xs)(w:World)(bS:Blk w S 128 (z03 xs))(bB:Blk w B 113 #[.slice (some ⟨S,a,none⟩) 4 4]):
  Calls prog 243 #[.pointer (some ⟨B,0,none⟩)] w fun e w'=>e=.returned (.int .u32 (z0o xs a))∧w'=w:=by
 have cB:=bB.cells;have lB:=bB.lt;have lS:=bS.lt;go_enter func243,ntmps243
 go_wp2_with fail
 go_loopw [2,3,6] (fun x _ q wr=>∃k:Nat,k≤4∧q=.int .i64 k∧x=.int .u32 (z3k xs a k)∧wr=w) (fun _ _ q _=>4 - (intOf q).toNat)
 case atStart=>exact⟨0,by omega,rfl,rfl,rfl⟩
 case round=>
  obtain⟨k,hk,rfl,rfl,hw⟩:=hrel;subst hw;by_cases hlt:k<4
  ·have hcK:wr.cell? ⟨S,a+k,none⟩=some (.int .u8 (xs.getD (a+k) 0)):=by rw[bS.cells];exact z0J (by omega)
   have hyb:=z0x hbx (a+k);have hs:Hid (z3k xs a (k+1)=bits .or .u32 (z3k xs a k) (xs.getD (a+k) 0*2 ^ (8*k) % 4294967296)):=zhs rfl;generalize xs.getD (a+k) 0=y at *;generalize z3k xs a k=x at *;have hym:y % 4294967296=y:=by omega
   go_wp2_with fail
   go_roundw
   case rel=>exact⟨k+1,by omega,by go_num,by rw[hs.out],by first|trivial|rfl⟩
   case measure=>simp[intOf];omega
  ·obtain rfl:k=4:=by omega
   go_wp2_with fail
   go_ret
   exact⟨rfl,rfl⟩
theorem z1v (l:List Int):(z03 l).size=l.length:=by unfold z03;simp
theorem zbH (l:List Int):(z03 l).all (·.oneCell')=true:=by
 unfold z03;simp[Value.oneCell']
theorem Tryz.infoSector:(prog.info? 128).map (fun i=>(i.zero,i.size))=some (some (.agg (fill (.int .u8 0) 128)),128):=by kernel_rfl
def zsec:List Int:=List.replicate 128 0
theorem z07:zsec.length=128:=zhG ..
theorem z0S (w:World):(zeroValue 128).run prog w=.ok (.agg (z03 zsec)) w:=by
 unfold zsec;rw[z3F];exact(zero_of_info Tryz.infoSector).1 w
theorem z32:(prog.info? 128).map (·.size)=some 128:=(zero_of_info Tryz.infoSector).2
theorem Blk.loadSec {w:World}{g:Nat}{t:TypeId}{l:List Int}(h:Blk w g t (z03 l))(hl:l.length=128):(loadVar 128 ⟨g,0,none⟩).run prog w=.ok (.agg (z03 l)) w:=
 run_loadVar_row w g t 128 (z03 l) (0,0) _ h underlying128 rfl (by rw[z1v,hl];exact z32)
theorem Blk.loadSecAt {w:World}{g:Nat}{t:TypeId}{l:List Int}(h:Blk w g t (z03 l))(hl:l.length=128):(Instr.loadAt 128 (.pointer (some ⟨g,0,none⟩))).run prog w=.ok (.agg (z03 l)) w:=by
 simp only[Instr.loadAt,Instr.sureAddr,Sem.run_bind,Sem.run_pure,Result.andThen];exact h.loadSec hl
theorem Blk.setRow {w:World}{g:Nat}{t:TypeId}{cs cs':Array Value}(h:Blk w g t cs):Blk (w.setRow g cs') g t cs':=setRow_heap w g cs cs' t _ h
theorem z0b (w:World)(g k:Nat)(cs:Array Value)(h:k≠g):(w.setRow g cs).heap[k]?=w.heap[k]?:=by
 unfold World.setRow;simp only[Array.getElem?_modify];rw[if_neg (fun e=>h e.symm)]
theorem Blk.rowFar {w:World}{g k:Nat}{t:TypeId}{cs cs':Array Value}(h:Blk w g t cs)(hk:g≠k):Blk (w.setRow k cs') g t cs:=(z0b w k g cs' hk).trans h
theorem Below.setRow {B:Nat}{a w:World}(h:Below B a w){g:Nat}(hg:B≤g)(cs:Array Value):Below B a (w.setRow g cs):=
 ⟨h.os,h.tape,h.output,by simpa using h.size,fun k hk=>(z0b w g k cs (by omega)).trans (h.block k hk)⟩
theorem KeepEx.setRow {B:Nat}{bs:List Nat}(W:World){g:Nat}(hg:g∈bs∨B≤g)(cs:Array Value):KeepEx B bs W (W.setRow g cs):=
 ⟨rfl,rfl,rfl,by simp,fun k hk hn=>z0b W g k cs (fun e=>by subst e;rcases hg with hg|hg;exact hn hg;omega)⟩
theorem z0u {ops:Array Oper}{rest:List Oper}{o:Oper}{a:Act}{w:World}{Q:Exit→Act→World→Prop}(hgd:o.guard=none)(x:Operand)(ho:o.op=.load 128 x)
  (g:Nat) (hx:a.eval x=.pointer (some ⟨g,0,none⟩)) {t:TypeId} {l:List Int} (b:Blk w g t (z03 l)) (hl:l.length=128)
  (h:wpList prog ops Q rest (a.put o.dst (.agg (z03 l))) w):wpList prog ops Q (o::rest) a w:=
 wpList_load_row hgd 128 x ho g hx t (z03 l) (0,0) _ b underlying128 rfl (by rw[z1v,hl];exact z32) h
theorem z0d {ops:Array Oper}{rest:List Oper}{o:Oper}{a:Act}{w:World}{Q:Exit→Act→World→Prop}(hgd:o.guard=none)(x y:Operand)(ho:o.op=.store 128 x y)
  (g:Nat) (l:List Int) (hx:a.eval x=.pointer (some ⟨g,0,none⟩)) (hy:a.eval y=.agg (z03 l)) {t:TypeId} {old:List Int} (b:Blk w g t (z03 old)) (hold:old.length=128) (hl:l.length=128)
  (h:wpList prog ops Q rest (a.put o.dst undef) (w.setRow g (z03 l))):wpList prog ops Q (o::rest) a w:=
 wpList_store_row hgd 128 x y ho g (z03 l) hx hy t (z03 old) b (by rw[z1v,hl];exact z32) (by rw[z1v,z1v,hold,hl]) (zbH l) h
def strL (s:ByteArray):List Int:=s.data.toList.map fun b=>(b.toNat:Int)
theorem z17 (s:ByteArray):(strL s).length=s.size:=by unfold strL;rw[zhX];rfl
theorem z14 (s:ByteArray):z0V (strL s):=by
 intro x hx;unfold strL at hx;obtain⟨b,_,rfl⟩:=List.mem_map.1 hx;have:=b.toNat_lt
 omega
def z11 (a kind:Int)(n:Nat):Int:=if a<0∨256≤a∨kind<1∨255<kind then 7 else if 112<n then 3 else 0
def z2G (kind:Int)(n:Nat):List Int:=((zsec.set 0 76).set 1 kind).set 2 n
def z2q (kind:Int)(s:ByteArray):List Int:=(z2G kind s.size).take 8++strL s++(z2G kind s.size).drop (8+s.size)
def z2p (a kind seq:Int)(s:ByteArray):List Int:=putN (putN (z2q kind s) 4 seq) 120 a
def z15 (a kind seq:Int)(s:ByteArray):List Int:=putN (z2p a kind seq s) 124 (crc ((z2p a kind seq s).take 124))
theorem z1l (kind:Int)(n:Nat):(z2G kind n).length=128:=by
 unfold z2G;rw[List.length_set,List.length_set,List.length_set,z07]
theorem z1R (kind:Int)(s:ByteArray)(h:s.size≤112):(z2q kind s).length=128:=by
 unfold z2q;rw[zhF,zhF,zi6,zi7,z17,z1l];omega
def z21 (a kind seq:Int)(s:ByteArray)(w:World)(e:Ending)(w':World):Prop:=
 Below w.heap.size w w'∧e=.returned (.tuple #[.agg (z03 (if z11 a kind s.size=0 then z15 a kind seq s else zsec)),.int .i64 (z11 a kind s.size)])
theorem z2j {fn:Func}{n R:Nat}{tmps:Array Value}{w:World}{t:TypeId}{l:List Int}{e:Int}(hr:fn.results=#[.cell 8 128,.tmp n])(h8:tmps.getD 8 undef=.pointer (some ⟨R,0,none⟩))(hn:tmps.getD n undef=.int .i64 e)(b:Blk w R t (z03 l))(hl:l.length=128):
  (results fn tmps).run prog w=.ok (.tuple #[.agg (z03 l),.int .i64 e]) w:=by
 have h:=b.loadSec hl;have h1:(asAddr (.pointer (some ⟨R,0,none⟩))).run prog w=.ok ⟨R,0,none⟩ w:=rfl;have h8':tmps[8]?.getD undef=.pointer (some ⟨R,0,none⟩):=by simpa using h8
 have hn':tmps[n]?.getD undef=.int .i64 e:=by simpa using hn
 simp[results,hr,h8',hn',h1,h]
theorem zeF (a kind seq:Int)(s:ByteArray)(hs:s.size≤maxLen)(w:World)(hE:z11 a kind s.size≠0):
  Calls prog 183 #[.int .i64 a,.int .i64 kind,.int .u32 seq,.string s] w (z21 a kind seq s w):=by
 have hz:=z0S;have hv:∃E,z11 a kind s.size=E:=⟨_,rfl⟩;obtain⟨E,hv⟩:=hv;unfold z21;rw[if_neg hE,hv];have HV:=zhs hv;have hE2:=hE;clear hE;unfold z11 at hv;by_cases a1:a<0
 rotate_left;by_cases a2:256≤a
 rotate_left;by_cases a3:kind<1
 rotate_left;by_cases a4:255<kind
 rotate_left;by_cases a5:112<s.size
 rotate_left
 ·exact absurd (by unfold z11;rw[if_neg (by omega),if_neg (by omega)]) hE2
 all_goals
  clear hE2;first
   | (rw[if_pos (by omega)]at hv)
   | (rw[if_neg (by omega),if_pos (by omega)]at hv)
  subst hv;have bR:Blk ((w.alloc (.cells (z03 zsec) 128)).alloc (.cells (z03 zsec) 128)) w.heap.size 128 (z03 zsec):=(Blk.new _ _ _).alloc _;have bS:Blk ((w.alloc (.cells (z03 zsec) 128)).alloc (.cells (z03 zsec) 128)) (w.heap.size+1) 128 (z03 zsec):=Blk.new' (by simp)
  go_enter func183,ntmps183
  go_wp2_with (first
   | (refine z0u rfl _ rfl (w.heap.size+1) rfl bS z07 ?_)
   | (refine z0d rfl _ _ rfl w.heap.size zsec rfl rfl bR z07 z07 ?_))
  refine bodyPost_ret (z2j rfl rfl rfl (bR.setRow (cs':=z03 zsec)) z07) rfl ?_;exact⟨Below.setRow (by (repeat' (first|with_reducible (first|exact zho _ _|assumption|refine zhp ?_ ?_ _|refine zhq ?_|refine z00 ?_ _|refine zhr ?_ ?_ _|exact zhT _)|omega|(simp;done)|(simp;omega)))) (zhT _) _,rfl⟩
end Go.Proofs.YtejmknghkbobnaaGreatDoor
