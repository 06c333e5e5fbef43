import Derived.Test.YtejmknghkbobnaaGreatDoorPart00
import Derived.Test.YtejmknghkbobnaaGreatDoorPart02
set_option linter.unusedVariables false
set_option linter.unusedSimpArgs false
set_option maxRecDepth 100000
set_option maxHeartbeats 8000000
namespace Go.Proofs.YtejmknghkbobnaaGreatDoor
open Go.Proofs.Tryz
open Go.RowKit Go.Maps
theorem zaY {xs:List Int}{a j:Nat}{n v:Int}(h:j<a∨a+4≤j)(k:Nat)(hk:k≤4):(putK xs a n k).set j v=putK (xs.set j v) a n k:=by
 induction k with
 | zero=>rfl
 | succ k ih=>
  have ih:=ih (by omega)
  show ((putK xs a n k).set (a+k) (nb n k)).set j v=(putK (xs.set j v) a n k).set (a+k) (nb n k)
  rw[←ih,List.set_comm _ _ (by omega)]
theorem zdj {xs:List Int}{a b:Nat}{n m:Int}(h:a+4≤b∨b+4≤a)(k q:Nat)(hk:k≤4)(hq:q≤4):putK (putK xs a n k) b m q=putK (putK xs b m q) a n k:=by
 induction q with
 | zero=>rfl
 | succ q ih=>
  have ih:=ih (by omega)
  show (putK (putK xs a n k) b m q).set (b+q) (nb m q)=putK ((putK xs b m q).set (b+q) (nb m q)) a n k
  rw[ih,zaY (by omega) k hk]
theorem zd7 {xs:List Int}{a b:Nat}{n m:Int}(h:a+4≤b∨b+4≤a):putN (putN xs a n) b m=putN (putN xs b m) a n:=zdj h 4 4 (by omega) (by omega)
theorem z0Q (xs:List Int)(a:Nat)(n:Int):(putN xs a n).length=xs.length:=z3b _ _ _ _
theorem zcd {xs:List Int}(h:z0V xs)(a:Nat)(n:Int)(k:Nat):z0V (putK xs a n k):=by
 induction k with
 | zero=>exact h
 | succ k ih=>
  intro x hx;rcases List.mem_or_eq_of_mem_set (show x∈(putK xs a n k).set (a+k) (nb n k)from hx)with h|h
  ·exact ih x h
  ·subst h;unfold nb;omega
theorem z2c {xs:List Int}(h:z0V xs)(a:Nat)(n:Int):z0V (putN xs a n):=zcd h a n 4
theorem z29:z0V zsec:=by
 intro x hx;have:=zhL hx
 omega
theorem z6F {xs:List Int}(h:z0V xs)(k:Nat){v:Int}(hv:0≤v∧v<256):z0V (xs.set k v):=by
 intro x hx;rcases List.mem_or_eq_of_mem_set hx with h'|h'
 ·exact h x h'
 ·subst h';exact hv
theorem z3T {kind:Int}(hk:0≤kind∧kind<256){s:ByteArray}(hs:s.size≤112):z0V (z2q kind s):=by
 have h0:z0V (z2G kind s.size):=z6F (z6F (z6F z29 0 (by omega)) 1 hk) 2 (by omega)
 intro x hx;unfold z2q at hx;rcases zi0.1 hx with hx|hx
 ·rcases zi0.1 hx with hx|hx
  ·exact h0 x (List.mem_of_mem_take hx)
  ·exact z14 s x hx
 ·exact h0 x (List.mem_of_mem_drop hx)
theorem z3N {xs:List Int}(h:z0V xs)(k:Nat):z0V (xs.take k):=fun x hx=>h x (List.mem_of_mem_take hx)
theorem zc0 (l:List Int)(s:ByteArray)(k:Nat):((z03 l).toList.take k++Lib.byteCells s.data.toList++(z03 l).toList.drop (k+s.size)).toArray=z03 (l.take k++strL s++l.drop (k+s.size)):=by
 unfold z03 strL Lib.byteCells;simp[List.map_take,List.map_drop,List.map_map,Function.comp_def]
theorem z72 {P:Program}{ops:Array Oper}{rest:List Oper}{o:Oper}{a:Act}{w:World}{Q:Exit→Act→World→Prop}(hgd:o.guard=none)(d x:Operand)(dT sT:TypeId)(ho:o.op=.call { callee:=.builtin .copy,args:=#[d,x],argTypes:=#[dT,sT] })
  (elem:TypeId) (hu:P.underlying dT=some (.slice elem)) (hs:(P.info? elem).map (·.size)=some 1) (g k n c:Nat) (s:ByteArray) (hd:a.eval d=.slice (some ⟨g,k,none⟩) n c) (hx:a.eval x=.string s)
  (l:List Int) (t:TypeId) (b:Blk w g t (z03 l)) (hle:s.size≤n) (hfit:k+s.size≤l.length)
  (h:wpList P ops Q rest (a.put o.dst (goInt s.size)) (w.setRow g (z03 (l.take k++strL s++l.drop (k+s.size))))):wpList P ops Q (o::rest) a w:=by
 refine wpList_plain hgd fun _ hK=>?_
 have hrun:=Lib.run_copy_row_string (P:=P) w dT sT o.type elem g k n c s (z03 l) t hu hs b hle (by rw[z1v];exact hfit)
 rw[zc0]at hrun;unfold Oper.wp execOp;simp only[ho,resolve,invoke,builtin,Sem.run_bind,Sem.run_pure,Result.andThen_ok,List.map_toArray,zhY,zhZ,hd,hx,hrun];exact hK _ _ h
theorem z3i:Keyed prog 3:=int_keyed underlying3
def z2L (xs:List Int)(a seq:Int)(left:Lit→Bool):List Int:=
 if left (.int .i64 120)=true then (if left (.int .i64 4)=true then xs else putN xs 4 seq)else (if left (.int .i64 4)=true then putN xs 120 a else putN (putN xs 4 seq) 120 a)
theorem z7X (xs:List Int)(a seq:Int)(left:Lit→Bool):(z2L xs a seq left).length=xs.length:=by
 unfold z2L;split<;>split<;>simp[z0Q]
theorem z2Y (S n:Nat)(x:Int)(hx:x=(n:Int))(hn:n≤124)(xs:List Int)(hl:xs.length=128)(w:World)(bS:Blk w S 128 (z03 xs)):
  Calls prog 220 #[.pointer (some ⟨S,0,none⟩),.int .i64 x] w fun e w'=>
   e=.returned (.tuple #[.func (.func 242) #[] #[.pointer (some ⟨w.heap.size,0,none⟩)],.func (.func 243) #[] #[.pointer (some ⟨w.heap.size,0,none⟩)]]) ∧
   w'=w.alloc (.cells #[.slice (some ⟨S,n,none⟩) 4 4] 113):=by
 subst hx;exact zcm S n hn (z03 xs) (by rw[z1v];exact hl) w bS
theorem Reads.take {w:World}{A:Option Addr}{xs:List Value}(h:Reads w A xs)(k:Nat):Reads w A (xs.take k):=by
 rcases h with h|⟨b,off,hA,hb,hc⟩
 ·subst h;exact .inl (by simp)
 ·refine .inr ⟨b,off,hA,hb,fun j u hu=>hc j u ?_⟩
  rw[List.getElem?_take]at hu;split at hu
  ·exact hu
  ·cases hu
theorem zfF (A:Option Addr)(n c:Nat)(xs:List Int)(hn:xs.length=n)(hl:n≤100000)(hbx:z0V xs)(w:World)(hH:HalfAt w)(hX:Reads w A (xs.map (.int .u8))):
  Calls prog 221 #[.slice A n c] w fun e w'=>e=.returned (.int .u32 (crc xs))∧Below w.heap.size w w':=by
 subst hn;exact zg0 A c xs hl hbx w hH hX
theorem z4K (xs:List Int):0≤crc xs∧crc xs<4294967296:=by
 unfold crc;exact⟨bits_lo_u32 _ _ _,by have:=bits_hi_u32 .xor IntKind.u32.max (crcL 4294967295 xs);omega⟩
theorem KeepEx.grownBy {S:Nat}{w w':World}(h:KeepEx w.heap.size [S] w w'):w.grownBy w' (some S):=
 ⟨h.os,h.tape,h.output,h.size,fun k hk hn=>h.block k hk (by simpa using fun e=>hn (by rw[e]))⟩
theorem zfb {xs:List Int}{a seq:Int}{left:Lit→Bool}(h:left (.int .i64 4)=true):z2L xs a seq (fun z=>left z&&!z.sameKey (.int .i64 4))=putN (z2L xs a seq left) 4 seq:=by
 have h1:(Lit.int IntKind.i64 120).sameKey (.int .i64 4)=false:=by decide
 have h2:(Lit.int IntKind.i64 4).sameKey (.int .i64 4)=true:=by decide
 unfold z2L;simp only[h1,h2,h,Bool.not_false,Bool.not_true,Bool.and_true,Bool.and_false,if_true];cases left (.int .i64 120)
 ·simp[zd7 (xs:=xs) (a:=4) (b:=120) (n:=seq) (m:=a) (by omega)]
 ·simp
theorem zcj {xs:List Int}{a seq:Int}{left:Lit→Bool}(h:left (.int .i64 120)=true):z2L xs a seq (fun z=>left z&&!z.sameKey (.int .i64 120))=putN (z2L xs a seq left) 120 a:=by
 have h1:(Lit.int IntKind.i64 4).sameKey (.int .i64 120)=false:=by decide
 have h2:(Lit.int IntKind.i64 120).sameKey (.int .i64 120)=true:=by decide
 unfold z2L;simp only[h1,h2,h,Bool.not_false,Bool.not_true,Bool.and_true,Bool.and_false,if_true];cases left (.int .i64 4)<;>simp
def z41 (a seq:Int):DataW Unit:=((DataW.map []).put (.int .i64 4) (.lit (.int .u32 seq))).put (.int .i64 120) (.lit (.int .u32 a))
theorem zcX (a seq x:Int):has (z41 a seq) (.int .i64 x)=true→x=4∨x=120:=by
 intro h;by_cases h4:x=4
 ·exact .inl h4
 by_cases h120:x=120
 ·exact .inr h120
 unfold z41 at h;rw[has_put_other (by intro e;cases e;exact h120 rfl),has_put_other (by intro e;cases e;exact h4 rfl)]at h
 cases h
theorem zbo (a seq:Int):has (z41 a seq) (.int .i64 4)=true:=by
 unfold z41;rw[has_put_other (by simp)]
 exact has_put_same isMap_empty (show WideAt.IsKeyLit (.int .i64 4)from trivial) _
theorem z8p (a seq:Int):has (z41 a seq) (.int .i64 120)=true:=by
 unfold z41;exact has_put_same (isMap_empty.put _ _) (show WideAt.IsKeyLit (.int .i64 120)from trivial) _
theorem zet (a seq:Int)(z:DataW Unit):(z41 a seq).atKey (.int .i64 4) z=.lit (.int .u32 seq):=by
 unfold z41;rw[atKey_put_other (by simp)]
 exact atKey_put_same isMap_empty (show WideAt.IsKeyLit (.int .i64 4)from trivial) _ _
theorem z9w (a seq:Int)(z:DataW Unit):(z41 a seq).atKey (.int .i64 120) z=.lit (.int .u32 a):=by
 unfold z41;exact atKey_put_same (isMap_empty.put _ _) (show WideAt.IsKeyLit (.int .i64 120)from trivial) _ _
theorem zde (a kind seq:Int)(s:ByteArray)(hq:0≤seq∧seq<4294967296)(w:World)(hH:HalfAt w)(hE:z11 a kind s.size=0):
  Calls prog 183 #[.int .i64 a,.int .i64 kind,.int .u32 seq,.string s] w (z21 a kind seq s w):=by
 have hz:=z0S;unfold z21;rw[if_pos hE,hE];have hb:¬(a<0∨256≤a∨kind<1∨255<kind)∧¬112<s.size:=by
  unfold z11 at hE;split at hE
  ·omega
  ·split at hE
   ·omega
   ·exact⟨by assumption,by assumption⟩
 clear hE;obtain⟨hb1,hb2⟩:=hb;have hmm:=@run_makeMap prog;go_enter func183,ntmps183
 have hs112:s.size≤112:=by omega
 have wq:(Lit.int .u32 seq).wf=true:=by simp[Lit.wf,IntKind.min,IntKind.max,IntKind.signed,IntKind.bits];omega
 have wa:(Lit.int .u32 a).wf=true:=by simp[Lit.wf,IntKind.min,IntKind.max,IntKind.signed,IntKind.bits];omega
 have w4:(Lit.int .i64 4).wf=true:=by decide
 have w120:(Lit.int .i64 120).wf=true:=by decide
 go_wp2_with (first
  | (refine z72 rfl _ _ _ _ rfl 5 underlying113 (by kernel_rfl) (w.heap.size+1) 8 112 112 s rfl rfl (z2G kind s.size) 128 (by unfold z2G;rw[←z1i,←z1i,←z1i];exact Blk.new' (by simp)) hs112 (by rw[z1l];omega) ?_;obtain⟨W1,hW1⟩:∃W1,W1=World.setRow ((w.alloc (.cells (z03 zsec) 128)).alloc (.cells ((((z03 zsec).setIfInBounds 0 (.int .u8 76)).setIfInBounds 1 (.int .u8 kind)).setIfInBounds 2 (.int .u8 (s.size:Int))) 128)) (w.heap.size+1) (z03 ((z2G kind s.size).take 8++strL s++(z2G kind s.size).drop (8+s.size))):=⟨_,rfl⟩;rw[←hW1];have bR:Blk W1 w.heap.size 128 (z03 zsec):=(by rw[hW1];exact((Blk.new _ _ _).alloc _).rowFar (by omega));have bS:Blk W1 (w.heap.size+1) 128 (z03 (z2q kind s)):=(by rw[hW1];exact Blk.setRow (Blk.new' (by simp)));have B1:Below w.heap.size w W1:=(by rw[hW1];exact Below.setRow (((zho _ _).alloc (zhT _) _).alloc (by simp) _) (by omega) _);have HS1:Hid (W1.heap.size=w.heap.size+2):=zhs (by rw[hW1];simp);clear hW1;obtain⟨w5,hr5,hm5,hg5⟩:=(World.ownsMap_made (H:=Unit) W1 prog 3 (plainElem prog 188)).update z3i underlying300 (by simp only[maxLen];omega) (keyOf_int_mk underlying3 w4) (plainElem_int underlying188 wq);obtain⟨w6,hr6,hm6,hg6⟩:=hm5.update z3i underlying300 (by simp only[maxLen];omega) (keyOf_int_mk underlying3 w120) (plainElem_int underlying188 wa);obtain⟨w7,hr7,hrg,hg7,hs7⟩:=hm6.range z3i underlying300;have HS7:=zhs hs7;clear hs7))
 have bR7:Blk w7 w.heap.size 128 (z03 zsec):=(((bR.alloc _).grown hg5 (by simp;rw[HS1.out];omega)).grown hg6 (by simp;rw[HS1.out];omega)).grown hg7 (by simp)
 have bS7:Blk w7 (w.heap.size+1) 128 (z03 (z2q kind s)):=(((bS.alloc _).grown hg5 (by simp;rw[HS1.out];omega)).grown hg6 (by simp;rw[HS1.out];omega)).grown hg7 (by simp)
 have z5:=hg5.size;have z6:=hg6.size;have z7:=hg7.size;rw[World.size_alloc]at z5;have B7:Below w.heap.size w w7:=by
  have b5:Below w.heap.size w w5:=(B1.alloc B1.size _).grown hg5 (by have:=B1.size;simp;omega) (by intro q hq;cases hq;exact B1.size)
  have b6:Below w.heap.size w w6:=b5.grown hg6 b5.size (by intro q hq;cases hq;exact B1.size)
  exact b6.grown hg7 b6.size (by intro q hq;cases hq)
 have hrg':w7.ranges prog 3 (plainElem prog 188) W1.heap.size w6.heap.size (0+1+1) (z41 a seq) (has (z41 a seq)) (size (z41 a seq)):=hrg;clear bR bS B1 hg5 hg6 hg7 hm5 hm6 hr5 hr6 hr7 hrg;have hl1:=z1R kind s hs112;have hb1s:=z3T (kind:=kind) (by omega) hs112
 have hsz6:w.heap.size+3≤w6.heap.size:=by have:=HS1.out;omega
 have hmb:w.heap.size+2=W1.heap.size:=HS1.out.symm;have hs7:=HS7.out;have hlz:z2L (z2q kind s) a seq (has (z41 a seq))=z2q kind s:=by
  unfold z2L;rw[zbo,z8p];rfl
 clear HS1 HS7 z5 z6 z7 hmm hz;generalize W1.heap.size=mb at *;generalize w6.heap.size=ri at *;go_loopw [11,12,13,14] (fun _ _ _ _ wr=>∃left cnt,wr.ranges prog 3 (plainElem prog 188) mb ri (0+1+1) (z41 a seq) left cnt∧(∀x,left (.int .i64 x)=true→x=4∨x=120)∧Blk wr (w.heap.size+1) 128 (z03 (z2L (z2q kind s) a seq left))∧Blk wr w.heap.size 128 (z03 zsec)∧Below w.heap.size w wr) (fun _ _ _ _ wr=>wr.rangeLeft mb ri)
 case atStart=>exact⟨_,_,hrg',zcX a seq,by rw[hlz];exact bS7,bR7,B7⟩
 case round=>
  obtain⟨left,cnt,hrg,hleft,bS,bR,hB⟩:=hrel;go_wp2_with (at_next;refine wpList_next_ranges_ii _ rfl _ rfl 3 188 .i64 .u32 z3i underlying3 underlying188 mb ri _ _ _ _ rfl hrg ?_ ?_)
  ·intro _ hl0;have hfin:z2L (z2q kind s) a seq left=z2p a kind seq s:=by unfold z2L z2p;rw[hl0,hl0];rfl
   rw[hfin]at bS;have hL2:(z2p a kind seq s).length=128:=by unfold z2p;rw[z0Q,z0Q];exact hl1
   have hB2:z0V (z2p a kind seq s):=z2c (z2c hb1s _ _) _ _;have hLL:Hid (putN (z2p a kind seq s) 124 (crc ((z2p a kind seq s).take 124))=z15 a kind seq s):=zhs rfl;generalize z2p a kind seq s=xs at bS hL2 hB2 hLL;have lS:=bS.lt;have hHr:=hH.below hB hH.1;go_wp2_with fail
   refine(z2Y (w.heap.size+1) 124 124 rfl (by omega) _ hL2 wr bS).mono ?_
   rintro e w2 ⟨rfl,rfl⟩;obtain⟨w2,hw2⟩:∃w2,w2=wr.alloc (.cells #[.slice (some ⟨w.heap.size+1,124,none⟩) 4 4] 113):=⟨_,rfl⟩;rw[←hw2];have bS2:Blk w2 (w.heap.size+1) 128 (z03 xs):=by rw[hw2];exact bS.alloc _
   have bR2:Blk w2 w.heap.size 128 (z03 zsec):=by rw[hw2];exact bR.alloc _
   have bB2:Blk w2 wr.heap.size 113 #[.slice (some ⟨w.heap.size+1,124,none⟩) 4 4]:=by rw[hw2];exact Blk.new _ _ _
   have hB2w:Below w.heap.size w w2:=by rw[hw2];exact hB.alloc hB.size _
   clear hw2;have lB2:=bB2.lt;go_wp2_with fail
   refine(zfF (some ⟨w.heap.size+1,0,none⟩) 124 128 (xs.take 124) (by rw[zi6];omega) (by omega) (z3N hB2 _) w2 (hH.below hB2w hH.1) (by rw[List.map_take];exact(z2d bS2).take 124)).mono ?_
   rintro e w3 ⟨rfl,hb3⟩;have bS3:=bS2.belowAll hb3;have bR3:=bR2.belowAll hb3;have bB3:=bB2.belowAll hb3;have hB3:=hB2w.trans (hb3.mono hB2w.size);have hcb:=z4K (xs.take 124);clear hb3;go_wp2_with fail
   refine(z7V (w.heap.size+1) wr.heap.size 124 (by omega) (crc (xs.take 124)) hcb _ hL2 w3 bS3 bB3 (by omega)).mono ?_
   rintro e w4 ⟨⟨v,rfl⟩,bS4,hx4⟩;have lR3:=bR3.lt;have bR4:=hx4.blk bR3 lR3 (by simp)
   have hB4:Below w.heap.size w w4:=hB3.trans (hx4.toBelow hB3.size (by simp))
   rw[hLL.out]at bS4;have hLs:(z15 a kind seq s).length=128:=by rw[←hLL.out,z0Q];exact hL2
   go_wp2_with (first
    | (refine z0u rfl _ rfl (w.heap.size+1) rfl bS4 hLs ?_)
    | (refine z0d rfl _ _ rfl w.heap.size (z15 a kind seq s) rfl rfl bR4 z07 hLs ?_))
   refine bodyPost_ret (z2j rfl rfl rfl (bR4.setRow (cs':=z03 (z15 a kind seq s))) hLs) rfl ?_;exact⟨Below.setRow (by (repeat' (first|with_reducible (first|exact zho _ _|assumption|refine zhp ?_ ?_ _|refine zhq ?_|refine z00 ?_ _|refine zhr ?_ ?_ _|exact zhT _)|omega|(simp;done)|(simp;omega)))) (zhT _) _,rfl⟩
  ·intro x c w1 cnt1 hwx hwc hlx hat hrg1 hlt hg1 hs1 hen;have HS1:=zhs hs1;clear hs1;have bS1:=bS.grown hg1 (by simp;omega)
   have bR1:=bR.grown hg1 (by simp;omega)
   have hB1:=hB.grown hg1 hB.size (by intro q hq;cases hq;omega)
   have zz:=hB1.size;have lS1:=bS1.lt;have hLS:(z2L (z2q kind s) a seq left).length=128:=by rw[z7X];exact hl1
   rcases hleft x hlx with rfl|rfl
   ·have hc:c=seq:=by
     have:=(hat (.nil)).symm.trans (zet a seq .nil)
     simpa using this
    subst hc;have hst:=zhs (zfb (xs:=z2q kind s) (a:=a) (seq:=c) hlx);go_wp2_with fail
    refine(z2Y (w.heap.size+1) 4 4 rfl (by omega) _ hLS w1 bS1).mono ?_
    rintro e w2 ⟨rfl,rfl⟩;go_wp2_with fail
    have bS2:=bS1.alloc (.cells #[.slice (some ⟨w.heap.size+1,4,none⟩) 4 4] 113);have bB2:Blk (w1.alloc (.cells #[.slice (some ⟨w.heap.size+1,4,none⟩) 4 4] 113)) w1.heap.size 113 #[.slice (some ⟨w.heap.size+1,4,none⟩) 4 4]:=Blk.new _ _ _;refine(z7V (w.heap.size+1) w1.heap.size 4 (by omega) c (by omega) _ hLS _ bS2 bB2 (by omega)).mono ?_
    rintro e w3 ⟨⟨v,rfl⟩,bS3,hx3⟩;have bR3:=hx3.blk (bR1.alloc _) (by simp;omega) (by simp)
    have hB3:Below w.heap.size w w3:=(hB1.alloc hB1.size _).trans (hx3.toBelow (by simp;omega) (by simp))
    have hrg3:=(hrg1.alloc (.cells #[.slice (some ⟨w.heap.size+1,4,none⟩) 4 4] 113)).kept hx3.grownBy (by simp;omega) (by simp;omega)
    go_wp2_with fail
    go_roundw
    case rel=>exact⟨_,cnt1,hrg3,fun y hy=>hleft y (by simp at hy;exact hy.1),by rw[hst.out];exact bS3,bR3,hB3⟩
    case measure=>rw[hrg3.left_eq,hrg.left_eq];exact hlt
   ·have hc:c=a:=by
     have:=(hat (.nil)).symm.trans (z9w a seq .nil)
     simpa using this
    subst hc;have hst:=zhs (zcj (xs:=z2q kind s) (a:=c) (seq:=seq) hlx);go_wp2_with fail
    refine(z2Y (w.heap.size+1) 120 120 rfl (by omega) _ hLS w1 bS1).mono ?_
    rintro e w2 ⟨rfl,rfl⟩;go_wp2_with fail
    have bS2:=bS1.alloc (.cells #[.slice (some ⟨w.heap.size+1,120,none⟩) 4 4] 113);have bB2:Blk (w1.alloc (.cells #[.slice (some ⟨w.heap.size+1,120,none⟩) 4 4] 113)) w1.heap.size 113 #[.slice (some ⟨w.heap.size+1,120,none⟩) 4 4]:=Blk.new _ _ _;refine(z7V (w.heap.size+1) w1.heap.size 120 (by omega) c (by omega) _ hLS _ bS2 bB2 (by omega)).mono ?_
    rintro e w3 ⟨⟨v,rfl⟩,bS3,hx3⟩;have bR3:=hx3.blk (bR1.alloc _) (by simp;omega) (by simp)
    have hB3:Below w.heap.size w w3:=(hB1.alloc hB1.size _).trans (hx3.toBelow (by simp;omega) (by simp))
    have hrg3:=(hrg1.alloc (.cells #[.slice (some ⟨w.heap.size+1,120,none⟩) 4 4] 113)).kept hx3.grownBy (by simp;omega) (by simp;omega)
    go_wp2_with fail
    go_roundw
    case rel=>exact⟨_,cnt1,hrg3,fun y hy=>hleft y (by simp at hy;exact hy.1),by rw[hst.out];exact bS3,bR3,hB3⟩
    case measure=>rw[hrg3.left_eq,hrg.left_eq];exact hlt
theorem zeL (a kind seq:Int)(s:ByteArray)(hs:s.size≤maxLen)(hq:0≤seq∧seq<4294967296)(w:World)(hH:HalfAt w):
  Calls prog 183 #[.int .i64 a,.int .i64 kind,.int .u32 seq,.string s] w (z21 a kind seq s w):=by
 by_cases hE:z11 a kind s.size=0
 ·exact zde a kind seq s hq w hH hE
 ·exact zeF a kind seq s hs w hE
theorem z1n (a kind seq:Int)(s:ByteArray)(h:s.size≤112):(z15 a kind seq s).length=128:=by
 unfold z15 z2p;rw[z0Q,z0Q,z0Q];exact z1R kind s h
theorem z2x {a kind:Int}(seq:Int){s:ByteArray}(hE:z11 a kind s.size=0):z0V (z15 a kind seq s):=by
 have hb:(1≤kind∧kind≤255)∧s.size≤112:=by
  unfold z11 at hE;split at hE
  ·omega
  ·split at hE<;>omega
 exact z2c (z2c (z2c (z3T (by omega) hb.2) _ _) _ _) _ _
end Go.Proofs.YtejmknghkbobnaaGreatDoor
