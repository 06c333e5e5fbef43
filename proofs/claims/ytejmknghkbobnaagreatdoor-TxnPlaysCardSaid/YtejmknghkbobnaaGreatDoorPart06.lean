import Derived.Test.YtejmknghkbobnaaGreatDoorPart00
import Derived.Test.YtejmknghkbobnaaGreatDoorPart05
import Derived.Laws.BitsAllLaws
import Derived.Shelf.Spec.RuneCount
import Derived.Test.YtejmknghkbobnaaGreatDoorPart02
import Derived.Test.YtejmknghkbobnaaGreatDoorPart03
import Derived.Maps.OwnSet
set_option linter.unusedVariables false
set_option linter.unusedSimpArgs false
set_option maxRecDepth 100000
set_option maxHeartbeats 8000000
namespace Go.Proofs.YtejmknghkbobnaaGreatDoor
open Go.Proofs.Tryz
open Go.RowKit
theorem z1m {xs:List Int}{i j:Nat}{v:Int}(h:i≠j):(xs.set i v).getD j 0=xs.getD j 0:=by
 rw[zhw,zhw,List.getElem?_set,if_neg h]
theorem z2O {xs:List Int}{i:Nat}{v:Int}(h:i<xs.length):(xs.set i v).getD i 0=v:=by
 rw[zhw,List.getElem?_set,if_pos rfl,if_pos h];rfl
theorem z4s {xs:List Int}{a j:Nat}{n:Int}:∀ {k:Nat},j<a∨a+k≤j→(putK xs a n k).getD j 0=xs.getD j 0
 | 0,_=>rfl
 | k+1,h=>by
  show ((putK xs a n k).set (a+k) (nb n k)).getD j 0=_
  rw[z1m (by omega),z4s (by omega)]
theorem zcE {xs:List Int}{a:Nat}{n:Int}:∀ {k j:Nat},j<k→a+k≤xs.length→(putK xs a n k).getD (a+j) 0=nb n j
 | 0,j,h,_=>absurd h (by omega)
 | k+1,j,h,hl=>by
  show ((putK xs a n k).set (a+k) (nb n k)).getD (a+j) 0=_
  by_cases e:j=k
  ·subst e;exact z2O (by rw[z3b];omega)
  ·rw[z1m (by omega),zcE (by omega) (by omega)]
theorem or32 (x y:Nat)(hx:x<4294967296)(hy:y<4294967296):bits .or .u32 (x:Int) (y:Int)=((x ||| y:Nat):Int):=by
 have h:bits .or .u32 (x:Int) (y:Int)=IntKind.u32.wrap ((BitVec.ofInt 32 (x:Int) ||| BitVec.ofInt 32 (y:Int)).toNat:Int):=rfl;have hlt:x ||| y<2 ^ 32:=Nat.or_lt_two_pow (by omega) (by omega)
 rw[h,BitVec.toNat_or,BitVec.ofInt_natCast,BitVec.ofInt_natCast,BitVec.toNat_ofNat,BitVec.toNat_ofNat,Nat.mod_eq_of_lt (by omega),Nat.mod_eq_of_lt (by omega),IntKind.wrap_u32']
 omega
theorem z7Q (xs:List Int)(a:Nat)(n:Nat):∀k,k≤4→(∀j,j<k→xs.getD (a+j) 0=nb (n:Int) j)→z3k xs a k=((n % 2 ^ (8*k):Nat):Int)
 | 0,_,_=>by simp[z3k,Nat.mod_one]
 | k+1,hk,h=>by
  have ih:=z7Q xs a n k (by omega) (fun j hj=>h j (by omega))
  unfold z3k;rw[ih,h k (by omega)]
  have hb:nb (n:Int) k=((n / 2 ^ (8*k) % 256:Nat):Int):=by unfold nb;simp
  rw[hb];have hc:((n / 2 ^ (8*k) % 256:Nat):Int)*2 ^ (8*k) % 4294967296=((2 ^ (8*k)*(n / 2 ^ (8*k) % 256):Nat):Int):=by
   have hlt:2 ^ (8*k)*(n / 2 ^ (8*k) % 256)<4294967296:=by
    have h1:n / 2 ^ (8*k) % 256<256:=Nat.mod_lt _ (by omega)
    have h2:2 ^ (8*k)*(n / 2 ^ (8*k) % 256)<2 ^ (8*k)*256:=Nat.mul_lt_mul_of_pos_left h1 (Nat.two_pow_pos _);have h3:2 ^ (8*k)*256≤2 ^ 32:=by
     have:2 ^ (8*k)*256=2 ^ (8*k+8):=by rw[Nat.pow_add]
     rw[this];exact Nat.pow_le_pow_right (by omega) (by omega)
    omega
   have hm:((n / 2 ^ (8*k) % 256:Nat):Int)*2 ^ (8*k)=((2 ^ (8*k)*(n / 2 ^ (8*k) % 256):Nat):Int):=by
    generalize n / 2 ^ (8*k) % 256=y;rw[Int.natCast_mul,Int.mul_comm];congr 1
   rw[hm];omega
  have h1:n % 2 ^ (8*k)<2 ^ (8*k):=Nat.mod_lt _ (Nat.two_pow_pos _);have h256:n / 2 ^ (8*k) % 256<256:=Nat.mod_lt _ (by omega)
  have hpow:2 ^ (8*k)*256=2 ^ (8*(k+1)):=by rw[show 8*(k+1)=8*k+8 by omega,Nat.pow_add]
  have hle:2 ^ (8*(k+1))≤2 ^ 32:=Nat.pow_le_pow_right (by omega) (by omega)
  have hlt2:2 ^ (8*k)*(n / 2 ^ (8*k) % 256)<2 ^ (8*k)*256:=Nat.mul_lt_mul_of_pos_left h256 (Nat.two_pow_pos _);rw[hc,or32 _ _ (by omega) (by omega),Nat.or_comm,←Nat.two_pow_add_eq_or_of_lt h1]
  congr 1
  rw[←hpow];rw[Nat.mod_mul];omega
theorem z6q {xs:List Int}{a:Nat}{n:Int}(hn:0≤n∧n<4294967296)(hl:a+4≤xs.length):z0o (putN xs a n) a=n:=by
 obtain⟨m,rfl⟩:=Int.eq_ofNat_of_zero_le hn.1;show z3k (putN xs a (m:Int)) a 4=_
 rw[z7Q (putN xs a (m:Int)) a m 4 (by omega) (fun j hj=>zcE (k:=4) hj hl)]
 omega
theorem z6J {xs ys:List Int}{a:Nat}:∀k,(∀j,j<k→xs.getD (a+j) 0=ys.getD (a+j) 0)→z3k xs a k=z3k ys a k
 | 0,_=>rfl
 | k+1,h=>by
  unfold z3k;rw[z6J k (fun j hj=>h j (by omega)),h k (by omega)]
theorem z43 {xs:List Int}{a b:Nat}{n:Int}(h:a+4≤b∨b+4≤a):z0o (putN xs a n) b=z0o xs b:=
 z6J 4 fun _ hj=>z4s (by omega)
theorem zaG {xs:List Int}{a:Nat}{n:Int}:∀k,(putK xs a n k).take a=xs.take a
 | 0=>rfl
 | k+1=>by
  show ((putK xs a n k).set (a+k) (nb n k)).take a=_
  rw[List.take_set_of_le (by omega),zaG k]
theorem z78 (s:ByteArray):strOfNums (strL s)=s:=strOfNums_bytes s
section
variable {a kind seq:Int}{s:ByteArray}(hs:s.size≤112)
include hs
theorem z27 {j:Nat}(h:j<4∨8≤j∧j<120):(z15 a kind seq s).getD j 0=(z2q kind s).getD j 0:=by
 have _:=hs;unfold z15 z2p putN;rw[z4s (by omega),z4s (by omega),z4s (by omega)]
theorem z5I {j:Nat}(h:j<8):(z2q kind s).getD j 0=(z2G kind s.size).getD j 0:=by
 have _:=hs;have h0:=z1l kind s.size;unfold z2q;rw[zhw,List.append_assoc,zhA (by rw[zi6];omega),List.getElem?_take,if_pos h,zhw]
theorem z9e {j:Nat}(h:j<s.size):(z2q kind s).getD (8+j) 0=(strL s).getD j 0:=by
 have _:=hs;have h0:=z1l kind s.size;have hL:=z17 s;unfold z2q;rw[zhw,List.append_assoc,zhB (by rw[zi6];omega),zi6,show 8+j - min 8 (z2G kind s.size).length=j by omega,zhA (by omega),zhw]
theorem zaI {j:Nat}(h:8+s.size≤j):(z2q kind s).getD j 0=(z2G kind s.size).getD j 0:=by
 have _:=hs;have h0:=z1l kind s.size;have hL:=z17 s;unfold z2q;rw[zhw,zhB (by rw[zhF,zi6];omega),zhF,zi6,List.getElem?_drop,show 8+s.size+(j - (min 8 (z2G kind s.size).length+(strL s).length))=j by omega,zhw]
theorem z59 {j:Nat}(h:3≤j):(z2G kind s.size).getD j 0=0:=by
 have _:=hs;unfold z2G;rw[z1m (by omega),z1m (by omega),z1m (by omega)]
 unfold zsec;rw[zhw,List.getElem?_replicate];split<;>rfl
theorem z9R:(z15 a kind seq s).getD 0 0=76:=by
 rw[z27 hs (by omega),z5I hs (by omega)]
 unfold z2G;rw[z1m (by omega),z1m (by omega),z2O (by rw[z07];omega)]
theorem z9M:(z15 a kind seq s).getD 1 0=kind:=by
 rw[z27 hs (by omega),z5I hs (by omega)]
 unfold z2G;rw[z1m (by omega),z2O (by rw[List.length_set,z07];omega)]
theorem z88:(z15 a kind seq s).getD 2 0=(s.size:Int):=by
 rw[z27 hs (by omega),z5I hs (by omega)]
 unfold z2G;rw[z2O (by rw[List.length_set,List.length_set,z07];omega)]
theorem zcA:(z15 a kind seq s).getD 3 0=0:=by
 rw[z27 hs (by omega),z5I hs (by omega),z59 hs (by omega)]
theorem z9o:(z2p a kind seq s).length=128:=by
 unfold z2p;rw[z0Q,z0Q];exact z1R kind s hs
theorem z8o (hq:0≤seq∧seq<4294967296):z0o (z15 a kind seq s) 4=seq:=by
 unfold z15;rw[z43 (by omega)]
 unfold z2p;rw[z43 (by omega),z6q hq (by rw[z1R kind s hs];omega)]
theorem z3U (ha:0≤a∧a<4294967296):z0o (z15 a kind seq s) 120=a:=by
 unfold z15;rw[z43 (by omega)]
 unfold z2p;rw[z6q ha (by rw[z0Q,z1R kind s hs];omega)]
theorem z8C:z0o (z15 a kind seq s) 124=crc ((z15 a kind seq s).take 124):=by
 have h:(z15 a kind seq s).take 124=(z2p a kind seq s).take 124:=by unfold z15;exact zaG 4
 rw[h];unfold z15;exact z6q (z4K _) (by rw[z9o hs];omega)
theorem zeb:z0t (z15 a kind seq s)=s:=by
 have hL:=z1n a kind seq s hs;have hl:=z17 s;unfold z0t;rw[z88 hs,zhU];have:((z15 a kind seq s).take (8+s.size)).drop 8=strL s:=by
  apply List.ext_getElem (by rw[zi7,zi6];omega)
  intro i h1 h2;have e1:=z9e (kind:=kind) hs (j:=i) (by omega)
  rw[←z27 (a:=a) (seq:=seq) hs (by omega)]at e1
  rw[zhw,zhx (by omega),zhw,zhx h2]at e1
  rw[List.getElem_drop,List.getElem_take];exact e1
 rw[this,z78]
theorem zdw:z5W (z15 a kind seq s)=true:=by
 refine(z7R (z88 hs) (z1n a kind seq s hs) hs).2 fun p hp=>?_
 rw[z27 hs (by omega),zaI hs (by omega),z59 hs (by omega)]
end
theorem z3B {a kind:Int}{n:Nat}(hE:z11 a kind n=0):0≤a∧a<256∧1≤kind∧kind≤255∧n≤112:=by
 unfold z11 at hE;split at hE
 ·omega
 ·split at hE<;>omega
theorem z6R {a kind seq:Int}{s:ByteArray}(hE:z11 a kind s.size=0)(hq:0≤seq∧seq<4294967296):z1g a (z15 a kind seq s)=0:=by
 obtain⟨h1,h2,h3,h4,hs⟩:=z3B hE;unfold z1g;rw[if_neg (by omega),if_neg (fun h=>by
  have h0:=z9R (a:=a) (kind:=kind) (seq:=seq) hs;rw[h]at h0;revert h0;decide),if_neg (by rw[z8C hs];simp),if_neg (by rw[z9R hs,z9M hs,z88 hs,zcA hs,z3U hs (by omega)];omega),if_neg (by rw[zdw hs];simp),if_neg (by rw[z3U hs (by omega)];simp)]
def crcF (r:Nat):Nat:=if r % 2=1 then (r / 2) ^^^ 3988292384 else r / 2
def z6X (r:Nat):Nat→Nat
 | 0=>r
 | k+1=>crcF (z6X r k)
theorem z5y (a b:Nat):crcF (a ^^^ b)=crcF a ^^^ crcF b:=by
 have hd:(a ^^^ b) / 2=a / 2 ^^^ b / 2:=Nat.xor_div_two;have hm:(a ^^^ b) % 2=1↔¬(a % 2=1↔b % 2=1):=Nat.xor_mod_two_eq_one;unfold crcF;rw[hd];by_cases ha:a % 2=1
 ·by_cases hb:b % 2=1
  ·rw[if_neg (by rw[hm];simp[ha,hb]),if_pos ha,if_pos hb,Nat.xor_assoc,Nat.xor_comm (b / 2) 3988292384,←Nat.xor_assoc 3988292384,Nat.xor_self,Nat.zero_xor]
  ·rw[if_pos (by rw[hm];simp[ha,hb]),if_pos ha,if_neg hb,Nat.xor_assoc,Nat.xor_comm (b / 2),←Nat.xor_assoc]
 ·by_cases hb:b % 2=1
  ·rw[if_pos (by rw[hm];simp[ha,hb]),if_neg ha,if_pos hb,Nat.xor_assoc]
  ·rw[if_neg (by rw[hm];simp[ha,hb]),if_neg ha,if_neg hb]
theorem z4B (a:Nat):crcF (2*a)=a:=by
 unfold crcF;rw[if_neg (by omega)]
 omega
theorem zdG (q n:Nat)(hn:n<16):(16*q) ^^^ n=16*q+n:=by
 have st:∀m k,(2*m) ^^^ k=2*(m ^^^ k / 2)+k % 2:=fun m k=>by
  have hd:((2*m) ^^^ k) / 2=(2*m) / 2 ^^^ k / 2:=Nat.xor_div_two;have hm:((2*m) ^^^ k) % 2=1↔¬((2*m) % 2=1↔k % 2=1):=Nat.xor_mod_two_eq_one;rw[show (2*m) / 2=m by omega]at hd
  have h2:((2*m) ^^^ k) % 2=k % 2:=by
   by_cases hk:k % 2=1
   ·rw[hm.2 (fun h=>by have:=h.2 hk;omega),hk]
   ·have:¬((2*m) ^^^ k) % 2=1:=fun h=>(hm.1 h) ⟨fun h=>by omega,fun h=>absurd h hk⟩
    omega
  omega
 have h1:=st (8*q) n;have h2:=st (4*q) (n / 2);have h3:=st (2*q) (n / 2 / 2);have h4:=st q (n / 2 / 2 / 2);rw[show n / 2 / 2 / 2 / 2=0 by omega,Nat.xor_zero]at h4
 rw[show 16*q=2*(8*q) by omega,h1,show 8*q=2*(4*q) by omega,h2,show 4*q=2*(2*q) by omega,h3,h4]
 omega
def halfN:List Nat:=[0x00000000,0x1db71064,0x3b6e20c8,0x26d930ac,0x76dc4190,0x6b6b51f4,0x4db26158,0x5005713c,0xedb88320,0xf00f9344,0xd6d6a3e8,0xcb61b38c,0x9b64c2b0,0x86d3d2d4,0xa00ae278,0xbdbdf21c]
theorem zhm (r:Nat):crcF (crcF (crcF (crcF r)))=halfN.getD (r % 16) 0 ^^^ (r / 16):=by
 obtain⟨q,n,hn,rfl⟩:∃q n,n<16∧r=16*q+n:=⟨r / 16,r % 16,by omega,by omega⟩
 rw[show (16*q+n) % 16=n by omega,show (16*q+n) / 16=q by omega,←zdG q n hn]
 rw[z5y,z5y,z5y,z5y,show 16*q=2*(8*q) by omega,z4B,show 8*q=2*(4*q) by omega,z4B,show 4*q=2*(2*q) by omega,z4B,z4B,Nat.xor_comm]
 congr 1
 have h:n=0∨n=1∨n=2∨n=3∨n=4∨n=5∨n=6∨n=7∨n=8∨n=9∨n=10∨n=11∨n=12∨n=13∨n=14∨n=15:=by omega
 rcases h with rfl|rfl|rfl|rfl|rfl|rfl|rfl|rfl|rfl|rfl|rfl|rfl|rfl|rfl|rfl|rfl
 all_goals decide
theorem zbK (x y:Nat)(hx:x<4294967296)(hy:y<4294967296):bits .xor .u32 (x:Int) (y:Int)=((x ^^^ y:Nat):Int):=by
 have h:bits .xor .u32 (x:Int) (y:Int)=IntKind.u32.wrap ((BitVec.ofInt 32 (x:Int) ^^^ BitVec.ofInt 32 (y:Int)).toNat:Int):=rfl;have hlt:x ^^^ y<2 ^ 32:=Nat.xor_lt_two_pow (by omega) (by omega)
 rw[h,BitVec.toNat_xor,BitVec.ofInt_natCast,BitVec.ofInt_natCast,BitVec.toNat_ofNat,BitVec.toNat_ofNat,Nat.mod_eq_of_lt (by omega),Nat.mod_eq_of_lt (by omega),IntKind.wrap_u32']
 omega
theorem zhb (x:Nat)(hx:x<4294967296):bits .and .u32 (x:Int) 15=((x % 16:Nat):Int):=by
 have h:bits .and .u32 (x:Int) 15=IntKind.u32.wrap ((BitVec.ofInt 32 (x:Int) &&& BitVec.ofInt 32 ((15:Nat):Int)).toNat:Int):=rfl;rw[h,BitVec.toNat_and,BitVec.ofInt_natCast,BitVec.ofInt_natCast,BitVec.toNat_ofNat,BitVec.toNat_ofNat,Nat.mod_eq_of_lt (by omega),Nat.mod_eq_of_lt (by omega),show (15:Nat)=2 ^ 4 - 1 from rfl,Nat.and_two_pow_sub_one_eq_mod,IntKind.wrap_u32']
 omega
theorem zeN (n:Nat)(hn:n<16):halfN.getD n 0<4294967296∧halfL.getD n 0=(halfN.getD n 0:Nat):=by
 have h:n=0∨n=1∨n=2∨n=3∨n=4∨n=5∨n=6∨n=7∨n=8∨n=9∨n=10∨n=11∨n=12∨n=13∨n=14∨n=15:=by omega
 rcases h with rfl|rfl|rfl|rfl|rfl|rfl|rfl|rfl|rfl|rfl|rfl|rfl|rfl|rfl|rfl|rfl
 all_goals decide
theorem z6V {r:Nat}(h:r<4294967296):crcF r<4294967296:=by
 unfold crcF;split
 ·exact Nat.xor_lt_two_pow (n:=32) (by show _<4294967296;omega) (by decide)
 ·omega
theorem zfH (x:Nat)(hx:x<4294967296):nib (x:Int)=((crcF (crcF (crcF (crcF x))):Nat):Int):=by
 have h1:=zeN (x % 16) (by omega)
 unfold nib;rw[zhb x hx,zhU,h1.2,show ((x:Int) / 16)=((x / 16:Nat):Int) by omega,zbK _ _ h1.1 (by omega),zhm]
theorem ze2 (x c:Nat)(hx:x<4294967296)(hc:c<256):crcB (x:Int) (c:Int)=((z6X (x ^^^ c) 8:Nat):Int):=by
 have h0:x ^^^ c<4294967296:=Nat.xor_lt_two_pow (n:=32) (by show _<4294967296;omega) (by show _<4294967296;omega)
 have h4:=z6V (z6V (z6V (z6V h0)));unfold crcB;rw[zbK x c hx (by omega),zfH _ h0,zfH _ h4]
 rfl
theorem z8c {r:Nat}(h:r<4294967296)(k:Nat):z6X r k<4294967296:=by
 induction k with
 | zero=>exact h
 | succ k ih=>exact z6V ih
theorem zcJ (x c:Int)(hx:0≤x∧x<4294967296)(hc:0≤c∧c<256)(w:World):
  Calls prog 253 #[.int .u32 x,.int .u8 c] w fun e w'=>e=.returned (.int .u32 (crcB x c))∧w'=w:=by
 obtain⟨x,rfl⟩:∃n:Nat,x=n:=⟨x.toNat,by omega⟩
 obtain⟨c,rfl⟩:∃n:Nat,c=n:=⟨c.toNat,by omega⟩
 rw[ze2 x c (by omega) (by omega)]
 have hxr:=zbK x c (by omega) (by omega)
 have h0:x ^^^ c<4294967296:=Nat.xor_lt_two_pow (n:=32) (by show _<4294967296;omega) (by show _<4294967296;omega)
 have hcm:(c:Int) % 4294967296=c:=by omega
 have hst:∀k,((z6X (x ^^^ c) (k+1):Nat):Int)=if z6X (x ^^^ c) k % 2=1 then bits .xor .u32 ((z6X (x ^^^ c) k:Nat) / 2:Int) 3988292384 else ((z6X (x ^^^ c) k:Nat) / 2:Int):=fun k=>by
  have hk:=z8c h0 k;show ((crcF (z6X (x ^^^ c) k):Nat):Int)=_
  unfold crcF;split
  ·rename_i h
   rw[←zbK _ 3988292384 (by omega) (by decide)]
   rfl
  ·omega
 have hlt:∀k,z6X (x ^^^ c) k<4294967296:=z8c h0;generalize hfn:z6X (x ^^^ c)=f at *;have hf0:((f 0:Nat):Int)=((x ^^^ c:Nat):Int):=by rw[←hfn];rfl
 clear hfn h0;have HST:=zhs hst;have HLT:=zhs hlt;clear hst hlt;go_enter func253,ntmps253
 go_wp2_with fail
 go_loopw [0,5] (fun r q wr=>∃k:Nat,k≤8∧q=.int .i64 k∧r=.int .u32 ((f k:Nat):Int)∧wr=w) (fun _ q _=>8 - (intOf q).toNat)
 case atStart=>exact⟨0,by omega,rfl,by rw[hf0,←hxr];try rw[hcm],rfl⟩
 case round=>
  obtain⟨k,hk,rfl,rfl,hw⟩:=hrel;subst hw;by_cases hlt:k<8
  ·have hn:=HST.out k;have hb:=HLT.out k;generalize f k=r at hn hb;by_cases hodd:r % 2=1
   ·rw[if_pos hodd]at hn;have hod:(r:Int) % 2=1:=by omega
    go_wp2_with fail
    go_roundw
    case rel=>exact⟨k+1,by omega,by go_num,by rw[hn],by first|trivial|rfl⟩
    case measure=>simp[intOf];omega
   ·rw[if_neg hodd]at hn;have hod:¬(r:Int) % 2=1:=by omega
    go_wp2_with fail
    go_roundw
    case rel=>exact⟨k+1,by omega,by go_num,by rw[hn],by first|trivial|rfl⟩
    case measure=>simp[intOf];omega
  ·obtain rfl:k=8:=by omega
   go_wp2_with fail
   go_ret
   exact⟨rfl,rfl⟩
theorem zgq (A:Option Addr)(c:Nat)(xs:List Int)(hl:xs.length≤100000)(hbx:z0V xs)(w:World)(hX:Reads w A (xs.map (.int .u8))):
  Calls prog 245 #[.int .u32 0,.slice A xs.length c] w fun e w'=>e=.returned (.int .u32 (crc xs))∧w'=w:=by
 have hcl:∀k,k≤xs.length→0≤crcL 4294967295 (xs.take k)∧crcL 4294967295 (xs.take k)<4294967296:=fun k=>by
  induction k with
  | zero=>intro _;exact(by decide:(0:Int)≤4294967295∧(4294967295:Int)<4294967296)
  | succ k ih=>
   intro hk;rw[z5P _ _ k hk];have h:=ih (by omega)
   have hy:=hbx _ (zhQ hk);generalize crcL 4294967295 (xs.take k)=q at h;generalize xs[k]=y at hy;obtain⟨q,rfl⟩:∃n:Nat,q=n:=⟨q.toNat,by omega⟩
   obtain⟨y,rfl⟩:∃n:Nat,y=n:=⟨y.toNat,by omega⟩
   have hq:q ^^^ y<4294967296:=Nat.xor_lt_two_pow (n:=32) (by show _<4294967296;omega) (by show _<4294967296;omega)
   rw[ze2 q y (by omega) (by omega)]
   have:=z8c hq 8
   omega
 have hmx:bits BinOp.xor IntKind.u32 0 4294967295=4294967295:=by decide
 have hend:∀x:Int,0≤x∧x<4294967296→bits BinOp.xor IntKind.u32 x 4294967295=bits .xor .u32 IntKind.u32.max x:=fun x hx=>by
  obtain⟨x,rfl⟩:∃n:Nat,x=n:=⟨x.toNat,by omega⟩
  have hm:IntKind.u32.max=((4294967295:Nat):Int):=by decide
  rw[hm,zbK _ _ (by decide) (by omega),Nat.xor_comm,←zbK _ _ (by omega) (by decide)]
  rfl
 have HCL:=zhs hcl;clear hcl;go_enter func245,ntmps245
 go_wp2_with fail
 go_loopw [5,6] (fun x q wr=>∃k:Nat,k≤xs.length∧q=.int .i64 k∧x=.int .u32 (crcL 4294967295 (xs.take k))∧wr=w) (fun _ q _=>xs.length - (intOf q).toNat)
 case atStart=>exact⟨0,zi9 _,rfl,rfl,rfl⟩
 case round=>
  obtain⟨k,hk,rfl,rfl,hw⟩:=hrel;subst hw;by_cases hlt:k<xs.length
  ·obtain⟨b,off,rfl,hb,hc⟩:=hX.at_ (k:=k) (by simpa using hlt)
   rw[List.getElem_map]at hc;have hs:=zhs (z5P 4294967295 xs k hlt);have hxb:=HCL.out k hk;generalize crcL 4294967295 (xs.take k)=x at hs hxb;have hyb:=hbx _ (zhQ hlt);generalize xs[k]=y at hc hs hyb;go_wp2_with fail
   refine(zcJ x y hxb hyb _).mono ?_;rintro e w' ⟨rfl,rfl⟩;go_wp2_with fail
   go_roundw
   case rel=>exact⟨k+1,by omega,by go_num,by rw[hs.out],by first|trivial|rfl⟩
   case measure=>simp[intOf];omega
  ·obtain rfl:k=xs.length:=by omega
   have hxb:=HCL.out _ hk;rw[zia]at hxb;rw[zia];have he:=hend _ hxb;go_wp2_with fail
   go_ret
   exact⟨by unfold crc;rfl,rfl⟩
theorem zeM (A:Option Addr)(c:Nat)(xs:List Int)(hl:xs.length≤100000)(hbx:z0V xs)(w:World)(hX:Reads w A (xs.map (.int .u8))):
  Calls prog 223 #[.slice A xs.length c] w fun e w'=>e=.returned (.int .u32 (crc xs))∧w'=w:=by
 go_enter func223,ntmps223
 go_wp2_with fail
 refine(zgq A c xs hl hbx _ hX).mono ?_;rintro e w' ⟨rfl,rfl⟩;go_wp2_with fail
 go_ret
 exact⟨rfl,rfl⟩
def devC (S n c:Nat)(cv:Value)(tk pw:Int)(off:Bool)(M:Nat):Array Value:=#[.slice (some ⟨S,0,none⟩) n c,cv,.int .i64 tk,.int .i64 pw,.bool off,.map (some M)]
theorem z2W (D S n c:Nat)(cv:Value)(tk pw:Int)(off:Bool)(M:Nat)(w:World)(bD:Blk w D 133 (devC S n c cv tk pw off M)):
  Calls prog 54 #[.pointer (some ⟨D,0,none⟩)] w fun e w'=>e=.returned (.bool true)∧w'=w:=by
 unfold devC at bD;have cD:=bD.cells;have hmn:=run_neq_map_nil (P:=prog) w 131 3 3 (some M) underlying131;go_enter func54,ntmps54
 go_wp2_with fail
 go_ret
 exact⟨rfl,rfl⟩
def z5c (off:Bool):Int:=if off then 13 else 0
theorem z8T (D S n c:Nat)(cv:Value)(tk pw:Int)(off:Bool)(M:Nat)(w:World)(bD:Blk w D 133 (devC S n c cv tk pw off M)):
  Calls prog 186 #[.pointer (some ⟨D,0,none⟩)] w fun e w'=>e=.returned (.int .i64 (z5c off))∧w'=w:=by
 have hok:=z2W D S n c cv tk pw off M w bD;unfold devC at bD;have cD:=bD.cells;cases off
 all_goals
  go_enter func186,ntmps186
  go_wp2_with fail
  refine hok.mono ?_;rintro e w1 ⟨rfl,rfl⟩;go_wp2_with fail
  go_ret
  exact⟨rfl,rfl⟩
def atE (off:Bool)(n:Nat)(a:Int):Int:=if off then 13 else if a<0∨(n:Int)≤a then 7 else 0
theorem zaH (D S n c:Nat)(cv:Value)(tk pw:Int)(off:Bool)(M:Nat)(a:Int)(w:World)(bD:Blk w D 133 (devC S n c cv tk pw off M)):
  Calls prog 184 #[.pointer (some ⟨D,0,none⟩),.int .i64 a] w fun e w'=>e=.returned (.int .i64 (atE off n a))∧w'=w:=by
 have hr:=z8T D S n c cv tk pw off M w bD;unfold devC at bD;have cD:=bD.cells;unfold z5c at hr;cases off
 ·by_cases a1:a<0
  rotate_left;by_cases a2:(n:Int)≤a
  all_goals
   have HA:Hid (atE false n a=if a<0∨(n:Int)≤a then 7 else 0):=zhs rfl
   first
    | (have HE:Hid (atE false n a=0):=zhs (by rw[HA.out,if_neg (by omega)]))
    | (have HE:Hid (atE false n a=7):=zhs (by rw[HA.out,if_pos (by omega)]))
   go_enter func184,ntmps184
   go_wp2_with fail
   refine hr.mono ?_;rintro e w1 ⟨rfl,rfl⟩;go_wp2_with fail
   go_ret
   exact⟨by rw[HE.out];rfl,rfl⟩
 ·go_enter func184,ntmps184
  go_wp2_with fail
  refine hr.mono ?_;rintro e w1 ⟨rfl,rfl⟩;go_wp2_with fail
  go_ret
  exact⟨rfl,rfl⟩
open Go.Maps
def z1t (ats:List Int):Nat→DataW Unit
 | 0=>.map []
 | k+1=>(z1t ats k).put (.int .i64 (ats.getD k 0)) (.lit (.int .i64 k))
def z1J (ats:List Int)(a:Int):Nat→Option Nat
 | 0=>none
 | k+1=>if ats.getD k 0=a then some k else z1J ats a k
theorem z4b (ats:List Int)(k:Nat):IsMap (z1t ats k):=by
 cases k with
 | zero=>exact isMap_empty
 | succ k=>
  induction k with
  | zero=>exact isMap_empty.put _ _
  | succ k ih=>exact ih.put _ _
theorem z9B (ats:List Int)(a:Int)(k:Nat):has (z1t ats k) (.int .i64 a)=(z1J ats a k).isSome:=by
 induction k with
 | zero=>rfl
 | succ k ih=>
  unfold z1t z1J;by_cases h:ats.getD k 0=a
  ·rw[h,if_pos rfl];exact has_put_same (z4b ats k) (show WideAt.IsKeyLit (.int .i64 a)from trivial) _
  ·rw[if_neg h,has_put_other (by intro e;cases e;exact h rfl),ih]
theorem zbP (ats:List Int)(a:Int)(k:Nat)(z:DataW Unit):(z1t ats k).atKey (.int .i64 a) z=match z1J ats a k with|some i=>.lit (.int .i64 i)|none=>z:=by
 induction k with
 | zero=>rfl
 | succ k ih=>
  unfold z1t z1J;by_cases h:ats.getD k 0=a
  ·rw[h,if_pos rfl];exact atKey_put_same (z4b ats k) (show WideAt.IsKeyLit (.int .i64 a)from trivial) _ _
  ·rw[if_neg h,atKey_put_other (by intro e;cases e;exact h rfl),ih]
theorem z4A {ats:List Int}{a:Int}{k i:Nat}(h:z1J ats a k=some i):i<k∧ats.getD i 0=a:=by
 induction k with
 | zero=>cases h
 | succ k ih=>
  unfold z1J at h;split at h
  ·cases h;exact⟨by omega,by assumption⟩
  ·have:=ih h;exact⟨by omega,this.2⟩
def z2Z (S:Nat)(ats:List Int)(g:Nat)(a:Nat):Addr:=match z1J ats (a:Int) ats.length with|some i=>⟨g,i*129+1,none⟩|none=>⟨S,a*128,none⟩
theorem zex (D S n c g L cc:Nat)(A:Option Addr)(tk pw:Int)(off:Bool)(M q:Nat)(ats:List Int)(a:Nat)(hL:ats.length=L)(hA:0<L→A=some ⟨g,0,none⟩)(ha:a<n)(hn:n≤1000)(hL2:L≤1000)(w:World)
  (bD:Blk w D 133 (devC S n c (.slice A L cc) tk pw off M)) (hM:w.ownsMap prog 3 (plainElem prog 3) M q (z1t ats L)):
  Calls prog 219 #[.pointer (some ⟨D,0,none⟩),.int .i64 a] w fun e w'=>e=.returned (.pointer (some (z2Z S ats g a)))∧w'=w:=by
 have wa:(Lit.int .i64 (a:Int)).wf=true:=by simp[Lit.wf,IntKind.min,IntKind.max,IntKind.signed,IntKind.bits];omega
 have hz:(zeroValue 3).run prog w=.ok (.int .i64 0) w:=by kernel_rfl
 obtain⟨v,ps,hrun,hv⟩:=hM.look_ok (int_keyed underlying3) underlying131 hz (plainElem_int underlying3 (by decide)) (keyOf_int_mk underlying3 wa)
 obtain⟨i,rfl,hi,_⟩:=plainElem_int_inv underlying3 hv;have hi:=congrArg Prod.fst hi;simp only at hi
 rw[zbP]at hi;rw[z9B]at hrun;unfold devC at bD;have cD:=bD.cells;unfold z2Z;rw[hL];cases hx:z1J ats (a:Int) L with
 | none=>
  rw[hx]at hi hrun;have HI:=zhs hi;clear hi hv hM hx;simp only[Option.isSome_none]at hrun;go_enter func219,ntmps219
  go_wp2_with fail
  go_ret
  exact⟨rfl,rfl⟩
 | some p=>
  obtain⟨hp,_⟩:=z4A hx;have hA':=hA (by omega)
  subst hA';rw[hx]at hi hrun;have hpi:(p:Int)=i:=by simpa using hi
  subst hpi;clear hi hv hM hx;simp only[Option.isSome_some]at hrun;go_enter func219,ntmps219
  go_wp2_with fail
  go_ret
  exact⟨rfl,rfl⟩
def SecAt (w:World)(p:Addr)(xs:List Int):Prop:=xs.length=128∧p.spot=none∧∀j,j<128→w.cell? ⟨p.block,p.off+j,none⟩=some (.int .u8 (xs.getD j 0))
theorem SecAt.load {w:World}{p:Addr}{xs:List Int}(h:SecAt w p xs):(loadVar 128 p).run prog w=.ok (.agg (z03 xs)) w:=by
 obtain⟨hl,hsp,hc⟩:=h;obtain⟨b,off,spot⟩:=p;simp only at hsp
 subst hsp;have hload:(loadCells ⟨b,off,none⟩ 128).run prog w=.ok (z03 xs) w:=by
  have:=run_loadCells_list (P:=prog) w ⟨b,off,none⟩ (xs.map (Value.int .u8)) (fun j v hv=>by
   have hadd:(⟨b,off,none⟩:Addr).add j=⟨b,off+j,none⟩:=by unfold Addr.add;split<;>simp_all
   rw[zi1]at hv;by_cases hj:j<xs.length
   ·rw[zhx hj,Option.map_some,Option.some.injEq]at hv;rw[hadd,hc j (by omega),←hv]
    simp[zhw,hj]
   ·rw[List.getElem?_eq_none (by omega)]at hv;cases hv)
  rw[zhX,hl]at this;exact this
 have hag:(isAgg 128).run prog w=.ok true w:=by kernel_rfl
 have hsz:(sizeOf 128).run prog w=.ok 128 w:=by kernel_rfl
 unfold loadVar;simp[hag,hsz,hload]
theorem z30 {ops:Array Oper}{rest:List Oper}{o:Oper}{a:Act}{w:World}{Q:Exit→Act→World→Prop}(hgd:o.guard=none)(x:Operand)(ho:o.op=.load 128 x)
  (p:Addr) (hx:a.eval x=.pointer (some p)) {l:List Int} (hs:SecAt w p l)
  (h:wpList prog ops Q rest (a.put o.dst (.agg (z03 l))) w):wpList prog ops Q (o::rest) a w:=by
 refine wpList_plain hgd fun _ hK=>?_
 unfold Oper.wp execOp;simp only[ho,hx,Instr.loadAt,Instr.sureAddr,Sem.run_bind,Sem.run_pure,Result.andThen_ok,hs.load];exact hK _ _ h
theorem z2a {fn:Func}{m n R:Nat}{tmps:Array Value}{w:World}{t:TypeId}{l:List Int}{e:Int}(hr:fn.results=#[.cell m 128,.tmp n])(hm:tmps.getD m undef=.pointer (some ⟨R,0,none⟩))(hn:tmps.getD n undef=.int .i64 e)(b:Blk w R t (z03 l))(hl:l.length=128):
  (results fn tmps).run prog w=.ok (.tuple #[.agg (z03 l),.int .i64 e]) w:=by
 have h:=b.loadSec hl;have h1:(asAddr (.pointer (some ⟨R,0,none⟩))).run prog w=.ok ⟨R,0,none⟩ w:=rfl;have hm':tmps[m]?.getD undef=.pointer (some ⟨R,0,none⟩):=by simpa using hm
 have hn':tmps[n]?.getD undef=.int .i64 e:=by simpa using hn
 simp[results,hr,hm',hn',h1,h]
theorem zf2 (D S n c g L cc:Nat)(A:Option Addr)(tk pw:Int)(off:Bool)(M q:Nat)(ats:List Int)(a:Int)(xs:List Int)(hL:ats.length=L)(hA:0<L→A=some ⟨g,0,none⟩)(hn:n≤1000)(hL2:L≤1000)(w:World)
  (bD:Blk w D 133 (devC S n c (.slice A L cc) tk pw off M)) (hM:w.ownsMap prog 3 (plainElem prog 3) M q (z1t ats L)) (hS:atE off n a=0→SecAt w (z2Z S ats g a.toNat) xs∧(z2Z S ats g a.toNat).block<w.heap.size):
  Calls prog 175 #[.pointer (some ⟨D,0,none⟩),.int .i64 a] w fun e w'=>Below w.heap.size w w'∧e=.returned (.tuple #[.agg (z03 (if atE off n a=0 then xs else zsec)),.int .i64 (atE off n a)]):=by
 have hz:=z0S;have bD1:Blk (w.alloc (.cells (z03 zsec) 128)) D 133 (devC S n c (.slice A L cc) tk pw off M):=bD.alloc _;have bR1:Blk (w.alloc (.cells (z03 zsec) 128)) w.heap.size 128 (z03 zsec):=Blk.new _ _ _;have lD:=bD.lt;by_cases hE:atE off n a=0
 ·rw[if_pos hE];obtain⟨hS,hSb⟩:=hS hE;have hxl:=hS.1;have ha:0≤a∧a<(n:Int):=by
   unfold atE at hE;cases off
   ·simp only[Bool.false_eq_true,if_false]at hE;split at hE
    ·omega
    ·omega
   ·simp at hE
  obtain⟨an,rfl⟩:=Int.eq_ofNat_of_zero_le ha.1;rw[zhU]at hS hSb;have hat:=zaH D S n c (.slice A L cc) tk pw off M an _ bD1;rw[hE]at hat ⊢;have hrd:=zex D S n c g L cc A tk pw off M q ats an hL hA (by omega) hn hL2 _ bD1 (hM.alloc _)
  have hS1:SecAt (w.alloc (.cells (z03 zsec) 128)) (z2Z S ats g an) xs:=⟨hS.1,hS.2.1,fun j hj=>by
   rw[←hS.2.2 j hj];exact World.cell?_of_block (Below.heap_alloc w _ _ hSb)⟩
  generalize z2Z S ats g an=p at *;clear hE bD hM hS;go_enter func175,ntmps175
  go_wp2_with fail
  refine hat.mono ?_;rintro e w1 ⟨rfl,rfl⟩;go_wp2_with fail
  refine hrd.mono ?_;rintro e w1 ⟨rfl,rfl⟩;go_wp2_with (first
   | (refine z30 rfl _ rfl p rfl hS1 ?_)
   | (refine z0d rfl _ _ rfl w.heap.size xs rfl rfl bR1 z07 hxl ?_))
  refine bodyPost_ret (z2a rfl rfl rfl (bR1.setRow (cs':=z03 xs)) hxl) rfl ?_;exact⟨Below.setRow (by (repeat' (first|with_reducible (first|exact zho _ _|assumption|refine zhp ?_ ?_ _|refine zhq ?_|refine z00 ?_ _|refine zhr ?_ ?_ _|exact zhT _)|omega|(simp;done)|(simp;omega)))) (zhT _) _,rfl⟩
 ·rw[if_neg hE];have hat:=zaH D S n c (.slice A L cc) tk pw off M a _ bD1;generalize atE off n a=E at *;have hE':(E != 0)=true:=by simpa using hE
  clear hE hS hM bD;go_enter func175,ntmps175
  go_wp2_with fail
  refine hat.mono ?_;rintro e w1 ⟨rfl,rfl⟩;go_wp2_with (refine z0d rfl _ _ rfl w.heap.size zsec rfl rfl bR1 z07 z07 ?_)
  refine bodyPost_ret (z2a rfl rfl rfl (bR1.setRow (cs':=z03 zsec)) z07) rfl ?_;exact⟨Below.setRow (by (repeat' (first|with_reducible (first|exact zho _ _|assumption|refine zhp ?_ ?_ _|refine zhq ?_|refine z00 ?_ _|refine zhr ?_ ?_ _|exact zhT _)|omega|(simp;done)|(simp;omega)))) (zhT _) _,rfl⟩
def getE (off:Bool)(n:Nat)(a:Int)(xs:List Int):Int:=if atE off n a=0 then z1g a xs else atE off n a
def getV (off:Bool)(n:Nat)(a:Int)(xs:List Int):Array Value:=if atE off n a=0 then z5O a xs else #[Value.int .i64 0,Value.int .u32 0,Value.string ⟨#[]⟩]
theorem zca (a:Int)(xs:List Int):∃k q s,z5O a xs=#[.int .i64 k,.int .u32 q,.string s]:=by
 unfold z5O;split
 ·exact⟨_,_,_,rfl⟩
 ·exact⟨_,_,_,rfl⟩
theorem zei (D S n c g L cc:Nat)(A:Option Addr)(tk pw:Int)(off:Bool)(M q:Nat)(ats:List Int)(a:Int)(xs:List Int)(hL:ats.length=L)(hA:0<L→A=some ⟨g,0,none⟩)(hn:n≤1000)(hL2:L≤1000)(hbx:z0V xs)(w:World)(hH:HalfAt w)
  (bD:Blk w D 133 (devC S n c (.slice A L cc) tk pw off M)) (hM:w.ownsMap prog 3 (plainElem prog 3) M q (z1t ats L)) (hS:atE off n a=0→SecAt w (z2Z S ats g a.toNat) xs∧(z2Z S ats g a.toNat).block<w.heap.size):
  Calls prog 98 #[.pointer (some ⟨D,0,none⟩),.int .i64 a] w fun e w'=>Below w.heap.size w w'∧e=.returned (.tuple #[.agg (getV off n a xs),.int .i64 (getE off n a xs)]):=by
 have hz:=z0S;have hrd:=zf2 D S n c g L cc A tk pw off M q ats a xs hL hA hn hL2 (w.alloc (.cells #[Value.int .i64 0,Value.int .u32 0,Value.string ⟨#[]⟩] 190)) (bD.alloc _) (hM.alloc _) (fun hE=>by
  obtain⟨h1,h2⟩:=hS hE;exact⟨⟨h1.1,h1.2.1,fun j hj=>by rw[←h1.2.2 j hj];exact World.cell?_of_block (Below.heap_alloc w _ _ h2)⟩,by simp;omega⟩)
 unfold getE getV;by_cases hE:atE off n a=0
 ·have hxl:=(hS hE).1.1;rw[hE]at hrd;rw[if_pos hE,if_pos hE];rw[if_pos rfl]at hrd;clear hE bD hM hS;go_enter func98,ntmps98
  go_wp2_with fail
  refine hrd.mono ?_;rintro e w1 ⟨hb1,rfl⟩;have bF:Blk w1 w.heap.size 190 #[Value.int .i64 0,Value.int .u32 0,Value.string ⟨#[]⟩]:=Blk.belowAll (by (repeat' (first|(with_reducible assumption)|exact Blk.new' (by simp)|refine Blk.alloc ?_ _))) hb1
  have B1:=z1E hb1;have lF:=bF.lt;have bZ:Blk (w1.alloc (.cells (z03 zsec) 128)) w1.heap.size 128 (z03 zsec):=Blk.new _ _ _;have bX:Blk ((w1.alloc (.cells (z03 zsec) 128)).setRow w1.heap.size (z03 xs)) w1.heap.size 128 (z03 xs):=bZ.setRow;have bF2:Blk ((w1.alloc (.cells (z03 zsec) 128)).setRow w1.heap.size (z03 xs)) w.heap.size 190 #[Value.int .i64 0,Value.int .u32 0,Value.string ⟨#[]⟩]:=(bF.alloc _).rowFar (by omega)
  have B2:Below w.heap.size w ((w1.alloc (.cells (z03 zsec) 128)).setRow w1.heap.size (z03 xs)):=Below.setRow (B1.alloc B1.size _) B1.size _;clear hb1 bF B1;go_wp2_with (first
   | (refine z0d rfl _ _ rfl w1.heap.size xs rfl rfl bZ z07 hxl ?_)
   | (refine z0u rfl _ rfl w1.heap.size rfl bX hxl ?_))
  refine(zf1 a xs hxl hbx _ (hH.below B2 hH.1)).mono ?_;rintro e w2 ⟨hb2,rfl⟩;have bF3:=bF2.belowAll hb2;have B3:=B2.trans (hb2.mono B2.size);have cF:=bF3.cells;have fF:=bF3.free;have lF3:=bF3.lt;obtain⟨fk,fq,fs,hov⟩:=zca a xs;rw[hov];have HOV:=zhs hov;clear hov;go_wp2_with fail
  refine bodyPost_ret (v:=.tuple #[.agg #[.int .i64 fk,.int .u32 fq,.string fs],.int .i64 (z1g a xs)]) (by simp[results,results98,go_sem,cF,lF3]) rfl ?_
  exact⟨by (repeat' (first|with_reducible (first|exact zho _ _|assumption|refine zhp ?_ ?_ _|refine zhq ?_|refine z00 ?_ _|refine zhr ?_ ?_ _|exact zhT _)|omega|(simp;done)|(simp;omega))),by rw[HOV.out]⟩
 ·rw[if_neg hE,if_neg hE];generalize atE off n a=E at *;rw[if_neg hE]at hrd;have hE':(E != 0)=true:=by simpa using hE
  clear hE hS hM bD;go_enter func98,ntmps98
  go_wp2_with fail
  refine hrd.mono ?_;rintro e w1 ⟨hb1,rfl⟩;have bF:Blk w1 w.heap.size 190 #[Value.int .i64 0,Value.int .u32 0,Value.string ⟨#[]⟩]:=Blk.belowAll (by (repeat' (first|(with_reducible assumption)|exact Blk.new' (by simp)|refine Blk.alloc ?_ _))) hb1
  have B1:=z1E hb1;have cF:=bF.cells;have fF:=bF.free;have lF:=bF.lt;clear hb1;have bZ:Blk (w1.alloc (.cells (z03 zsec) 128)) w1.heap.size 128 (z03 zsec):=Blk.new _ _ _;have bF2:Blk ((w1.alloc (.cells (z03 zsec) 128)).setRow w1.heap.size (z03 zsec)) w.heap.size 190 #[Value.int .i64 0,Value.int .u32 0,Value.string ⟨#[]⟩]:=(bF.alloc _).rowFar (by omega)
  have B2:Below w.heap.size w ((w1.alloc (.cells (z03 zsec) 128)).setRow w1.heap.size (z03 zsec)):=Below.setRow (B1.alloc B1.size _) B1.size _;clear cF fF lF bF;have cF:=bF2.cells;have fF:=bF2.free;have lF:=bF2.lt;go_wp2_with (refine z0d rfl _ _ rfl w1.heap.size zsec rfl rfl bZ z07 z07 ?_)
  refine bodyPost_ret (v:=.tuple #[.agg #[Value.int .i64 0,Value.int .u32 0,Value.string ⟨#[]⟩],.int .i64 E]) (by simp[results,results98,go_sem,cF,lF]) rfl ?_
  exact⟨by (repeat' (first|with_reducible (first|exact zho _ _|assumption|refine zhp ?_ ?_ _|refine zhq ?_|refine z00 ?_ _|refine zhr ?_ ?_ _|exact zhT _)|omega|(simp;done)|(simp;omega))),rfl⟩
theorem zam (D S n c:Nat)(cv:Value)(tk pw:Int)(off:Bool)(M:Nat)(w:World)(bD:Blk w D 133 (devC S n c cv tk pw off M)):
  Calls prog 113 #[.pointer (some ⟨D,0,none⟩)] w fun e w'=>e=.returned (.int .i64 n)∧w'=w:=by
 have hok:=z2W D S n c cv tk pw off M w bD;unfold devC at bD;have cD:=bD.cells;go_enter func113,ntmps113
 go_wp2_with fail
 refine hok.mono ?_;rintro e w1 ⟨rfl,rfl⟩;go_wp2_with fail
 go_ret
 exact⟨rfl,rfl⟩
end Go.Proofs.YtejmknghkbobnaaGreatDoor
