import Derived.Test.YtejmknghkbobnaaGreatDoorPart00
import Derived.Test.YtejmknghkbobnaaGreatDoorPart18
import Derived.Test.YtejmknghkbobnaaGreatDoorPart01
import Derived.Test.YtejmknghkbobnaaGreatDoorPart02
import Derived.Test.YtejmknghkbobnaaGreatDoorPart22
set_option linter.unusedVariables false
set_option linter.unusedSimpArgs false
set_option maxRecDepth 100000
set_option maxHeartbeats 8000000
namespace Go.Proofs.YtejmknghkbobnaaGreatDoor
open Go.Proofs.Tryz
open Go.RowKit
def za0 (n:Nat)(l:List Int)(k:Nat):Int:=if l.getD k 0<0∨(n:Int) - 1<l.getD k 0 then 7 else if l.getD k 0∈l.take k then 8 else 0
def LsE (n:Nat)(l:List Int):Nat→Int
 | 0=>0
 | k+1=>if LsE n l k=0 then za0 n l k else LsE n l k
theorem z5B {n:Nat}{l:List Int}{k:Nat}(h:LsE n l k=0):LsE n l (k+1)=za0 n l k:=by
 show (if _ then _ else _)=_
 rw[if_pos h]
theorem z4k {n:Nat}{l:List Int}{k m:Nat}(h:LsE n l k≠0)(hm:k≤m):LsE n l m=LsE n l k:=by
 induction m with
 | zero=>
  have:k=0:=by omega
  subst this;rfl
 | succ m ih=>
  by_cases hk:k=m+1
  ·subst hk;rfl
  ·have:=ih (by omega)
   show (if LsE n l m=0 then _ else _)=_
   rw[if_neg (by rw[this];exact h),this]
theorem zdb {n:Nat}{l:List Int}{k m:Nat}(h:LsE n l m=0)(hm:k≤m):LsE n l k=0:=by
 by_cases h0:LsE n l k=0
 ·exact h0
 ·exact absurd ((z4k h0 hm).symm.trans h) h0
theorem zfG {n:Nat}{l:List Int}{m:Nat}(h:LsE n l m=0){k:Nat}(hk:k<m):0≤l.getD k 0∧l.getD k 0<n∧l.getD k 0∉l.take k:=by
 have h1:=zdb h (show k+1≤m by omega)
 rw[z5B (zdb h (show k≤m by omega))]at h1
 unfold za0 at h1;split at h1
 ·omega
 ·split at h1
  ·omega
  ·exact⟨by omega,by omega,by assumption⟩
theorem zdr {n:Nat}{l:List Int}(h:LsE n l l.length=0):∀b∈l,0≤b∧b<(n:Int):=by
 intro b hb;obtain⟨k,hk,rfl⟩:=List.mem_iff_getElem.1 hb;have:=zfG h hk
 rw[zhw,zhx hk]at this;exact⟨this.1,this.2.1⟩
theorem zgG {n:Nat}{l:List Int}(h:∀k,(hk:k<l.length)→0≤l[k]∧l[k]<(n:Int)∧l[k]∉l.take k){m:Nat}(hm:m≤l.length):LsE n l m=0:=by
 induction m with
 | zero=>rfl
 | succ m ih=>
  rw[z5B (ih (by omega))]
  obtain⟨h1,h2,h3⟩:=h m (by omega)
  unfold za0;rw[zhw,zhx (by omega),Option.getD_some,if_neg (by omega),if_neg h3]
theorem zbj (us:List Bool)(bl:List Int)(v:Bool)(b:Nat)(hb:b<us.length)(hin:∀x∈bl,0≤x):(z0M us bl v)[b]?=some (if ((b:Nat):Int)∈bl then v else us[b]):=by
 induction bl generalizing us with
 | nil=>simp[z0M,hb]
 | cons x bl ih=>
  have hx:=hin x (by simp)
  have:=ih (us.set x.toNat v) (by simpa using hb) (fun y hy=>hin y (by simp[hy]))
  unfold z0M at this ⊢;rw[List.foldl_cons,this];congr 1
  by_cases hm:((b:Nat):Int)∈bl
  ·rw[if_pos hm,if_pos (by simp[hm])]
  ·rw[if_neg hm];by_cases hxb:x=(b:Int)
   ·subst hxb;simp
   ·have hne:x.toNat≠b:=by omega
    have hne2:¬((b:Int)=x):=fun h=>hxb h.symm
    simp[hne,hne2,hm]
def metL (l:List Int)(k:Nat):List Bool:=z0M (List.replicate 256 false) (l.take k) true
theorem zan (l:List Int)(k:Nat):(metL l k).length=256:=by unfold metL;rw[z1u,zhG]
theorem zg5 {l:List Int}{k n:Nat}(h:LsE n l k=0)(hk:k≤l.length)(b:Nat)(hb:b<256):(metL l k).getD b false=decide (((b:Nat):Int)∈l.take k):=by
 unfold metL;have hin:∀x∈l.take k,0≤x:=by
  intro x hx;obtain⟨p,hp,rfl⟩:=List.mem_iff_getElem.1 hx;have hpk:p<k:=by rw[zi6]at hp;omega
  have:=(zfG h hpk).1
  rw[zhw,zhx (by omega)]at this
  simpa using this
 rw[zhw,zbj _ _ _ b (by rw[zhG];exact hb) hin,List.getElem_replicate,Option.getD_some]
 by_cases hm:((b:Nat):Int)∈l.take k
 ·rw[if_pos hm,decide_eq_true hm]
 ·rw[if_neg hm,decide_eq_false hm]
theorem zeq {l:List Int}{k:Nat}(hk:k<l.length):metL l (k+1)=(metL l k).set (l[k]).toNat true:=z3Y _ _ _ _ hk
def z2l (us:List Bool)(l:List Int)(u:Bool):Bool:=l.any fun b=>us.getD b.toNat false==u
def TnE (s j i:Int)(us:List Bool)(l:List Int)(u:Bool)(al:Int):Int:=
 if CkE s j i us.length=0 then (if LsE us.length l l.length=0 then (if z2l us l u=true then al else 0)else LsE us.length l l.length)else CkE s j i us.length
def TnU (s j i:Int)(us:List Bool)(l:List Int)(u:Bool)(al:Int):List Bool:=if TnE s j i us l u al=0 then z0M us l u else us
def TnPost (s j i:Int)(A:Option Addr)(c:Nat)(us:List Bool)(l:List Int)(u:Bool)(al:Int)(w:World)(e:Ending)(w':World):Prop:=
 Below w.heap.size w w'∧((TnE s j i us l u al≠0∧e=.returned (.tuple #[.agg #[.int .i64 s,.int .i64 j,.int .i64 i,.slice A us.length c],.int .i64 (TnE s j i us l u al)])) ∨
  (TnE s j i us l u al=0∧∃g cap,e=.returned (.tuple #[.agg #[.int .i64 s,.int .i64 j,.int .i64 i,.slice (some ⟨g,0,none⟩) us.length cap],.int .i64 0]) ∧
   w'.ownsRow w.heap.size 4 1 (.slice (some ⟨g,0,none⟩) us.length cap) us.length ((z0M us l u).map .bool)))
theorem TnPost.bad {s j i:Int}{us:List Bool}{l:List Int}{u:Bool}{al E:Int}{w w':World}{A:Option Addr}{c:Nat}(hE:E≠0)(h:TnE s j i us l u al=E)(hb:Below w.heap.size w w'):
  TnPost s j i A c us l u al w (.returned (.tuple #[.agg #[.int .i64 s,.int .i64 j,.int .i64 i,.slice A us.length c],.int .i64 E])) w':=by
 subst h;exact⟨hb,.inl ⟨hE,rfl⟩⟩
theorem zcQ (s j i:Int)(A:Option Addr)(c:Nat)(us:List Bool)(u:Bool)(S U x:Nat)(hx:x<us.length)(hus:us.length≤1000)(w:World)(hR:Reads w A (us.map .bool))
  (bS:Blk w S 47 #[.int .i64 s,.int .i64 j,.int .i64 i,.slice A us.length c]) (bU:Blk w U 4 #[.bool u]):
  Calls prog 218 #[.int .i64 (x:Int),.pointer (some ⟨S,0,none⟩),.pointer (some ⟨U,0,none⟩)] w fun e w'=>e=.returned (.bool (us.getD x false==u))∧Below w.heap.size w w':=by
 obtain⟨b,off,rfl,hb,hc⟩:=hR.at_ (k:=x) (by simpa using hx)
 rw[List.getElem_map]at hc;have hg:us.getD x false=us[x]:=by simp[zhw,hx]
 rw[hg];clear hg;generalize us[x]=y at hc;have cS:=bS.cells;have cU:=bU.cells;go_enter func218,ntmps218
 go_wp2
 go_quiet (fail)
 go_wp2
 go_ret
 exact⟨rfl,by (repeat' (first|with_reducible (first|exact zho _ _|assumption|refine zhp ?_ ?_ _|refine zhq ?_|refine z00 ?_ _|refine zhr ?_ ?_ _|exact zhT _)|omega|(simp;done)|(simp;omega)))⟩
def zfN (us:List Bool)(l:List Int)(u:Bool)(w:World)(e:Ending)(w':World):Prop:=
 Below w.heap.size w w'∧∃r:Int,e=.returned (.int .i64 r)∧(decide (0≤r)=z2l us l u)
theorem z8f (s j i:Int)(A Bl:Option Addr)(c cb:Nat)(us:List Bool)(l:List Int)(u:Bool)(S U:Nat)(hin:∀b∈l,0≤b∧b<(us.length:Int))(hus:us.length≤1000)(hl:l.length≤1000)(w:World)(hR:Reads w A (us.map .bool))(hB:Reads w Bl (l.map (.int .i64)))
  (bS:Blk w S 47 #[.int .i64 s,.int .i64 j,.int .i64 i,.slice A us.length c]) (bU:Blk w U 4 #[.bool u]):
  Calls prog 198 #[.slice Bl l.length cb,.func (.func 218) #[] #[.pointer (some ⟨S,0,none⟩),.pointer (some ⟨U,0,none⟩)]] w (zfN us l u w):=by
 have HIN:=zhs hin;clear hin;go_enter func198,ntmps198
 go_wp2_with fail
 go_loopw [5,8] (fun _ q wr=>∃k:Nat,k≤l.length∧q=.int .i64 k∧z2l us (l.take k) u=false∧Below w.heap.size w wr) (fun _ q _=>l.length - (intOf q).toNat)
 case atStart=>exact⟨0,zi9 _,rfl,rfl,zho _ _⟩
 case round=>
  obtain⟨k,hk,rfl,hno,hnx⟩:=hrel;by_cases hlt:k<l.length
  ·obtain⟨b,off,rfl,hb,hc⟩:=(hB.below hnx).at_ (k:=k) (by simpa using hlt)
   rw[List.getElem_map]at hc;have hx:=HIN.out l[k] (zhQ hlt);have hst:z2l us (l.take (k+1)) u=(us.getD l[k].toNat false==u):=by
    rw[zhE hlt];unfold z2l at hno ⊢;rw[List.any_append,hno];simp
   have hall:(us.getD l[k].toNat false==u)=true→z2l us l u=true:=fun h=>by
    unfold z2l;exact List.any_eq_true.2 ⟨l[k],zhQ hlt,h⟩
   have HST:=zhs hst;have HALL:=zhs hall;clear hst hall hno;generalize l[k]=x at hc hx HST HALL;obtain⟨xn,rfl⟩:=Int.eq_ofNat_of_zero_le hx.1;simp only[zhU]at HST HALL;go_wp2_with fail
   refine(zcQ s j i A c us u S U xn (by omega) hus _ (hR.below hnx) (bS.belowAll hnx) (bU.belowAll hnx)).mono ?_
   rintro e w2 ⟨rfl,hb2⟩;have B2:=hnx.trans (hb2.mono hnx.size);cases hu:(us.getD xn false==u)
   ·go_wp2_with fail
    go_roundw
    case rel=>exact⟨k+1,by omega,by go_num,by rw[HST.out];exact hu,B2⟩
    case measure=>simp[intOf];omega
   ·go_wp2_with fail
    go_ret
    exact⟨B2,_,rfl,by rw[HALL.out hu];simp⟩
  ·obtain rfl:k=l.length:=by omega
   rw[zia]at hno;go_wp2_with fail
   go_ret
   exact⟨hnx,_,rfl,by rw[hno];rfl⟩
theorem z5u (s j i:Int)(A Bl:Option Addr)(c cb:Nat)(us:List Bool)(l:List Int)(u:Bool)(S U:Nat)(hin:∀b∈l,0≤b∧b<(us.length:Int))(hus:us.length≤1000)(hl:l.length≤1000)(w:World)(hR:Reads w A (us.map .bool))(hB:Reads w Bl (l.map (.int .i64)))
  (bS:Blk w S 47 #[.int .i64 s,.int .i64 j,.int .i64 i,.slice A us.length c]) (bU:Blk w U 4 #[.bool u]):
  Calls prog 134 #[.slice Bl l.length cb,.func (.func 218) #[] #[.pointer (some ⟨S,0,none⟩),.pointer (some ⟨U,0,none⟩)]] w fun e w'=>e=.returned (.bool (z2l us l u))∧Below w.heap.size w w':=by
 go_enter func134,ntmps134
 go_wp2_with fail
 refine(z8f s j i A Bl c cb us l u S U hin hus hl _ hR hB bS bU).mono ?_;rintro e w2 ⟨hb2,r,rfl,hr⟩;have HR:=zhs hr;clear hr;go_wp2_with fail
 go_ret
 exact⟨by rw[←HR.out];rfl,hb2⟩
theorem zfQ (w:World):(zeroValue 290).run prog w=.ok (.agg (fill (.bool false) 256)) w:=by kernel_rfl
theorem zgb (s j i:Int)(A Bl:Option Addr)(c cb:Nat)(us:List Bool)(l:List Int)(u:Bool)(al:Int)(hal:al≠0)(hus:us.length≤1000)(hl:l.length≤1000)(w:World)(hR:Reads w A (us.map .bool))(hB:Reads w Bl (l.map (.int .i64)))(hE:CkE s j i us.length=0):
  Calls prog 174 #[.agg #[.int .i64 s,.int .i64 j,.int .i64 i,.slice A us.length c],.slice Bl l.length cb,.bool u,.int .i64 al] w (TnPost s j i A c us l u al w):=by
 have hus':=(z6l hE).2.2;have hE':(CkE s j i us.length != 0)=false:=by simpa using hE
 have HE:=zhs hE;have HAL:=zhs hal;clear hE hal;have hz256:=zfQ;go_enter func174,ntmps174
 go_wp2_with fail
 refine(z23 s j i A us.length c _ (by unfold maxLen;omega)).mono ?_
 rintro e w1 ⟨rfl,hb1⟩;have bS:Blk w1 w.heap.size 47 #[.int .i64 s,.int .i64 j,.int .i64 i,.slice A us.length c]:=Blk.belowAll (by (repeat' (first|(with_reducible assumption)|exact Blk.new' (by simp)|refine Blk.alloc ?_ _))) hb1
 have bU:Blk w1 (w.heap.size+1) 4 #[.bool u]:=Blk.belowAll (by (repeat' (first|(with_reducible assumption)|exact Blk.new' (by simp)|refine Blk.alloc ?_ _))) hb1
 have bR:Blk w1 (w.heap.size+2) 47 #[.int .i64 0,.int .i64 0,.int .i64 0,.slice none 0 0]:=Blk.belowAll (by (repeat' (first|(with_reducible assumption)|exact Blk.new' (by simp)|refine Blk.alloc ?_ _))) hb1
 have B1:Below w.heap.size w w1:=z9q hb1;clear hb1;have cS:=bS.cells;have cU:=bU.cells;have lS:=bS.lt;have lU:=bU.lt;have lR:=bR.lt;go_wp2_with fail
 obtain⟨W1,hW1⟩:∃W1,W1=w1.alloc (.cells (fill (.bool false) 256) 290):=⟨_,rfl⟩;rw[←hW1];have bM:Blk W1 w1.heap.size 290 (fill (.bool false) 256):=by rw[hW1];exact Blk.new _ _ _
 have bS1:Blk W1 w.heap.size 47 #[.int .i64 s,.int .i64 j,.int .i64 i,.slice A us.length c]:=by rw[hW1];exact bS.alloc _
 have bU1:Blk W1 (w.heap.size+1) 4 #[.bool u]:=by rw[hW1];exact bU.alloc _
 have bR1:Blk W1 (w.heap.size+2) 47 #[.int .i64 0,.int .i64 0,.int .i64 0,.slice none 0 0]:=by rw[hW1];exact bR.alloc _
 have hB1:Below w.heap.size w W1:=by rw[hW1];exact B1.alloc B1.size _
 have hs1:W1.heap.size=w1.heap.size+1:=by rw[hW1];simp
 clear hW1 bS bU bR cS cU B1 hz256;go_loopw [13,22] (fun _ q wr=>∃k:Nat,k≤l.length∧q=.int .i64 k∧LsE us.length l k=0∧Blk wr w1.heap.size 290 (z2Q (metL l k))∧Below w1.heap.size W1 wr) (fun _ q _=>l.length - (intOf q).toNat)
 case atStart=>exact⟨0,zi9 _,rfl,rfl,by rw[show metL l 0=List.replicate 256 false from rfl,z3L];exact bM,zho _ _⟩
 case round=>
  obtain⟨k,hk,rfl,hno,bM,hnx⟩:=hrel;have bS2:=bS1.below hnx lS;have bU2:=bU1.below hnx lU;have bR2:=bR1.below hnx lR;have cS:=bS2.cells;have cU:=bU2.cells;have cR:=bR2.cells;have fR:=bR2.free;have fM:=bM.free;have lM:=bM.lt;have lR2:=bR2.lt;have B2:Below w.heap.size w wr:=hB1.trans (hnx.mono (by omega))
  have hRw:=hR.below B2;have hBw:=hB.below B2;by_cases hlt:k<l.length
  ·obtain⟨b,off,hBA,hb,hc⟩:=hBw.at_ (k:=k) (by simpa using hlt)
   rw[List.getElem_map]at hc;have hst:=z5B hno;have hgd:l.getD k 0=l[k]:=by simp[zhw,hlt]
   unfold za0 at hst;rw[hgd]at hst;clear hgd;have hms:=zeq hlt;by_cases ho:l[k]<0∨(us.length:Int) - 1<l[k]
   ·rw[if_pos ho]at hst;have hT:TnE s j i us l u al=7:=by
     have:=z4k (m:=l.length) (by rw[hst];decide) (by omega)
     unfold TnE;rw[if_pos HE.out,this,hst];rfl
    have HT:=zhs hT;have hO:=z2g ho;clear hst hms hT;generalize l[k]=x at hc ho hO;subst hBA;go_wp2_with (go_at_call 172;refine(z1f _ _ _ _).mono ?_;rintro e w' ⟨rfl,rfl⟩);refine bodyPost_ret (v:=.tuple #[.agg #[.int .i64 s,.int .i64 j,.int .i64 i,.slice A us.length c],.int .i64 7]) (by simp[results,results174,go_sem,cR,lR2]) rfl ?_
    exact TnPost.bad (by decide) HT.out (by (repeat' (first|with_reducible (first|exact zho _ _|assumption|refine zhp ?_ ?_ _|refine zhq ?_|refine z00 ?_ _|refine zhr ?_ ?_ _|exact zhT _)|omega|(simp;done)|(simp;omega))))
   ·rw[if_neg ho]at hst;have hO:=z2e ho;have hxb:0≤l[k]∧l[k]<(us.length:Int):=by omega
    have hma:=zg5 hno (by omega) l[k].toNat (by omega)
    rw[Int.toNat_of_nonneg hxb.1]at hma;have hcM:wr.cell? ⟨w1.heap.size,l[k].toNat,none⟩=some (.bool ((metL l k).getD l[k].toNat false)):=by rw[bM.cells];exact z4Y (by rw[zan];omega)
    rw[hma]at hcM;by_cases hmt:l[k]∈l.take k
    ·rw[if_pos hmt]at hst;rw[decide_eq_true hmt]at hcM;have hT:TnE s j i us l u al=8:=by
      have:=z4k (m:=l.length) (by rw[hst];decide) (by omega)
      unfold TnE;rw[if_pos HE.out,this,hst];rfl
     have HT:=zhs hT;clear hst hms hT hma hmt ho;generalize l[k]=x at hc hO hxb hcM;obtain⟨xn,rfl⟩:=Int.eq_ofNat_of_zero_le hxb.1;simp only[zhU]at hcM;subst hBA;go_wp2_with (go_at_call 172;refine(z1f _ _ _ _).mono ?_;rintro e w' ⟨rfl,rfl⟩);refine bodyPost_ret (v:=.tuple #[.agg #[.int .i64 s,.int .i64 j,.int .i64 i,.slice A us.length c],.int .i64 8]) (by simp[results,results174,go_sem,cR,lR2]) rfl ?_
     exact TnPost.bad (by decide) HT.out (by (repeat' (first|with_reducible (first|exact zho _ _|assumption|refine zhp ?_ ?_ _|refine zhq ?_|refine z00 ?_ _|refine zhr ?_ ?_ _|exact zhT _)|omega|(simp;done)|(simp;omega))))
    ·rw[if_neg hmt]at hst;rw[decide_eq_false hmt]at hcM;have HST:=zhs hst;have HMS:=zhs hms;clear hst hms hma hmt ho;generalize l[k]=x at hc hO hxb hcM HMS;obtain⟨xn,rfl⟩:=Int.eq_ofNat_of_zero_le hxb.1;simp only[zhU]at hcM HMS;subst hBA;go_wp2_with (go_at_call 172;refine(z1f _ _ _ _).mono ?_;rintro e w' ⟨rfl,rfl⟩);go_roundw
     case rel=>exact⟨k+1,by omega,by go_num,HST.out,by rw[HMS.out,←z57];exact bM.set_ _ _,hnx.setCell (p:=⟨w1.heap.size,xn,none⟩) (zhT _) _⟩
     case measure=>simp[intOf];omega
  ·obtain rfl:k=l.length:=by omega
   have hin:=zdr hno;have hT:TnE s j i us l u al=if z2l us l u=true then al else 0:=by
    unfold TnE;rw[if_pos HE.out,if_pos hno]
   have HT:=zhs hT;clear hT;have HIN:=zhs hin;clear hin;go_wp2_with fail
   refine(z5u s j i A Bl c cb us l u w.heap.size (w.heap.size+1) HIN.out hus hl _ hRw hBw bS2 bU2).mono ?_;rintro e w5 ⟨rfl,hb5⟩;have bS5:=bS2.belowAll hb5;have bU5:=bU2.belowAll hb5;have bR5:=bR2.belowAll hb5;have B5:=B2.trans (hb5.mono B2.size);have hR5:=hRw.below hb5;have hB5:=hBw.below hb5;clear hb5 bS2 bU2 bR2 cS cU cR fR lR2;have cS:=bS5.cells;have cU:=bU5.cells;have cR:=bR5.cells;have fR:=bR5.free;have lR5:=bR5.lt;cases hh:z2l us l u
   ·have HT2:Hid (TnE s j i us l u al=0):=zhs (by rw[HT.out,hh];rfl)
    clear hh HT;go_wp2_with fail
    refine(zcO s j i A Bl c cb us l u _ hR5 (by omega) hus hB5 hl HIN.out).mono ?_
    rintro e w6 ⟨g,cap,rfl,hown6,hb6⟩;have bR6:=bR5.belowAll hb6;have B6:=B5.trans (hb6.mono B5.size);clear cR fR;have cR:=bR6.cells;have fR:=bR6.free;have lR6:=bR6.lt;go_wp2_with fail
    refine bodyPost_ret (v:=.tuple #[.agg #[.int .i64 s,.int .i64 j,.int .i64 i,.slice (some ⟨g,0,none⟩) us.length cap],.int .i64 0]) (by simp[results,results174,go_sem,cR,lR6]) rfl ?_
    have hz5:=B5.size;refine⟨by (repeat' (first|with_reducible (first|exact zho _ _|assumption|refine zhp ?_ ?_ _|refine zhq ?_|refine z00 ?_ _|refine zhr ?_ ?_ _|exact zhT _)|omega|(simp;done)|(simp;omega))),.inr ⟨HT2.out,g,cap,rfl,z0D (base:=w.heap.size+3) ?_ (by omega)⟩⟩
    exact ownsRow_setCell_below (ownsRow_setCell_below (ownsRow_setCell_below (ownsRow_setCell_below (z0D hown6 (by omega)) (by simp) _) (by simp) _) (by simp) _) (by simp) _
   ·have HT2:Hid (TnE s j i us l u al=al):=zhs (by rw[HT.out,hh];rfl)
    clear hh HT;go_wp2_with fail
    refine bodyPost_ret (v:=.tuple #[.agg #[.int .i64 s,.int .i64 j,.int .i64 i,.slice A us.length c],.int .i64 al]) (by simp[results,results174,go_sem,cR,lR5]) rfl ?_
    exact TnPost.bad HAL.out HT2.out (by (repeat' (first|with_reducible (first|exact zho _ _|assumption|refine zhp ?_ ?_ _|refine zhq ?_|refine z00 ?_ _|refine zhr ?_ ?_ _|exact zhT _)|omega|(simp;done)|(simp;omega))))
theorem zaX (s j i:Int)(A Bl:Option Addr)(c cb:Nat)(us:List Bool)(l:List Int)(u:Bool)(al:Int)(hal:al≠0)(hus:us.length≤1000)(hl:l.length≤1000)(w:World)(hR:Reads w A (us.map .bool))(hB:Reads w Bl (l.map (.int .i64))):
  Calls prog 174 #[.agg #[.int .i64 s,.int .i64 j,.int .i64 i,.slice A us.length c],.slice Bl l.length cb,.bool u,.int .i64 al] w (TnPost s j i A c us l u al w):=by
 by_cases hE:CkE s j i us.length=0
 ·exact zgb s j i A Bl c cb us l u al hal hus hl w hR hB hE
 ·have hE':(CkE s j i us.length != 0)=true:=by simpa using hE
  have hT:TnE s j i us l u al=CkE s j i us.length:=by unfold TnE;rw[if_neg hE]
  have HT:=zhs hT;have HE:=zhs hE;clear hE hT;go_enter func174,ntmps174
  go_wp2_with fail
  refine(z23 s j i A us.length c _ (by unfold maxLen;omega)).mono ?_
  rintro e w1 ⟨rfl,hb1⟩;have bS:Blk w1 w.heap.size 47 #[.int .i64 s,.int .i64 j,.int .i64 i,.slice A us.length c]:=Blk.belowAll (by (repeat' (first|(with_reducible assumption)|exact Blk.new' (by simp)|refine Blk.alloc ?_ _))) hb1
  have bR:Blk w1 (w.heap.size+2) 47 #[.int .i64 0,.int .i64 0,.int .i64 0,.slice none 0 0]:=Blk.belowAll (by (repeat' (first|(with_reducible assumption)|exact Blk.new' (by simp)|refine Blk.alloc ?_ _))) hb1
  have B1:Below w.heap.size w w1:=z9q hb1;clear hb1;have cS:=bS.cells;have cR:=bR.cells;have fR:=bR.free;have lR:=bR.lt;go_wp2_with fail
  refine bodyPost_ret (v:=.tuple #[.agg #[.int .i64 s,.int .i64 j,.int .i64 i,.slice A us.length c],.int .i64 (CkE s j i us.length)]) (by simp[results,results174,go_sem,cR,lR]) rfl ?_
  exact TnPost.bad HE.out HT.out (by (repeat' (first|with_reducible (first|exact zho _ _|assumption|refine zhp ?_ ?_ _|refine zhq ?_|refine z00 ?_ _|refine zhr ?_ ?_ _|exact zhT _)|omega|(simp;done)|(simp;omega))))
theorem zeO (s j i:Int)(A Bl:Option Addr)(c cb:Nat)(us:List Bool)(l:List Int)(hus:us.length≤1000)(hl:l.length≤1000)(w:World)(hR:Reads w A (us.map .bool))(hB:Reads w Bl (l.map (.int .i64))):
  Calls prog 96 #[.agg #[.int .i64 s,.int .i64 j,.int .i64 i,.slice A us.length c],.slice Bl l.length cb] w (TnPost s j i A c us l true 9 w):=by
 go_enter func96,ntmps96
 go_wp2_with fail
 refine(zaX s j i A Bl c cb us l true 9 (by decide) hus hl _ ((hR.alloc _).alloc _) ((hB.alloc _).alloc _)).mono ?_
 rintro e w1 ⟨hb1,⟨hE,rfl⟩|⟨hE,g,cap,rfl,hown⟩⟩
 all_goals
  have HE:=zhs hE;clear hE;have bR:Blk w1 (w.heap.size+1) 47 #[.int .i64 0,.int .i64 0,.int .i64 0,.slice none 0 0]:=Blk.belowAll (by (repeat' (first|(with_reducible assumption)|exact Blk.new' (by simp)|refine Blk.alloc ?_ _))) hb1
  have B1:Below w.heap.size w w1:=z1W hb1;clear hb1;have cR:=bR.cells;have fR:=bR.free;have lR:=bR.lt;go_wp2_with fail
 ·refine bodyPost_ret (v:=.tuple #[.agg #[.int .i64 s,.int .i64 j,.int .i64 i,.slice A us.length c],.int .i64 (TnE s j i us l true 9)]) (by simp[results,results96,go_sem,cR,lR]) rfl ?_
  exact⟨by (repeat' (first|with_reducible (first|exact zho _ _|assumption|refine zhp ?_ ?_ _|refine zhq ?_|refine z00 ?_ _|refine zhr ?_ ?_ _|exact zhT _)|omega|(simp;done)|(simp;omega))),.inl ⟨HE.out,rfl⟩⟩
 ·refine bodyPost_ret (v:=.tuple #[.agg #[.int .i64 s,.int .i64 j,.int .i64 i,.slice (some ⟨g,0,none⟩) us.length cap],.int .i64 0]) (by simp[results,results96,go_sem,cR,lR]) rfl ?_
  refine⟨by (repeat' (first|with_reducible (first|exact zho _ _|assumption|refine zhp ?_ ?_ _|refine zhq ?_|refine z00 ?_ _|refine zhr ?_ ?_ _|exact zhT _)|omega|(simp;done)|(simp;omega))),.inr ⟨HE.out,g,cap,rfl,z0D (base:=w.heap.size+2) ?_ (by omega)⟩⟩
  exact ownsRow_setCell_below (ownsRow_setCell_below (ownsRow_setCell_below (ownsRow_setCell_below (z0D hown (by simp)) (by simp) _) (by simp) _) (by simp) _) (by simp) _
theorem zd3 (s j i:Int)(A Bl:Option Addr)(c cb:Nat)(us:List Bool)(l:List Int)(hus:us.length≤1000)(hl:l.length≤1000)(w:World)(hR:Reads w A (us.map .bool))(hB:Reads w Bl (l.map (.int .i64))):
  Calls prog 100 #[.agg #[.int .i64 s,.int .i64 j,.int .i64 i,.slice A us.length c],.slice Bl l.length cb] w (TnPost s j i A c us l false 4 w):=by
 go_enter func100,ntmps100
 go_wp2_with fail
 refine(zaX s j i A Bl c cb us l false 4 (by decide) hus hl _ ((hR.alloc _).alloc _) ((hB.alloc _).alloc _)).mono ?_
 rintro e w1 ⟨hb1,⟨hE,rfl⟩|⟨hE,g,cap,rfl,hown⟩⟩
 all_goals
  have HE:=zhs hE;clear hE;have bR:Blk w1 (w.heap.size+1) 47 #[.int .i64 0,.int .i64 0,.int .i64 0,.slice none 0 0]:=Blk.belowAll (by (repeat' (first|(with_reducible assumption)|exact Blk.new' (by simp)|refine Blk.alloc ?_ _))) hb1
  have B1:Below w.heap.size w w1:=z1W hb1;clear hb1;have cR:=bR.cells;have fR:=bR.free;have lR:=bR.lt;go_wp2_with fail
 ·refine bodyPost_ret (v:=.tuple #[.agg #[.int .i64 s,.int .i64 j,.int .i64 i,.slice A us.length c],.int .i64 (TnE s j i us l false 4)]) (by simp[results,results100,go_sem,cR,lR]) rfl ?_
  exact⟨by (repeat' (first|with_reducible (first|exact zho _ _|assumption|refine zhp ?_ ?_ _|refine zhq ?_|refine z00 ?_ _|refine zhr ?_ ?_ _|exact zhT _)|omega|(simp;done)|(simp;omega))),.inl ⟨HE.out,rfl⟩⟩
 ·refine bodyPost_ret (v:=.tuple #[.agg #[.int .i64 s,.int .i64 j,.int .i64 i,.slice (some ⟨g,0,none⟩) us.length cap],.int .i64 0]) (by simp[results,results100,go_sem,cR,lR]) rfl ?_
  refine⟨by (repeat' (first|with_reducible (first|exact zho _ _|assumption|refine zhp ?_ ?_ _|refine zhq ?_|refine z00 ?_ _|refine zhr ?_ ?_ _|exact zhT _)|omega|(simp;done)|(simp;omega))),.inr ⟨HE.out,g,cap,rfl,z0D (base:=w.heap.size+2) ?_ (by omega)⟩⟩
  exact ownsRow_setCell_below (ownsRow_setCell_below (ownsRow_setCell_below (ownsRow_setCell_below (z0D hown (by simp)) (by simp) _) (by simp) _) (by simp) _) (by simp) _
open Go.Maps
def TxS.look (y:TxS)(a:Int):Option Rec:=if a=1+y.j∧y.changed=true then some ⟨1+y.j,5,mapS y.now⟩else z0Y y.writes a
def TxS.readR (y:TxS)(x:DevS)(a:Int):Int × ByteArray × Int:=
 match y.look a with|some r=>(r.kind,r.data,0)|none=>((x.fr a).kind,(x.fr a).data,x.ge a)
def TxS.read (y:TxS)(x:DevS)(a:Int):Int × ByteArray × Int:=
 if y.stateE≠0 then (0,⟨#[]⟩,y.stateE)else if a<0∨y.s≤a then (0,⟨#[]⟩,7)else y.readR x a
def TxS.writeE (y:TxS)(a k:Int)(n:Nat):Int:=
 if (1≤a∧a<1+y.j)∨a=1+y.j then 2 else if (a<0∨y.s≤a)∨k<1∨255<k then 7 else if 96<n then 3 else if (z0Y y.writes a).isNone=true∧y.left<1 then 12 else 0
def TxS.brk (y:TxS):TxS:={ y with broken:=true }
def TxS.write (y:TxS)(a k:Int)(d:ByteArray):Int × TxS:=
 if y.stateE≠0 then (y.stateE,y)else if y.writeE a k d.size≠0 then (y.writeE a k d.size,y.brk)else (0,{ y with writes:=z0s y.writes ⟨a,k,d⟩ })
def orL (a b:List Bool):List Bool:=List.zipWith (·||·) a b
def TxS.may (y:TxS):List Bool:=orL y.now y.was
def TxS.takeE (y:TxS)(near many:Int):Int:=
 if AlE y.s y.j y.i y.may near many≠0 then AlE y.s y.j y.i y.may near many else y.changeE (z0g y.may near.toNat many.toNat).length
def TxS.take (y:TxS)(near many:Int):Int × TxS:=
 if y.stateE≠0 then (y.stateE,y)else if y.takeE near many≠0 then (y.takeE near many,y.brk)
 else (0,y.change (z0M y.now (z0g y.may near.toNat many.toNat) true) (z0g y.may near.toNat many.toNat).length)
def TxS.takeL (y:TxS)(near many:Int):List Int:=
 if y.stateE≠0 then []else if y.takeE near many≠0 then []else z0g y.may near.toNat many.toNat
def TxS.freeE (y:TxS)(l:List Int):Int:=
 if TnE y.s y.j y.i y.now l false 4≠0 then TnE y.s y.j y.i y.now l false 4 else y.changeE l.length
def TxS.free (y:TxS)(l:List Int):Int × TxS:=
 if y.stateE≠0 then (y.stateE,y)else if y.freeE l≠0 then (y.freeE l,y.brk)else (0,y.change (z0M y.now l false) l.length)
theorem z6i {us:List Bool}{near k:Nat}{x:Int}(h:x∈z0r us near k):∃i,i<k∧us[(near+i) % us.length]?=some false∧x=(((near+i) % us.length:Nat):Int):=by
 unfold z0r at h;simp only[List.mem_map,List.mem_filter,List.mem_range,beq_iff_eq]at h;obtain⟨i,⟨h1,h2⟩,rfl⟩:=h;exact⟨i,h1,h2,by simp⟩
theorem zeC {n near i k:Nat}(hi:i<k)(hk:k<n)(hn:near<n)(h:(near+i) % n=(near+k) % n):False:=by
 have h1:near+i<n∨n≤near+i:=by omega
 have h2:near+k<n∨n≤near+k:=by omega
 rcases h1 with h1|h1<;>rcases h2 with h2|h2
 ·rw[Nat.mod_eq_of_lt h1,Nat.mod_eq_of_lt h2]at h;omega
 ·rw[Nat.mod_eq_of_lt h1,Nat.mod_eq_sub_mod h2,Nat.mod_eq_of_lt (by omega)]at h;omega
 ·rw[Nat.mod_eq_of_lt h2,Nat.mod_eq_sub_mod h1,Nat.mod_eq_of_lt (by omega)]at h;omega
 ·rw[Nat.mod_eq_sub_mod h1,Nat.mod_eq_sub_mod h2,Nat.mod_eq_of_lt (by omega),Nat.mod_eq_of_lt (by omega)]at h;omega
theorem z6s {us:List Bool}{near:Nat}(hn:near<us.length):∀k,k≤us.length→∀p,(hp:p<(z0r us near k).length)→(z0r us near k)[p]∉(z0r us near k).take p:=by
 intro k;induction k with
 | zero=>intro _ p hp;rw[z4r]at hp;simp at hp
 | succ k ih=>
  intro hk p hp;have ih:=ih (by omega)
  have hm:(near+k) % us.length<us.length:=Nat.mod_lt _ (by omega)
  cases hu:us[(near+k) % us.length]
  ·have hh:=z42 (us:=us) (near:=near) (k:=k) (by rw[zhx hm,hu])
   have hcast:((near:Int)+(k:Int)) % (us.length:Int)=(((near+k) % us.length:Nat):Int):=by simp
   simp only[hh,zhF,List.length_singleton]at hp ⊢;by_cases hp2:p<(z0r us near k).length
   ·rw[List.getElem_append_left hp2,List.take_append_of_le_length (by omega)]
    exact ih p hp2
   ·have:p=(z0r us near k).length:=by omega
    subst this;rw[List.getElem_append_right (by omega),List.take_append_of_le_length (by omega),zia]
    simp only[Nat.sub_self,List.getElem_singleton];rw[hcast];intro hmem;obtain⟨i,hi,_,he⟩:=z6i hmem;have:(near+k) % us.length=(near+i) % us.length:=by exact_mod_cast he
    exact zeC hi (by omega) hn this.symm
  ·have hh:=z3t (us:=us) (near:=near) (k:=k) (by rw[zhx hm,hu])
   simp only[hh]at hp ⊢;exact ih p hp
theorem zbi {us:List Bool}{f mn:Nat}(hf:f<us.length):LsE us.length (z0g us f mn) (z0g us f mn).length=0:=by
 refine zgG (fun k hk=>?_) (zhT _)
 have hin:=z3s (us:=us) (near:=f) (many:=mn) (by omega) _ (zhQ hk)
 refine⟨hin.1,hin.2,?_⟩
 have hk2:k<(z1Y us f).length:=by unfold z0g at hk;rw[zi6]at hk;omega
 have h:=z6s hf us.length (zhT _) k hk2;have hkm:k<mn:=by unfold z0g at hk;rw[zi6]at hk;omega
 have hval:(z0g us f mn)[k]=(z1Y us f)[k]:=by
  have:(z0g us f mn)[k]?=(z1Y us f)[k]?:=by unfold z0g;rw[List.getElem?_take,if_pos hkm]
  rw[zhx hk,zhx hk2]at this;exact Option.some.inj this
 have htk:(z0g us f mn).take k=(z1Y us f).take k:=by unfold z0g;rw[List.take_take,Nat.min_eq_left (by omega)]
 rw[hval,htk];exact h
theorem z9Z {us:List Bool}{f mn:Nat}{b:Int}(h:b∈z0g us f mn):us.getD b.toNat false=false:=by
 obtain⟨i,_,hu,rfl⟩:=z6i (List.mem_of_mem_take h);rw[zhw,zhU,hu];rfl
theorem z1h {a b:List Bool}(h:a.length=b.length):(orL a b).length=a.length:=by unfold orL;rw[List.length_zipWith,h,Nat.min_self]
theorem zfd {a b:List Bool}(h:a.length=b.length)(k:Nat):(orL a b).getD k false=(a.getD k false||b.getD k false):=by
 unfold orL;rw[zhw,zhw,zhw,List.getElem?_zipWith];by_cases hk:k<a.length
 ·rw[zhx hk,zhx (h▸hk)];rfl
 ·rw[List.getElem?_eq_none (by omega),List.getElem?_eq_none (by omega)];rfl
theorem zas {s j i:Int}{us ws:List Bool}{f mn:Nat}(hl:us.length=ws.length)(hE:CkE s j i us.length=0)(hf:f<us.length):TnE s j i us (z0g (orL us ws) f mn) true 9=0:=by
 unfold TnE;rw[if_pos hE];have h1:=zbi (us:=orL us ws) (f:=f) (mn:=mn) (by rw[z1h hl];exact hf)
 rw[z1h hl]at h1;rw[if_pos h1,if_neg];intro h;obtain⟨b,hb,he⟩:=List.any_eq_true.1 h;have h2:=z9Z hb;rw[zfd hl]at h2;have h3:us.getD b.toNat false=false:=by cases h:us.getD b.toNat false<;>simp_all
 rw[h3]at he;exact absurd he (by decide)
def zRec:Rec:=⟨0,0,⟨#[]⟩⟩
theorem zgh (w:World):(zeroValue 118).run prog w=.ok (.agg (recC zRec)) w:=by
 obtain⟨i0,hi,hz,hs,hb⟩:=info_parts Tryz.infoRec;unfold zeroValue;simp[Sem.run_bind,typeInfo,hi,hz,go_sem,Result.andThen]
 rfl
theorem zh1 {w:World}{M:Nat}{l:List Rec}{E:DataW Unit}(hE:RecMap E l)(hO:w.ownsMap prog 3 recR M l.length E){a:Int}(ha:-9223372036854775808≤a∧a≤9223372036854775807):
  (Instr.lookup 146 (.map (some M)) (.int .i64 a) true).run prog w=.ok (.tuple #[.agg (recC ((z0Y l a).getD zRec)),.bool (z0Y l a).isSome]) w:=by
 obtain⟨v,ps,hrun,hv⟩:=hO.look_ok z3i underlying146 (zgh w) (z62 zRec) (keyOf_int_mk underlying3 (z8v ha));rw[hrun,hE.has_];rw[hE.at_]at hv;cases h:z0Y l a with
 | none=>rw[h]at hv;rw[zaP hv];rfl
 | some r=>rw[h]at hv;rw[zaP hv];rfl
theorem zc4 (tv:Value)(E:Int)(a:Int)(w:World)(h:StE w tv E)(hE:E≠0):
  Calls prog 36 #[tv,.int .i64 a] w fun e w'=>e=.returned (.tuple #[.int .i64 0,.string ⟨#[]⟩,.int .i64 E])∧Below w.heap.size w w':=by
 have hst:=z19 tv E w h;have hE':(E != 0)=true:=by simpa using hE
 clear hE;go_enter func36,ntmps36
 go_wp2_with fail
 refine hst.mono ?_;rintro e w1 ⟨rfl,hb1⟩;go_wp2_with fail
 refine bodyPost_ret (v:=.tuple #[.int .i64 0,.string ⟨#[]⟩,.int .i64 E]) (by simp[results,results36,go_sem]) rfl ?_
 exact⟨rfl,hb1⟩
theorem z94 (T:Nat)(F:List Nat)(D:Nat)(y:TxS)(a:Int)(w:World)(h:TxAt w T F D y)(hE:y.stateE=0)(ha:a<0∨y.s≤a):
  Calls prog 36 #[.pointer (some ⟨T,0,none⟩),.int .i64 a] w fun e w'=>e=.returned (.tuple #[.int .i64 0,.string ⟨#[]⟩,.int .i64 7])∧Below w.heap.size w w':=by
 have hst:=z19 _ _ w h.st;rw[hE]at hst;rcases Int.lt_or_le a 0 with h0|h0
 ·have hd:decide (a<0)=true:=by simpa using h0
  clear ha h0 h;go_enter func36,ntmps36
  go_wp2_with fail
  refine hst.mono ?_;rintro e w1 ⟨rfl,hb1⟩;go_wp2_with fail
  refine bodyPost_ret (v:=.tuple #[.int .i64 0,.string ⟨#[]⟩,.int .i64 7]) (by simp[results,results36,go_sem]) rfl ?_
  exact⟨rfl,hb1⟩
 ·have hd:decide (a<0)=false:=by simpa using h0
  have hd2:decide (y.s≤a)=true:=by simp;omega
  clear ha;go_enter func36,ntmps36
  go_wp2_with fail
  refine hst.mono ?_;rintro e w1 ⟨rfl,hb1⟩;obtain⟨ok,⟨M,wv,nv,bT,-⟩,lt⟩:=h.below hb1;have c1:w1.cell? ⟨T,1,none⟩=some (.int .i64 y.s):=(bT.cells 1).trans rfl;have lT:=bT.lt;clear bT ok lt h;go_wp2_with fail
  refine bodyPost_ret (v:=.tuple #[.int .i64 0,.string ⟨#[]⟩,.int .i64 7]) (by simp[results,results36,go_sem]) rfl ?_
  exact⟨rfl,hb1⟩
theorem zdP (T:Nat)(F:List Nat)(D:Nat)(y:TxS)(B:List Nat)(x:DevS)(a:Int)(w:World)(h:TxAt w T F D y)(hd:DevAt w D B x)(hE:y.stateE=0)(ha:0≤a∧a<y.s):
  Calls prog 36 #[.pointer (some ⟨T,0,none⟩),.int .i64 a] w fun e w'=>e=.returned (.tuple #[.int .i64 (y.readR x a).1,.string (y.readR x a).2.1,.int .i64 (y.readR x a).2.2])∧Below w.heap.size w w':=by
 have hst:=z19 _ _ w h.st;rw[hE]at hst;obtain⟨ha0,ha1⟩:=ha;have hd1:decide (a<0)=false:=by simpa using ha0
 have hd2:decide (y.s≤a)=false:=by simpa using ha1
 have hbd:=h.ok.bds;have HR:Hid (y.readR x a=match y.look a with|some r=>(r.kind,r.data,0)|none=>((x.fr a).kind,(x.fr a).data,x.ge a)):=zhs rfl
 have HC:Hid (y.look a=if a=1+y.j∧y.changed=true then some ⟨1+y.j,5,mapS y.now⟩else z0Y y.writes a):=zhs rfl
 go_enter func36,ntmps36
 go_wp2_with fail
 refine hst.mono ?_;rintro e w1 ⟨rfl,hb1⟩;have hD1:=hd.below hb1;have hT1:=h.below hb1;clear hst;obtain⟨ok,⟨M,wv,nv,bT,hT,hM,hMT,⟨E,hEm,hO⟩,hw,⟨A,c,rfl,hn,hnF⟩⟩,lt⟩:=h.below hb1;have lk:=zh1 hEm hO (a:=a) (by omega)
 have cT:=bT.cells;have lT:=bT.lt;have c1:w1.cell? ⟨T,1,none⟩=some (.int .i64 y.s):=(cT 1).trans rfl;have c5:w1.cell? ⟨T,5,none⟩=some (.int .i64 (1+y.j)):=(cT 5).trans rfl;have c17:w1.cell? ⟨T,17,none⟩=some (.map (some M)):=(cT 17).trans rfl;have c18:w1.cell? ⟨T,18,none⟩=some (.bool y.changed):=(cT 18).trans rfl;have c0:w1.cell? ⟨T,0,none⟩=some (.pointer (some ⟨D,0,none⟩)):=(cT 0).trans rfl;clear cT hO hw hEm hd h;generalize hr:(z0Y y.writes a).getD zRec=r at lk;obtain⟨ra,rk,rd⟩:=r;unfold recC at lk;simp only at lk
 have HCK:Hid (CkE y.s y.j y.i y.now.length=0):=zhs (by rw[ok.now];exact z7M ok.rg)
 have HNL:Hid (y.now.length≤1000):=zhs (by omega)
 have HT:=zhs bT;obtain⟨W,hW⟩:∃W,W=w1.alloc (.cells #[.int .i64 ra,.int .i64 rk,.string rd] 118):=⟨_,rfl⟩;have bX:Blk W w1.heap.size 118 #[.int .i64 ra,.int .i64 rk,.string rd]:=by rw[hW];exact Blk.new _ _ _
 have bTW:Blk W T 148 (txC D y.s y.j y.i wv (.slice A y.now.length c) M y.changed y.broken y.ended):=by rw[hW];exact bT.alloc _
 have BW:Below w.heap.size w W:=by rw[hW];exact hb1.alloc hb1.size _
 have hDW:DevAt W D B x:=by rw[hW];exact hD1.alloc _
 have hnW:Reads W A (y.now.map .bool):=by rw[hW];exact hn.alloc _
 have hzW:W.heap.size=w1.heap.size+1:=by rw[hW];simp
 have HZ:=zhs hzW;clear hzW;clear bT ok hn hM hMT hnF lt hT;by_cases hA:a=1+y.j∧y.changed=true
 ·obtain⟨hA1,hA2⟩:=hA;have HX:Hid (y.readR x a=(5,mapS y.now,0)):=zhs (by rw[HR.out,HC.out,if_pos ⟨hA1,hA2⟩])
  rw[hA2]at c18;have hq:(a==1+y.j)=true:=by simpa using hA1
  have d13:W.drew.cell? ⟨T,13,none⟩=some (.int .i64 y.s):=(bTW.drew.cells 13).trans rfl;have d14:W.drew.cell? ⟨T,14,none⟩=some (.int .i64 y.j):=(bTW.drew.cells 14).trans rfl;have d15:W.drew.cell? ⟨T,15,none⟩=some (.int .i64 y.i):=(bTW.drew.cells 15).trans rfl;have d16:W.drew.cell? ⟨T,16,none⟩=some (.slice A y.now.length c):=(bTW.drew.cells 16).trans rfl;have HD:=zhs (And.intro d13 (And.intro d14 (And.intro d15 d16)));clear d13 d14 d15 d16 hr hA1;go_wp2_with fail
  rw[←hW];clear hW lk c1 c5 c17 c18 c0 lT;refine z06 [.take 0,.take 1,.take 2,.take 3,.take 4,.take 5,.take 6,.one 7,.one 8,.one 9] 8 (fun w'=>w'.cell? ⟨T,13,none⟩=some (.int .i64 y.s)∧w'.cell? ⟨T,14,none⟩=some (.int .i64 y.j)∧w'.cell? ⟨T,15,none⟩=some (.int .i64 y.i)∧w'.cell? ⟨T,16,none⟩=some (.slice A y.now.length c)) (by kernel_rfl) (by kernel_rfl) (fun _ _ _ _ _ h=>h) HD.out ?_
  simp only[zhY,zhZ,Ms.fill,zhy,zhz];iterate 7 (refine z04 (by rfl) ?_ (fun w' hw'=>?_) ?_;rotate_left;(focus (go_simp;(try with_reducible rfl)));(try simp only[Act.put,zht,zhu,zhv]))
  refine z05 (by rfl) fun K hK=>?_
  go_simp;refine(z51 T 148 _ (1+y.j) y.s y.j y.i A c y.now HNL.out HCK.out W.drew bTW.drew rfl (hnW.below (zho _ _).drew)).mono ?_;rintro e w2 ⟨rfl,hb2⟩;have B12:Below W.heap.size W w2:=(zho _ _).drew.trans hb2;have lTW:=bTW.lt;refine hK _ _ (fun _=>⟨?_,?_,?_,?_⟩) ?_
  focus (exact(B12.cell (p:=⟨T,13,none⟩) lTW).trans HD.out.1)
  focus (exact(B12.cell (p:=⟨T,14,none⟩) lTW).trans HD.out.2.1)
  focus (exact(B12.cell (p:=⟨T,15,none⟩) lTW).trans HD.out.2.2.1)
  focus (exact(B12.cell (p:=⟨T,16,none⟩) lTW).trans HD.out.2.2.2)
  clear hK K;have bX2:=bX.belowAll B12;refine z05 (by rfl) fun K hK=>?_
  have hst:=z1L (ty:=118) (vs:=#[.int .i64 (1+y.j),.int .i64 5,.string (mapS y.now)]) bX2 rfl (by simp[Value.oneCell']) (by kernel_rfl)
  obtain⟨w3,hw3⟩:∃w3,w3=w2.setRow w1.heap.size #[.int .i64 (1+y.j),.int .i64 5,.string (mapS y.now)]:=⟨_,rfl⟩;rw[←hw3]at hst;have HW3:=zhs hw3;clear hw3;refine z0h _ _ _ rfl _ _ rfl rfl hst ?_;refine hK _ _ (fun h=>absurd h (by decide)) ?_
  clear hK K;refine z05 (by rfl) fun K hK=>?_
  go_simp;refine hK _ _ (fun h=>absurd h (by decide)) ?_
  clear hK K;refine z0f ?_;have bX3:Blk w3 w1.heap.size 118 #[.int .i64 (1+y.j),.int .i64 5,.string (mapS y.now)]:=by rw[HW3.out];exact bX2.setRow
  have B3:Below w.heap.size w w3:=by rw[HW3.out];exact Below.setRow (BW.trans (B12.mono BW.size)) hb1.size _
  clear hst;have cX:=bX3.cells;have lX:=bX3.lt;have e1:w3.cell? ⟨w1.heap.size,1,none⟩=some (.int .i64 5):=(cX 1).trans rfl;have e2:w3.cell? ⟨w1.heap.size,2,none⟩=some (.string (mapS y.now)):=(cX 2).trans rfl;clear cX;go_wp2_with fail
  go_quiet (fail)
  go_wp2_with fail
  rw[HX.out];refine bodyPost_ret (v:=.tuple #[.int .i64 5,.string (mapS y.now),.int .i64 0]) (by simp[results,results36,go_sem]) rfl ?_
  exact⟨rfl,z00 B3 _⟩
 have HX:Hid (y.look a=z0Y y.writes a):=zhs (by rw[HC.out,if_neg hA])
 have hq:(a==1+y.j)=false∨((a==1+y.j)=true∧y.changed=false):=by
  by_cases h1:a=1+y.j
  ·exact .inr ⟨by simpa using h1,by cases hc:y.changed;rfl;exact absurd ⟨h1,hc⟩ hA⟩
  ·exact .inl (by simpa using h1)
 clear hA;cases hs:z0Y y.writes a with
 | some r=>
  have HV:Hid (y.readR x a=(rk,rd,0)):=zhs (by rw[HR.out,HX.out,hs];rw[hs]at hr;cases hr;rfl)
  rw[hs]at lk;clear hr hs;have lk:=lk;simp only[Option.isSome_some]at lk;have cX:=bX.cells;have lX:=bX.lt;have e1:W.cell? ⟨w1.heap.size,1,none⟩=some (.int .i64 rk):=(cX 1).trans rfl;have e2:W.cell? ⟨w1.heap.size,2,none⟩=some (.string rd):=(cX 2).trans rfl;clear cX;have W18:W.cell? ⟨T,18,none⟩=some (.bool y.changed):=(bTW.cells 18).trans rfl;rcases hq with hq|⟨hq,hch⟩
  rotate_left;focus
   rw[hch]at c18;rw[hch]at W18;rw[hW]at W18
  all_goals
   go_wp2_with fail
   rw[←hW];go_wp2_with fail
   go_quiet (fail)
   go_wp2_with fail
   rw[HV.out];refine bodyPost_ret (v:=.tuple #[.int .i64 rk,.string rd,.int .i64 0]) (by simp[results,results36,go_sem]) rfl ?_
   exact⟨rfl,z00 BW _⟩
 | none=>
  have HV:Hid (y.readR x a=((x.fr a).kind,(x.fr a).data,x.ge a)):=zhs (by rw[HR.out,HX.out,hs])
  rw[hs]at lk;clear hr hs;have lk:=lk;simp only[Option.isSome_none]at lk;have W18:W.cell? ⟨T,18,none⟩=some (.bool y.changed):=(bTW.cells 18).trans rfl;have W0:W.cell? ⟨T,0,none⟩=some (.pointer (some ⟨D,0,none⟩)):=(bTW.cells 0).trans rfl;rcases hq with hq|⟨hq,hch⟩
  rotate_left;focus
   rw[hch]at c18;rw[hch]at W18
  all_goals
   have lTW:=bTW.lt;rw[hW]at W18 W0 lTW;go_wp2_with fail
   rw[←hW];clear hW W18 W0 lTW lk c1 c5 c17 c18 c0 lT;refine(z4h D B x a W hDW).mono ?_;rintro e w2 ⟨hb2,rfl⟩;have B2:=BW.trans (hb2.mono BW.size);generalize x.ge a=GE at *;generalize x.fr a=f at *;obtain⟨fk,fs,fd⟩:=f;obtain⟨w3,hw3⟩:∃w3,w3=w2.alloc (.cells #[.int .i64 fk,.int .u32 fs,.string fd] 190):=⟨_,rfl⟩;have bF:Blk w3 w2.heap.size 190 #[.int .i64 fk,.int .u32 fs,.string fd]:=by rw[hw3];exact Blk.new _ _ _
   have B3:Below w.heap.size w w3:=by rw[hw3];exact B2.alloc B2.size _
   have e0:w3.cell? ⟨w2.heap.size,0,none⟩=some (.int .i64 fk):=(bF.cells 0).trans rfl;have e2:w3.cell? ⟨w2.heap.size,2,none⟩=some (.string fd):=(bF.cells 2).trans rfl;have lF:=bF.lt;go_wp2_with fail
   rw[←hw3];clear hw3;go_quiet (fail)
   go_wp2_with fail
   rw[HV.out];refine bodyPost_ret (v:=.tuple #[.int .i64 fk,.string fd,.int .i64 GE]) (by simp[results,results36,go_sem]) rfl ?_
   exact⟨rfl,z00 B3 _⟩
theorem zgs (T:Nat)(F:List Nat)(D:Nat)(y:TxS)(B:List Nat)(x:DevS)(a:Int)(w:World)(h:TxAt w T F D y)(hd:DevAt w D B x):
  Calls prog 36 #[.pointer (some ⟨T,0,none⟩),.int .i64 a] w fun e w'=>e=.returned (.tuple #[.int .i64 (y.read x a).1,.string (y.read x a).2.1,.int .i64 (y.read x a).2.2])∧Below w.heap.size w w':=by
 unfold TxS.read;by_cases hE:y.stateE=0
 ·rw[if_neg (by simpa using hE)]
  by_cases ha:a<0∨y.s≤a
  ·rw[if_pos ha];exact z94 T F D y a w h hE ha
  ·rw[if_neg ha];exact zdP T F D y B x a w h hd hE (by omega)
 ·rw[if_pos (by simpa using hE)];exact zc4 _ _ a w h.st hE
end Go.Proofs.YtejmknghkbobnaaGreatDoor
