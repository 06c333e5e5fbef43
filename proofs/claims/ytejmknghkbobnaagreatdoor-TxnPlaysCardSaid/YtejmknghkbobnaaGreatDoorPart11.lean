import Derived.Test.YtejmknghkbobnaaGreatDoorPart00
import Derived.Test.YtejmknghkbobnaaGreatDoorPart10
set_option linter.unusedVariables false
set_option linter.unusedSimpArgs false
set_option maxRecDepth 100000
set_option maxHeartbeats 8000000
namespace Go.Proofs.YtejmknghkbobnaaGreatDoor
open Go.Proofs.Tryz
open Go.RowKit Go.Maps
def z3l (l:List Int):DataW Unit:=l.foldl (fun D a=>D.put (.int .i64 a) (.lit (.bool true))) (.map [])
theorem z5e (l:List Int)(a:Int):z3l (l++[a])=(z3l l).put (.int .i64 a) (.lit (.bool true)):=by
 unfold z3l;rw[List.foldl_append];rfl
theorem z8l (l:List Int):IsMap (z3l l):=by
 unfold z3l;have:∀D:DataW Unit,IsMap D→IsMap (l.foldl (fun D a=>D.put (.int .i64 a) (.lit (.bool true))) D):=by
  induction l with
  | nil=>exact fun D h=>h
  | cons a r ih=>exact fun D h=>ih _ (h.put _ _)
 exact this _ isMap_empty
theorem zbY (l:List Int)(a:Int):(z3l l).atKey (.int .i64 a) (.lit (.bool false))=.lit (.bool (decide (a∈l))):=by
 have key:∀(n:Nat) (l:List Int),l.length=n→(z3l l).atKey (.int .i64 a) (.lit (.bool false))=.lit (.bool (decide (a∈l))):=by
  intro n;induction n with
  | zero=>
   intro l h;obtain rfl:=List.eq_nil_of_length_eq_zero h;rfl
  | succ n ih=>
   intro l h;have hne:l≠[]:=by intro e;subst e;cases h
   rw[←List.dropLast_concat_getLast hne,z5e];have hd:=ih l.dropLast (by rw[List.length_dropLast];omega)
   by_cases e:l.getLast hne=a
   ·rw[e,atKey_put_same (z8l _) (show WideAt.IsKeyLit (.int .i64 a)from trivial)]
    simp
   ·rw[atKey_put_other (by intro x;cases x;exact e rfl),hd]
    have e':¬a=l.getLast hne:=fun h=>e h.symm
    simp[e']
 exact key _ l rfl
theorem z4F {P:Program}{e:TypeId}(he:P.underlying e=some .bool){v:Value}{z:DataW Unit × List MemPlace}(h:plainElem P e v=some z):∃b,v=.bool b∧z=(.lit (.bool b),[]):=by
 unfold plainElem at h;rw[he]at h;cases v<;>simp at h
 subst h;exact⟨_,rfl,rfl⟩
abbrev PlacesAt (w:World)(M n:Nat)(l:List Int):Prop:=w.ownsMap prog 3 (plainElem prog 4) M n (z3l l)
theorem z8v {a:Int}(h:-9223372036854775808≤a∧a≤9223372036854775807):(Lit.int .i64 a).wf=true:=by
 simp[Lit.wf,IntKind.min,IntKind.max,IntKind.signed,IntKind.bits];omega
theorem PlacesAt.look {w:World}{M n:Nat}{l:List Int}(h:PlacesAt w M n l){a:Int}(ha:-9223372036854775808≤a∧a≤9223372036854775807):(Instr.lookup 275 (.map (some M)) (.int .i64 a) false).run prog w=.ok (.bool (decide (a∈l))) w:=by
 have hz:(zeroValue 4).run prog w=.ok (.bool false) w:=by kernel_rfl
 obtain⟨v,ps,hrun,hv⟩:=World.ownsMap.lookup h z3i underlying275 hz (plainElem_bool underlying4 false) (keyOf_int_mk underlying3 (z8v ha));rw[zbY]at hv;obtain⟨b,rfl,hb⟩:=z4F underlying4 hv;simp only[Prod.mk.injEq,DataW.lit.injEq,Lit.bool.injEq]at hb;rw[hrun,hb.1]
theorem PlacesAt.add {w:World}{M n:Nat}{l:List Int}(h:PlacesAt w M n l)(hn:n<maxLen){a:Int}(ha:-9223372036854775808≤a∧a≤9223372036854775807):∃w',(Instr.mapUpdate 275 (.map (some M)) (.int .i64 a) (.bool true)).run prog w=.ok () w'∧PlacesAt w' M (n+1) (l++[a])∧w.grownBy w' (some M):=by
 obtain⟨w',h1,h2,h3⟩:=World.ownsMap.update h z3i underlying275 hn (keyOf_int_mk underlying3 (z8v ha)) (plainElem_bool underlying4 true);refine⟨w',h1,?_,h3⟩
 unfold PlacesAt;rw[z5e];exact h2
def RunAt (w:World)(A:Option Addr)(l:List Rec):Prop:=Reads w A (l.flatMap recV)
theorem RunAt.at_ {w:World}{A:Option Addr}{l:List Rec}(h:RunAt w A l){k:Nat}(hk:k<l.length):
  ∃b off,A=some ⟨b,off,none⟩∧b<w.heap.size∧w.cell? ⟨b,off+k*3,none⟩=some (.int .i64 l[k].at_)∧w.cell? ⟨b,off+k*3+1,none⟩=some (.int .i64 l[k].kind)∧w.cell? ⟨b,off+k*3+2,none⟩=some (.string l[k].data):=by
 rcases h with h|⟨b,off,hA,hlt,hc⟩
 ·exfalso
  have:=z1r (f:=recV) (m:=3) (fun _ _=>rfl) (i:=k) (j:=0) (by omega) hk
  rw[h]at this;simp[recV]at this
 ·refine⟨b,off,hA,hlt,?_,?_,?_⟩
  ·exact hc (k*3) _ (by have:=z1r (f:=recV) (m:=3) (fun _ _=>rfl) (i:=k) (j:=0) (by omega) hk;simpa[recV]using this)
  ·rw[Nat.add_assoc];exact hc (k*3+1) _ (by have:=z1r (f:=recV) (m:=3) (fun _ _=>rfl) (i:=k) (j:=1) (by omega) hk;simpa[recV]using this)
  ·rw[Nat.add_assoc];exact hc (k*3+2) _ (by have:=z1r (f:=recV) (m:=3) (fun _ _=>rfl) (i:=k) (j:=2) (by omega) hk;simpa[recV]using this)
def z37 (l:List Rec):Prop:=l.length≤1000∧∀r∈l,(-9223372036854775808≤r.at_∧r.at_≤9223372036854775807)∧r.data.size≤maxLen
theorem z4M {n F Z:Int}{l:List Rec}{k m:Nat}(h:z0N n F Z l k≠0)(hm:k≤m):z0N n F Z l m=z0N n F Z l k:=by
 induction m with
 | zero=>
  have e:k=0:=by omega
  rw[e]
 | succ m ih=>
  by_cases e:k=m+1
  ·rw[e]
  ·have ih:=ih (by omega)
   show (if z0N n F Z l m≠0 then z0N n F Z l m else _)=_
   rw[ih,if_pos h]
theorem z3K {n F Z:Int}{l:List Rec}{k:Nat}(h:z0N n F Z l k=0)(hk:k<l.length):z0N n F Z l (k+1)=recE n F Z (l.take k) l[k]:=by
 show (if z0N n F Z l k≠0 then _ else _)=_
 rw[if_neg (by rw[h];simp)]
 simp[zhw,hk]
theorem zcG (D:Nat)(F Z:Int)(hFZ:0≤F∧F≤256∧0≤Z∧Z≤256)(B:List Nat)(x:DevS)(A:Option Addr)(c:Nat)(l:List Rec)(hok:z37 l)(w:World)(h:DevAt w D B x)(hr:RunAt w A l):
  Calls prog 188 #[.pointer (some ⟨D,0,none⟩),.agg #[.int .i64 F,.int .i64 Z],.slice A l.length c] w fun e w'=>e=.returned (.int .i64 (z0X x.stable.length F Z l))∧Below w.heap.size w w':=by
 have hhi:=h.ok.hi;have hl1:=hok.1;have bJ:Blk (w.alloc (.cells #[.int .i64 F,.int .i64 Z] 109)) w.heap.size 109 #[.int .i64 F,.int .i64 Z]:=Blk.new _ _ _;have hmo:=z8i F Z (by omega) (w.alloc (.cells #[.int .i64 F,.int .i64 Z] 109))
 have hmz:z0Z Z≤80:=by unfold z0Z;omega
 go_enter func188,ntmps188
 go_wp2_with fail
 refine hmo.mono ?_;rintro e w1 ⟨rfl,hb1⟩;have bJ1:=bJ.belowAll hb1;have B1:=z1E hb1;have Z1:=B1.size;have lJ1:=bJ1.lt;clear hmo hb1 bJ;by_cases hm:z0Z Z<l.length
 ·have HE:Hid (z0X x.stable.length F Z l=12):=zhs (by unfold z0X;rw[if_pos hm])
  go_wp2_with fail
  go_ret
  exact⟨by rw[HE.out];rfl,B1⟩
 have HE:Hid (z0X x.stable.length F Z l=z0N x.stable.length F Z l l.length):=zhs (by unfold z0X;rw[if_neg hm])
 have hmm:=@run_makeMap prog;go_wp2_with fail
 clear hmm hm;have hp0:PlacesAt (w1.alloc (.map #[] 0)) w1.heap.size 0 ((l.take 0).map (·.at_)):=World.ownsMap_made _ _ _ _;have B2:Below w.heap.size w (w1.alloc (.map #[] 0)):=B1.alloc Z1 _;have bJ2:Blk (w1.alloc (.map #[] 0)) w.heap.size 109 #[.int .i64 F,.int .i64 Z]:=bJ1.alloc _;have nJM:w.heap.size≠w1.heap.size:=by omega
 obtain⟨M,hM⟩:∃M,M=w1.heap.size:=⟨_,rfl⟩;obtain⟨W2,hW2⟩:∃W2,W2=w1.alloc (.map #[] 0):=⟨_,rfl⟩;have hMw:w.heap.size≤M:=by omega
 rw[←hM]at hp0 nJM ⊢;rw[←hW2]at hp0 B2 bJ2 ⊢;clear hM hW2 B1 bJ1 lJ1 Z1;go_loopw [9,18] (fun _ q wr=>∃k:Nat,k≤l.length∧q=.int .i64 k∧z0N x.stable.length F Z l k=0∧PlacesAt wr M k ((l.take k).map (·.at_))∧Blk wr w.heap.size 109 #[.int .i64 F,.int .i64 Z]∧Below w.heap.size w wr) (fun _ q _=>l.length - (intOf q).toNat)
 case atStart=>exact⟨0,zi9 _,rfl,rfl,hp0,bJ2,B2⟩
 case round=>
  obtain⟨k,hk,rfl,hv,hp,bJ,hB⟩:=hrel;by_cases hlt:k<l.length
  ·obtain⟨b,off,rfl,hbl,c0,c1,c2⟩:=RunAt.at_ (Reads.below hr hB) hlt;have hst:=z3K hv hlt;have hrk:=(hok.2 _ (zhQ hlt)).1;have hrs:=(hok.2 _ (zhQ hlt)).2;unfold maxLen at hrs;have HSN:Hid ((l.take (k+1)).map (·.at_)=(l.take k).map (·.at_)++[l[k].at_]):=zhs (by rw[zhE hlt,List.map_append];rfl)
   have HFI:Hid (z0N x.stable.length F Z l (k+1)≠0→z0N x.stable.length F Z l l.length=z0N x.stable.length F Z l (k+1)):=zhs (fun hne=>z4M hne (by omega))
   rw[hst]at HFI;have HST:=zhs hst;clear hst;generalize l[k]=r at *;obtain⟨av,kv,sv⟩:=r;simp only at c0 c1 c2 hrk hrs
   have hin:=z7i F Z av hFZ (wr.alloc (.cells #[.int .i64 av,.int .i64 kv,.string sv] 118));have hrec:=show recE x.stable.length F Z (l.take k) ⟨av,kv,sv⟩=_ from rfl
   have HRE:Hid (recE x.stable.length F Z (l.take k) ⟨av,kv,sv⟩=if F≤av∧av<F+Z then 2 else if av<0∨(x.stable.length:Int)≤av∨kv<1∨255<kv then 7 else if 96<sv.size then 3 else if av∈(l.take k).map (·.at_)then 8 else 0):=zhs rfl
   clear hrec;have HV:=zhs hv;clear hv;have bR0:Blk (wr.alloc (.cells #[.int .i64 av,.int .i64 kv,.string sv] 118)) wr.heap.size 118 #[.int .i64 av,.int .i64 kv,.string sv]:=Blk.new _ _ _;have zr:=hB.size;have cJ:=bJ.cells;have lJ:=bJ.lt;go_wp2_with fail
   refine hin.mono ?_;rintro e w4 ⟨rfl,hb4⟩;have bR:=bR0.belowAll hb4;have bJ4:=(bJ.alloc _).belowAll hb4;have hlM:=hp.lt;have hp4:PlacesAt w4 M k ((l.take k).map (·.at_)):=z0j (hp.alloc _) (hb4.block M (by simp;omega))
   have hB4:Below w.heap.size w w4:=(hB.alloc zr _).trans (hb4.mono (by simp;omega))
   have hd4:=h.below hB4;clear hb4 hin bR0 c0 c1 c2 cJ lJ hp bJ;have cR:=bR.cells;have lR:=bR.lt;by_cases hin:F≤av∧av<F+Z
   ·have hib:z0U F Z av=true:=by unfold z0U;simp;exact hin
    have HE2:Hid (recE x.stable.length F Z (l.take k) ⟨av,kv,sv⟩=2):=zhs (by rw[HRE.out,if_pos hin])
    rw[hib];clear hin hib;go_wp2_with fail
    go_ret
    exact⟨by rw[HE.out,HFI.out (by rw[HE2.out];decide),HE2.out];rfl,hB4⟩
   have hib:z0U F Z av=false:=by unfold z0U;simp;omega
   rw[hib];have HR2:=HRE.out;rw[if_neg hin]at HR2;have HRE:=zhs HR2;clear HR2 hin hib;by_cases hb:av<0∨(x.stable.length:Int)≤av∨kv<1∨255<kv
   ·have HE2:Hid (recE x.stable.length F Z (l.take k) ⟨av,kv,sv⟩=7):=zhs (by rw[HRE.out,if_pos hb])
    by_cases b1:av<0
    rotate_left;by_cases b2:(x.stable.length:Int)≤av
    rotate_left;by_cases b3:kv<1
    rotate_left;by_cases b4:255<kv
    rotate_left
    ·exfalso;omega
    all_goals
     clear hb;(try (have d1:decide (av<0)=false:=decide_eq_false (by omega)))
     (try (have d1:decide (av<0)=true:=decide_eq_true (by omega)))
     (try (have d2:decide ((x.stable.length:Int)≤av)=false:=decide_eq_false (by omega)))
     (try (have d2:decide ((x.stable.length:Int)≤av)=true:=decide_eq_true (by omega)))
     (try (have d3:decide (kv<1)=false:=decide_eq_false (by omega)))
     (try (have d3:decide (kv<1)=true:=decide_eq_true (by omega)))
     (try (have d4:decide (255<kv)=false:=decide_eq_false (by omega)))
     (try (have d4:decide (255<kv)=true:=decide_eq_true (by omega)))
     go_wp2_with fail
     go_quiet ((go_at_call 113;exact Calls.quiet_of_same (z2z D B x _ (hd4.drewN _))))
     go_wp2_with fail
     go_ret
     exact⟨by rw[HE.out,HFI.out (by rw[HE2.out];decide),HE2.out];rfl,z00 hB4 _⟩
   ·have HR2:=HRE.out;rw[if_neg hb]at HR2;have HRE:=zhs HR2;clear HR2;have d1:decide (av<0)=false:=by simp;omega
    have d2:decide ((x.stable.length:Int)≤av)=false:=by simp;omega
    have d3:decide (kv<1)=false:=by simp;omega
    have d4:decide (255<kv)=false:=by simp;omega
    go_wp2_with fail
    go_quiet ((go_at_call 113;exact Calls.quiet_of_same (z2z D B x _ (hd4.drewN _))))
    have hp5:PlacesAt (w4.drewN nq) M k ((l.take k).map (·.at_)):=hp4;have bJ5:Blk (w4.drewN nq) w.heap.size 109 #[.int .i64 F,.int .i64 Z]:=bJ4;have bR5:Blk (w4.drewN nq) wr.heap.size 118 #[.int .i64 av,.int .i64 kv,.string sv]:=bR;have hB5:=z00 hB4 nq;generalize w4.drewN nq=w5 at *;clear hp4 bJ4 bR hB4 hd4 cR lR d1 d2 d3 d4;have cR:=bR5.cells;have lR:=bR5.lt;by_cases hs:96<sv.size
    ·have HE2:Hid (recE x.stable.length F Z (l.take k) ⟨av,kv,sv⟩=3):=zhs (by rw[HRE.out,if_pos hs])
     have hs':(96:Int)<sv.size:=by omega
     go_wp2_with fail
     go_ret
     exact⟨by rw[HE.out,HFI.out (by rw[HE2.out];decide),HE2.out];rfl,hB5⟩
    have hs':(sv.size:Int)≤96:=by omega
    have hlk:=hp5.look hrk;by_cases hm:av∈(l.take k).map (·.at_)
    ·have HE2:Hid (recE x.stable.length F Z (l.take k) ⟨av,kv,sv⟩=8):=zhs (by rw[HRE.out,if_neg hs,if_pos hm])
     rw[decide_eq_true hm]at hlk;clear hm hs;go_wp2_with fail
     go_ret
     exact⟨by rw[HE.out,HFI.out (by rw[HE2.out];decide),HE2.out];rfl,hB5⟩
    ·have HE2:Hid (z0N x.stable.length F Z l (k+1)=0):=zhs (by rw[HST.out,HRE.out,if_neg hs,if_neg hm])
     rw[decide_eq_false hm]at hlk;obtain⟨w6,hrun6,hp6,hg6⟩:=hp5.add (by simp only[maxLen];omega) hrk
     have bJ6:=bJ5.grown hg6 (by simp;exact nJM)
     have hB6:=hB5.grown hg6 hB5.size (by intro q hq;cases hq;exact hMw)
     clear hm hs bJ5 hg6 hp5;go_wp2_with fail
     go_roundw
     case rel=>exact⟨k+1,by omega,by go_num,HE2.out,by rw[HSN.out];exact hp6,bJ6,hB6⟩
     case measure=>simp[intOf];omega
  ·obtain rfl:k=l.length:=by omega
   have HV:=zhs hv;clear hv hp;go_wp2_with fail
   go_ret
   exact⟨by rw[HE.out,HV.out];rfl,hB⟩
theorem Grow.box {w w1 w':World}{g:Nat}{B B':List Nat}(h1:KeepEx w.heap.size [g] w w1)(h:Grow w1 B w' B'):Grow w (g::B) w' (g::B'):=
 ⟨⟨h.keep.os.trans h1.os,h.keep.tape.trans h1.tape,h.keep.output.trans h1.output,zhS h1.size h.keep.size,fun k hk hn=>by
    have n1:k≠g:=fun e=>hn (by simp[e])
    have n2:k∉B:=fun e=>hn (by simp[e])
    exact(h.keep.block k (zhR hk h1.size) n2).trans (h1.block k hk (by simpa using n1))⟩,
  fun b hb=>by
   rcases List.mem_cons.1 hb with rfl|hb
   ·exact .inl (by simp)
   ·rcases h.new b hb with e|e
    ·exact .inl (by simp[e])
    ·exact .inr (zhS h1.size e)⟩
theorem Grow.cons_ {w w':World}{B B':List Nat}(h:Grow w B w' B')(g:Nat):Grow w (g::B) w' (g::B'):=Grow.box (KeepEx.refl _ _ _) h
theorem zfA (D PA PD PQ:Nat)(a kind q:Int)(ha:0≤a∧a≤1000000)(hq:0≤q∧q<4294967296)(s:ByteArray)(hs:s.size≤maxLen)(B:List Nat)(x:DevS)(w:World)(h:DevAt w D B x)
  (bA:Blk w PA 3 #[.int .i64 a]) (nA:PA∉B) (nA0:PA≠0) (bD:Blk w PD 27 #[.pointer (some ⟨D,0,none⟩)]) (nAD:PA≠PD) (bQ:Blk w PQ 188 #[.int .u32 q]) (nAQ:PA≠PQ):
  Calls prog 189 #[.int .i64 kind,.string s,.pointer (some ⟨PA,0,none⟩),.pointer (some ⟨PD,0,none⟩),.pointer (some ⟨PQ,0,none⟩)] w fun e w'=>
   e=.returned (.int .i64 (x.put (a+1) kind (next q) s).1)∧∃B',DevAt w' D B' (x.put (a+1) kind (next q) s).2∧Grow w (PA::B) w' (PA::B')∧Blk w' PA 3 #[.int .i64 (a+1)]∧PA∉B':=by
 have hw:IntKind.i64.wrap (a+1)=a+1:=by rw[IntKind.wrap_i64];omega
 have cA:=bA.cells;have fA:=bA.free;have lA:=bA.lt;have cD:=bD.cells;have lD:=bD.lt;have cQ:=bQ.cells;have lQ:=bQ.lt;have hd:DevAt (w.setCell ⟨PA,0,none⟩ (.int .i64 (a+1))) D B x:=h.set_ nA nA0 _;have hp:=z7K D B x (a+1) kind ((q+1) % 4294967296) s hs (by omega) _ hd
 have bA1:Blk (w.setCell ⟨PA,0,none⟩ (.int .i64 (a+1))) PA 3 #[.int .i64 (a+1)]:=bA.set_ 0 _;have k1:KeepEx w.heap.size [PA] w (w.setCell ⟨PA,0,none⟩ (.int .i64 (a+1))):=KeepEx.setCell _ (.inl (by simp)) _
 unfold next;go_enter func189,ntmps189
 go_wp2_with fail
 refine hp.mono ?_;rintro e w1 ⟨rfl,B',hd1,g1⟩;go_wp2_with fail
 go_ret
 exact⟨rfl,B',hd1,Grow.box k1 g1,g1.blk bA1 nA,g1.notin nA bA1.lt⟩
theorem z2k {B:List Nat}{a g:Nat}(h1:g≠a)(h2:g∉B):g∉a::B:=by simp;exact⟨h1,h2⟩
theorem zgO (D PA PD PQ PF PR:Nat)(a q:Int)(ha:0≤a∧a≤1000000)(hq:0≤q∧q<4294967296)(A:Option Addr)(n c:Nat)(hn:n≤1000)(B:List Nat)(x:DevS)(w:World)(h:DevAt w D B x)
  (bA:Blk w PA 3 #[.int .i64 a]) (nA:PA∉B) (nA0:PA≠0) (bD:Blk w PD 27 #[.pointer (some ⟨D,0,none⟩)]) (nAD:PA≠PD) (bQ:Blk w PQ 188 #[.int .u32 q]) (nAQ:PA≠PQ)
  (bF:Blk w PF 268 #[.func (.func 189) #[] #[.pointer (some ⟨PA,0,none⟩),.pointer (some ⟨PD,0,none⟩),.pointer (some ⟨PQ,0,none⟩)]]) (nF:PF∉PA::B) (bR:Blk w PR 48 #[.slice A n c]) (nR:PR∉PA::B):
  Calls prog 191 #[.pointer (some ⟨PF,0,none⟩),.pointer (some ⟨PR,0,none⟩)] w fun e w'=>
   e=.returned (.int .i64 (x.put (a+1) 3 (next q) (z0k n)).1)∧∃B',DevAt w' D B' (x.put (a+1) 3 (next q) (z0k n)).2∧Grow w (PA::B) w' (PA::B'):=by
 have cF:=bF.cells;have cR:=bR.cells;have lF:=bF.lt;have lR:=bR.lt;have hS0:w.cell? ⟨PF,0,none⟩=some (.func (.func 189) #[] #[.pointer (some ⟨PA,0,none⟩),.pointer (some ⟨PD,0,none⟩),.pointer (some ⟨PQ,0,none⟩)])∧w.cell? ⟨PR,0,none⟩=some (.slice A n c):=⟨by rw[cF];rfl,by rw[cR];rfl⟩
 have hsh:=z3z n w.drew;go_enter func191,ntmps191
 go_wp2_with fail
 refine z06 [.take 0,.take 1,.take 2,.one 3,.one 4,.one 5] 6 (fun w'=>w'.cell? ⟨PF,0,none⟩=some (.func (.func 189) #[] #[.pointer (some ⟨PA,0,none⟩),.pointer (some ⟨PD,0,none⟩),.pointer (some ⟨PQ,0,none⟩)])∧w'.cell? ⟨PR,0,none⟩=some (.slice A n c)) (by kernel_rfl) (by kernel_rfl) (fun _ _ _ _ _ h=>h) hS0 ?_
 simp only[zhY,zhZ,Ms.fill,zhy,zhz];iterate 3 (refine z04 (by rfl) ?_ (fun w' hw'=>?_) ?_;rotate_left;(focus (go_simp;(try with_reducible rfl)));(try simp only[Act.put,zht,zhu,zhv]))
 refine z05 (by rfl) fun K hK=>?_
 go_simp;refine hsh.mono ?_;rintro e w1 ⟨rfl,hb1⟩;have bF1:=bF.drew.belowAll hb1;have bR1:=bR.drew.belowAll hb1;have bA1:=bA.drew.belowAll hb1;have bD1:=bD.drew.belowAll hb1;have bQ1:=bQ.drew.belowAll hb1;have h1:=h.drew.below hb1;have g1:Grow w (PA::B) w1 (PA::B):=Grow.of_below ((zho w.heap.size w).drew.trans hb1) _;refine hK _ _ (fun _=>⟨by rw[bF1.cells];rfl,by rw[bR1.cells];rfl⟩) ?_
 clear hK K hsh cF cR lF lR hS0;refine z05 (by rfl) fun K hK=>?_
 have cF:=bF1.cells;go_simp;refine(zfA D PA PD PQ a 3 q ha hq (z0k n) (by show (strOfNums _).size≤_;rw[strOfNums_size];simp[maxLen]) B x w1 h1 bA1 nA nA0 bD1 nAD bQ1 nAQ).mono ?_
 rintro e w2 ⟨rfl,B',h2,g2,-,-⟩;have bF2:=g2.blk bF1 nF;have bR2:=g2.blk bR1 nR;have hS2:w2.cell? ⟨PF,0,none⟩=some (.func (.func 189) #[] #[.pointer (some ⟨PA,0,none⟩),.pointer (some ⟨PD,0,none⟩),.pointer (some ⟨PQ,0,none⟩)])∧w2.cell? ⟨PR,0,none⟩=some (.slice A n c):=⟨by rw[bF2.cells];rfl,by rw[bR2.cells];rfl⟩
 refine hK _ _ (fun _=>hS2) ?_
 clear hK K cF;refine z05 (by rfl) fun K hK=>?_
 go_simp;refine hK _ _ (fun _=>hS2) ?_
 clear hK K;refine z0f ?_;go_wp2_with fail
 go_ret
 exact⟨rfl,B',h2,g1.trans g2⟩
end Go.Proofs.YtejmknghkbobnaaGreatDoor
