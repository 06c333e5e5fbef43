import Derived.Test.YtejmknghkbobnaaGreatDoorPart17
set_option linter.all false
set_option maxRecDepth 100000
set_option maxHeartbeats 0
namespace Go.Proofs.YtejmknghkbobnaaGreatDoor
open Go.Proofs.Tryz
open Go.RowKit Go.Maps
def aC (y:TxS)(l:List Int):Int:=if y.mF≠0 then y.mF else if 8<l.length then 3 else LsE y.now.length l l.length
abbrev lsC (T:Nat)(s j i k:Int)(v:Value):Array Value:=#[.pointer (some ⟨T,0,none⟩),.int .i64 s,.int .i64 j,.int .i64 i,.int .i64 k,v]
abbrev ls0:Array Value:=#[.pointer none,.int .i64 0,.int .i64 0,.int .i64 0,.int .i64 0,.slice none 0 0]
def z3s (w:World)(T:Nat)(y:TxS)(k:Int)(l:List Int)(e:Ending)(w':World):Prop:=
 Zr w w'/\((aC y l≠0/\e=.returned (.tuple #[.agg ls0,.int .i64 (aC y l)])) \/
  (aC y l=0/\∃v,e=.returned (.tuple #[.agg (lsC T y.s y.j y.i k v),.int .i64 0])/\w'.ownsRow w.heap.size 3 1 v l.length (l.map (.int .i64))))
theorem z8r (T:Value)(E k:Int)(sv:Value)(w:World)(h:StE w T E)(S:E≠0):
  Calls prog 159 #[T,.int .i64 k,sv] w (Zq (.tuple #[.agg ls0,.int .i64 E]) w):=by
 obtain⟨U,M⟩:=zex (w.alloc (.cells ls0 234));have Y:Blk U w.heap.size 234 ls0:=by rw[M];exact zbn
 have K:Zr w U:=by rw[M];exact zgr
 have I:=z1Q T E U (h.below K) S;have ab:(E != 0)=true:=by simpa using S
 clear S;go_enter func159,ntmps159
 go_wp2_with fail
 rw[<-M];go_wp2_with fail
 refine I.mono ?_;rintro e w1 ⟨rfl,D⟩;obtain⟨w2,c⟩:=zex (w1.alloc (.cells #[.int .i64 0,.int .i64 0,.int .i64 0,.slice none 0 0] 47));have A:Blk w2 w.heap.size 234 ls0:=by rw[c];exact(Y.mD D).alloc _
 have B2:Zr w w2:=by rw[c];have V:=K.trans (D.mono K.size);exact V.alloc V.size _
 clear M I Y K;have J:=aF (ty:=234) (vs:=ls0) A rfl (by simp[Value.oneCell']) (by kernel_rfl)
 rw[c]at J;have lR:=A.lt;rw[c]at lR;have O:=kD c;clear c D;go_wp2_with (refine zsb J ?_)
 rw[<-O.out];have cF:=(A.setRow (cs':=ls0)).cells;refine bodyPost_ret (v:=.tuple #[.agg ls0,.int .i64 E]) (by simp[results,results159,go_sem,cF]) rfl ?_
 exact⟨rfl,Below.setRow B2 (kE _) _⟩
theorem za5 {y:TxS}{l:List Int}(c:y.mF=0)(A:l.length<=8):aC y l=LsE y.now.length l l.length:=by unfold aC;rw[if_neg (by simpa using c),if_neg (by omega)]
theorem zbz {w:World}{A:Option Addr}{c:Nat}{l:List Int}(h:SlI w A c l)(k:Nat):Reads w A ((l.take k).map (.int .i64)):=by
 rw[List.map_take];exact h.reads.take k
theorem za4 (T:Nat)(F:List Nat)(D:Nat)(y:TxS)(kd:Int)(A:Option Addr)(c:Nat)(l:List Int)(hl:l.length<=1000)(w:World)(h:TxAt w T F D y)(hE:y.mF=0)(hA:SlI w A c l):
  Calls prog 159 #[.pointer (some ⟨T,0,none⟩),.int .i64 kd,.slice A l.length c] w (z3s w T y kd l):=by
 obtain⟨wA,a1⟩:=zex (w.alloc (.cells ls0 234));have bR:Blk wA w.heap.size 234 ls0:=by rw[a1];exact zbn
 have BA:Zr w wA:=by rw[a1];exact zgr
 have bq:=z3E T F D y wA (h.below BA) hE;have bL:y.now.length<=1000:=by have:=h.ok.bds;omega
 have HS:=kD hE;clear hE;go_enter func159,ntmps159
 go_wp2_with fail
 rw[<-a1];go_wp2_with fail
 refine bq.mono ?_;rintro e Y ⟨v,rfl,bu,a2⟩;obtain⟨g,cg,rfl⟩:=aw bu;obtain⟨U,J⟩:=zex (Y.alloc (.cells #[.int .i64 y.s,.int .i64 y.j,.int .i64 y.i,.slice g y.now.length cg] 47));have M:Blk U w.heap.size 234 ls0:=by rw[J];exact(bR.mD a2).alloc _
 have B1:=BA.trans (a2.mono BA.size);have B2:Zr w U:=by rw[J];exact B1.alloc B1.size _
 have ab:Blk U Y.heap.size 47 #[.int .i64 y.s,.int .i64 y.j,.int .i64 y.i,.slice g y.now.length cg]:=by rw[J];exact zbn
 have ac:=hA.below B2;have z2:=B2.size;clear a1 bq bR BA bu h;by_cases h8:8<l.length
 ·have HX:Hid (aC y l=3):=kD (by unfold aC;rw[if_neg (by simpa using HS.out),if_pos h8])
  have O:=aF (ty:=234) (vs:=ls0) M rfl (by simp[Value.oneCell']) (by kernel_rfl)
  rw[J]at O;have lR:=M.lt;rw[J]at lR;have av:=kD J;clear J a2;have bD:(8:Int)<(l.length:Int):=by omega
  clear h8;go_wp2_with (refine zsb O ?_)
  rw[<-av.out];have cF:=(M.setRow (cs':=ls0)).cells;refine bodyPost_ret (v:=.tuple #[.agg ls0,.int .i64 3]) (by simp[results,results159,go_sem,cF]) rfl ?_
  exact⟨Below.setRow B2 (kE _) _,.inl ⟨by rw[HX.out];decide,by rw[HX.out]⟩⟩
 have HX:=kD (za5 HS.out (by omega:l.length<=8))
 have bD:¬(8:Int)<(l.length:Int):=by omega
 have c3:U.cell? ⟨Y.heap.size,3,none⟩=some (.slice g y.now.length cg):=(ab.cells 3).trans rfl;have bb:=ab.lt;have bw:=M.lt;have av:=kD J;rw[J]at bw;clear J a2 h8;go_wp2_with fail
 rw[<-av.out];rw[<-av.out]at bw;have O:=aF (ty:=234) (vs:=ls0) M rfl (by simp[Value.oneCell']) (by kernel_rfl)
 have ao:=kD O;clear O;go_loop [27] (fun q=>∃k:Nat,k<=l.length/\q=.int .i64 k/\LsE y.now.length l k=0) (fun q=>l.length - (intOf q).toNat)
 case atStart=>exact⟨0,kP _,rfl,rfl⟩
 case round=>
  obtain⟨k,hk,rfl,aL⟩:=hrel;by_cases bt:k<l.length
  ·obtain⟨b,off,rfl,hb,bG⟩:=ac.reads.at_ (k:=k) (by simpa using bt)
   rw[lf]at bG;have br:l.getD k 0=l[k]:=by rw[kN,kQ bt];rfl
   have I:LsE y.now.length l (k+1)=if l[k]<0\/(y.now.length:Int) - 1<l[k]then 7 else if l[k]∈l.take k then 8 else 0:=by
    rw[iA aL];unfold iv;rw[br]
   have a6:LsE y.now.length l (k+1)≠0->LsE y.now.length l l.length=LsE y.now.length l (k+1):=fun h=>gT h (by omega)
   have S:Hid (Calls prog 212 #[.slice (some ⟨b,off,none⟩) k c,.int .i64 l[k]] U fun e w'=>e=.returned (.bool (decide (l[k]∈l.take k)))/\w'=U):=kD (by
    have h:=z3O (some ⟨b,off,none⟩) c (l.take k) (by rw[kX];omega) l[k] U (zbz ac k)
    rwa [kX,Nat.min_eq_left hk]at h)
   have bc:=kD a6;have bJ:k<=c:=kO hk ac.cap;have bK:=kD (List.take_subset k l);generalize l[k]=x at *;clear br aL a6;by_cases p7:x<0\/(y.now.length:Int) - 1<x
   ·rw[if_pos p7]at I;have bk:Hid (aC y l=7):=kD (by rw[HX.out,bc.out (by rw[I];decide),I])
    have O:=ao.out;have h7:(decide (x<0)=true)\/(decide (x<0)=false/\decide ((y.now.length:Int)<=x)=true):=by
     by_cases e:x<0
     ·exact .inl (by simpa using e)
     ·exact .inr ⟨by simpa using e,by simp;omega⟩
    clear p7 I;rcases h7 with h7|⟨h7,bC⟩
    all_goals
     go_wp2_with (refine zsb O ?_)
     have cF:=(M.setRow (cs':=ls0)).cells;refine bodyPost_ret (v:=.tuple #[.agg ls0,.int .i64 7]) (by simp[results,results159,go_sem,cF]) rfl ?_
     exact⟨Below.setRow B2 (kE _) _,.inl ⟨by rw[bk.out];decide,by rw[bk.out]⟩⟩
   ·rw[if_neg p7]at I;have h7:decide (x<0)=false:=by simp;omega
    have bC:decide ((y.now.length:Int)<=x)=false:=by simp;omega
    by_cases p8:x∈l.take k
    ·rw[if_pos p8]at I;have bn:Hid (aC y l=8):=kD (by rw[HX.out,bc.out (by rw[I];decide),I])
     have S:=S.out;rw[decide_eq_true p8]at S;have ao:=ao.out;clear p7 I p8;go_wp2_with fail
     refine S.mono ?_;rintro e w' ⟨rfl,rfl⟩;go_wp2_with (refine zsb ao ?_)
     have cF:=(M.setRow (cs':=ls0)).cells;refine bodyPost_ret (v:=.tuple #[.agg ls0,.int .i64 8]) (by simp[results,results159,go_sem,cF]) rfl ?_
     exact⟨Below.setRow B2 (kE _) _,.inl ⟨by rw[bn.out];decide,by rw[bn.out]⟩⟩
    ·rw[if_neg p8]at I;have S:=S.out;rw[decide_eq_false p8]at S;have bA:=kD I;clear p7 I p8;go_wp2_with fail
     refine S.mono ?_;rintro e w' ⟨rfl,rfl⟩;go_wp2_with fail
     go_round
     case rel=>exact⟨k+1,by omega,by go_num,bA.out⟩
     case measure=>simp[intOf];omega
  ·obtain rfl:k=l.length:=by omega
   have bB:Hid (aC y l=0):=kD (by rw[HX.out,aL])
   have hS:∀V,Zr U V->V.cell? ⟨Y.heap.size,0,none⟩=some (.int .i64 y.s)/\V.cell? ⟨Y.heap.size,1,none⟩=some (.int .i64 y.j)/\V.cell? ⟨Y.heap.size,2,none⟩=some (.int .i64 y.i):=fun V hb=>
    ⟨(hb.cell (p:=⟨Y.heap.size,0,none⟩) bb).trans ((ab.cells 0).trans rfl),(hb.cell (p:=⟨Y.heap.size,1,none⟩) bb).trans ((ab.cells 1).trans rfl),(hb.cell (p:=⟨Y.heap.size,2,none⟩) bb).trans ((ab.cells 2).trans rfl)⟩
   have a7:=kD hS;clear hS aL;go_wp2_with fail
   refine zrm [.take 0,.take 1,.take 2,.take 3,.take 4,.one 5,.one 6,.one 7,.one 8] 7 (fun V=>V.cell? ⟨Y.heap.size,0,none⟩=some (.int .i64 y.s)/\V.cell? ⟨Y.heap.size,1,none⟩=some (.int .i64 y.j)/\V.cell? ⟨Y.heap.size,2,none⟩=some (.int .i64 y.i)) (a7.out _ (kF _ _).drew) ?_
   simp only[kR,kS,Ms.fill,kT,kV];iterate 5 refine ztk ?_
   refine ah (by rfl) fun K hK=>?_
   go_simp;refine(z6x A c l U.drew (ac.reads.below (kF _ _).drew) ac.nil (by omega)).mono ?_
   rintro e w3 ⟨v3,rfl,ba,bF⟩;obtain⟨a3,a8,rfl⟩:=aw ba;have an:Zr U w3:=(kF _ _).drew.trans bF;refine hK _ _ (fun _=>a7.out _ an) ?_
   clear hK K;refine ah (by rfl) fun K hK=>?_
   go_simp;refine hK _ _ (fun _=>a7.out _ an) ?_
   clear hK K;have bp:=M.mD an;have B3:=B2.trans (an.mono z2);refine ah (by rfl) fun K hK=>?_
   have O:=aF (ty:=234) (vs:=lsC T y.s y.j y.i kd (.slice a3 l.length a8)) bp rfl (by simp[Value.oneCell']) (by kernel_rfl)
   refine zob O ?_;refine hK _ _ (fun h=>absurd h (by decide)) ?_
   clear hK K;refine ah (by rfl) fun K hK=>?_
   go_simp;refine hK _ _ (fun h=>absurd h (by decide)) ?_
   clear hK K;refine ax ?_;go_wp2_with fail
   have cF:=(bp.setRow (cs':=lsC T y.s y.j y.i kd (.slice a3 l.length a8))).cells;refine bodyPost_ret (v:=.tuple #[.agg (lsC T y.s y.j y.i kd (.slice a3 l.length a8)),.int .i64 0]) (by simp[results,results159,go_sem,cF]) rfl ?_
   refine⟨Below.setRow B3 (kE _) _,.inr ⟨bB.out,_,rfl,?_⟩⟩
   have hb:w.heap.size<U.heap.size:=M.lt;exact aI (ar ba fun q hq=>ak _ _ _ _ (fun e=>by have h9:=(ba.lt q hq).1;rw[e]at h9;exact absurd h9 (by show ¬U.heap.size<=w.heap.size;omega))) (by show w.heap.size<=U.heap.size;omega)
theorem z2z (T:Nat)(F:List Nat)(D:Nat)(y:TxS)(kd:Int)(A:Option Addr)(c:Nat)(l:List Int)(O:l.length<=1000)(w:World)(h:TxAt w T F D y)(K:SlI w A c l):
  Calls prog 159 #[.pointer (some ⟨T,0,none⟩),.int .i64 kd,.slice A l.length c] w (z3s w T y kd l):=by
 by_cases I:y.mF=0
 ·exact za4 T F D y kd A c l O w h I K
 ·refine(z8r _ _ kd _ w h.st I).mono ?_;rintro e S ⟨rfl,M⟩;have J:aC y l=y.mF:=by unfold aC;rw[if_pos (by simpa using I)]
  exact⟨M,.inl ⟨by rw[J];exact I,by rw[J]⟩⟩
theorem z4n (D T:Nat)(s j i kd:Int)(A:Option Addr)(c:Nat)(l:List Int)(k:Nat)(v:Int)(hv:l[k]?=some v)(hl:l.length<=1000)(w:World)(b:Blk w D 234 (lsC T s j i kd (.slice A l.length c)))(hR:Reads w A (l.map (.int .i64))):
  Calls prog 209 #[.pointer (some ⟨D,0,none⟩),.int .i64 k] w (Zq (.int .i64 (dn s j i v)) w):=by
 obtain⟨hk,O⟩:=mf.1 hv;obtain⟨g,off,rfl,hg,I⟩:=hR.at_ (k:=k) (by simpa using hk)
 rw[lf,O]at I;obtain⟨x,rfl⟩:=zex v;have S:=b.lt;have hS:∀V,Zr w V->V.cell? ⟨D,1,none⟩=some (.int .i64 s)/\V.cell? ⟨D,2,none⟩=some (.int .i64 j)/\V.cell? ⟨D,3,none⟩=some (.int .i64 i)/\V.cell? ⟨D,5,none⟩=some (.slice (some ⟨g,off,none⟩) l.length c)/\V.cell? ⟨g,off+k,none⟩=some (.int .i64 x):=fun V M=>
  ⟨(M.cell (p:=⟨D,1,none⟩) S).trans ((b.cells 1).trans rfl),(M.cell (p:=⟨D,2,none⟩) S).trans ((b.cells 2).trans rfl),(M.cell (p:=⟨D,3,none⟩) S).trans ((b.cells 3).trans rfl),(M.cell (p:=⟨D,5,none⟩) S).trans ((b.cells 5).trans rfl),(M.cell (p:=⟨g,off+k,none⟩) hg).trans I⟩
 have J:=kD hS;clear hS hv O I b hR;go_enter func209,ntmps209
 go_wp2_with fail
 refine zrm [.take 0,.take 1,.take 2,.take 3,.take 4,.take 5,.take 6,.take 7,.take 8,.take 9,.take 10,.one 11,.take 12,.take 13,.take 14,.take 15,.take 16] 17 (fun V=>V.cell? ⟨D,1,none⟩=some (.int .i64 s)/\V.cell? ⟨D,2,none⟩=some (.int .i64 j)/\V.cell? ⟨D,3,none⟩=some (.int .i64 i)/\V.cell? ⟨D,5,none⟩=some (.slice (some ⟨g,off,none⟩) l.length c)/\V.cell? ⟨g,off+k,none⟩=some (.int .i64 x)) (J.out _ (kF _ _).drew) ?_
 simp only[kR,kS,Ms.fill,kT,kV];iterate 11 refine ztk ?_
 refine ah (by rfl) fun K hK=>?_
 go_simp;refine(z7z s j i x w.drew).mono ?_;rintro e w1 ⟨rfl,U⟩;have Y:Zr w w1:=(kF _ _).drew.trans U;refine hK _ _ (fun _=>J.out _ Y) ?_
 clear hK K;iterate 5 refine ztk ?_
 refine ax ?_;go_wp2_with fail
 go_ret
 exact⟨rfl,Y⟩
def TxS.part (y:TxS)(x:DevS)(kd b:Int):ByteArray × Int:=
 if (y.read x (dn y.s y.j y.i b)).2.2=0/\(y.read x (dn y.s y.j y.i b)).1≠kd then (⟨#[]⟩,6)else ((y.read x (dn y.s y.j y.i b)).2.1,(y.read x (dn y.s y.j y.i b)).2.2)
theorem z5d (M T:Nat)(F:List Nat)(D:Nat)(y:TxS)(B:List Nat)(x:DevS)(kd:Int)(A:Option Addr)(c:Nat)(l:List Int)(k:Nat)(v:Int)(hv:l[k]?=some v)(hl:l.length<=1000)(w:World)(h:TxAt w T F D y)(hd:DevAt w D B x)(b:Blk w M 234 (lsC T y.s y.j y.i kd (.slice A l.length c)))(hR:Reads w A (l.map (.int .i64))):
  Calls prog 162 #[.pointer (some ⟨M,0,none⟩),.int .i64 k] w (Zq (.tuple #[.string (y.part x kd v).1,.int .i64 (y.part x kd v).2]) w):=by
 have lL:=b.lt;have hS:∀V,Zr w V->V.cell? ⟨M,0,none⟩=some (.pointer (some ⟨T,0,none⟩)):=fun V hb=>(hb.cell (p:=⟨M,0,none⟩) lL).trans ((b.cells 0).trans rfl)
 have J:=kD hS;clear hS;have HP:Hid (y.part x kd v=if (y.read x (dn y.s y.j y.i v)).2.2=0/\(y.read x (dn y.s y.j y.i v)).1≠kd then (⟨#[]⟩,6)else ((y.read x (dn y.s y.j y.i v)).2.1,(y.read x (dn y.s y.j y.i v)).2.2)):=kD rfl
 go_enter func162,ntmps162
 go_wp2_with fail
 refine zrm [.take 0,.take 1,.take 2,.take 3,.take 4,.take 5,.one 6,.one 7,.take 8,.take 9,.take 10,.take 11,.take 12,.take 13,.take 14] 15 (fun V=>V.cell? ⟨M,0,none⟩=some (.pointer (some ⟨T,0,none⟩))) (J.out _ (kF _ _).drew) ?_
 simp only[kR,kS,Ms.fill,kT,kV];iterate 6 refine ztk ?_
 refine ah (by rfl) fun K Y=>?_
 go_simp;refine(z4n M T y.s y.j y.i kd A c l k v hv hl w.drew b.drew (hR.below (kF _ _).drew)).mono ?_;rintro e w1 ⟨rfl,ab⟩;have O:Zr w w1:=(kF _ _).drew.trans ab;refine Y _ _ (fun _=>J.out _ O) ?_
 clear Y K;refine ah (by rfl) fun K Y=>?_
 go_simp;refine(zbS T F D y B x _ w1 (h.below O) (hd.below O)).mono ?_;rintro e w2 ⟨rfl,ac⟩;have S:Zr w w2:=O.trans (ac.mono O.size);refine Y _ _ (fun _=>J.out _ S) ?_
 clear Y K;iterate 7 refine ztk ?_
 refine ax ?_;have bb:=b.mD S;have c4:w2.cell? ⟨M,4,none⟩=some (.int .i64 kd):=(bb.cells 4).trans rfl;have an:=bb.lt;clear b bb hR h hd;generalize y.read x (dn y.s y.j y.i v)=r at *;obtain⟨rk,rd,re⟩:=r;simp only at HP |-
 by_cases h0:re=0
 ·subst h0;by_cases I:rk=kd
  ·have U:Hid (y.part x kd v=(rd,0)):=kD (by rw[HP.out,if_neg (by simp[I])])
   have hq:(rk != kd)=false:=by simpa using I
   clear I;go_wp2_with fail
   go_ret2
   exact⟨by rw[U.out];rfl,S⟩
  ·have U:Hid (y.part x kd v=(⟨#[]⟩,6)):=kD (by rw[HP.out,if_pos ⟨rfl,I⟩])
   have hq:(rk != kd)=true:=by simpa using I
   clear I;go_wp2_with fail
   go_ret2
   exact⟨by rw[U.out];rfl,S⟩
 ·have U:Hid (y.part x kd v=(rd,re)):=kD (by rw[HP.out,if_neg (fun hh=>h0 hh.1)])
  have hq:(re==0)=false:=by simpa using h0
  clear h0;go_wp2_with fail
  go_ret2
  exact⟨by rw[U.out];rfl,S⟩
def aQ (y:TxS)(l:List Int)(size:Int)(bad long:Bool):Int:=
 if aC y l≠0 then aC y l else if (size<0\/768<size)\/bad=true then 7 else if long=true then 3 else if (l.length:Int)≠(size+95) / 96 then 6 else 0
def z3w (w:World)(T:Nat)(y:TxS)(k:Int)(l:List Int)(size:Int)(bad long:Bool)(e:Ending)(w':World):Prop:=
 Zr w w'/\((aQ y l size bad long≠0/\∃cs:Array Value,(cs=ls0\/∃A c,cs=lsC T y.s y.j y.i k (.slice A l.length c))/\e=.returned (.tuple #[.agg cs,.int .i64 (aQ y l size bad long)])) \/
  (aQ y l size bad long=0/\∃v,e=.returned (.tuple #[.agg (lsC T y.s y.j y.i k v),.int .i64 0])/\w'.ownsRow w.heap.size 3 1 v l.length (l.map (.int .i64))))
theorem z3f (T:Nat)(F:List Nat)(D:Nat)(y:TxS)(kd:Int)(A:Option Addr)(c:Nat)(l:List Int)(hl:l.length<=1000)(size:Int)(bad long:Bool)(bp:-9223372036854775808<=size/\size<=9223372036854775807)(w:World)(h:TxAt w T F D y)(hA:SlI w A c l):
  Calls prog 154 #[.pointer (some ⟨T,0,none⟩),.int .i64 kd,.slice A l.length c,.int .i64 size,.bool bad,.bool long] w (z3w w T y kd l size bad long):=by
 obtain⟨wA,V⟩:=zex (w.alloc (.cells ls0 234));have bR:Blk wA w.heap.size 234 ls0:=by rw[V];exact zbn
 have BA:Zr w wA:=by rw[V];exact zgr
 have a6:=z2z T F D y kd A c l hl wA (h.below BA) (hA.below BA);have aL:Hid (aQ y l size bad long=if aC y l≠0 then aC y l else if (size<0\/768<size)\/bad=true then 7 else if long=true then 3 else if (l.length:Int)≠(size+95) / 96 then 6 else 0):=kD rfl
 clear h hA;go_enter func154,ntmps154
 go_wp2_with fail
 rw[<-V];go_wp2_with fail
 refine a6.mono ?_;rintro e w1 ⟨ao,av⟩;have B1:=BA.trans (ao.mono BA.size);have ac:=bR.mD ao;have ba:Hid (w.heap.size+1=wA.heap.size):=kD (by rw[V];simp)
 clear a6 V ao bR BA;rcases av with ⟨an,rfl⟩|⟨h0,v,rfl,a7⟩
 ·have S:Hid (aQ y l size bad long=aC y l):=kD (by rw[aL.out,if_pos an])
  generalize aC y l=E at *;have HN:=kD an;have bc:(E != 0)=true:=by simpa using an
  clear an;obtain⟨w2,I⟩:=zex (w1.alloc (.cells ls0 234));have J:Blk w2 w.heap.size 234 ls0:=by rw[I];exact ac.alloc _
  have U:Blk w2 w1.heap.size 234 ls0:=by rw[I];exact zbn
  have B2:Zr w w2:=by rw[I];exact B1.alloc B1.size _
  have lL:=U.lt;have lR:=J.lt;have K:=aF (ty:=234) (vs:=ls0) J rfl (by simp[Value.oneCell']) (by kernel_rfl)
  have cL:=U.cells;rw[I]at cL lL lR K;have O:=kD I;have bb:w.heap.size<w1.heap.size:=ac.lt;clear I;go_wp2_with (refine zsb K ?_)
  rw[<-O.out];have cF:=(J.setRow (cs':=ls0)).cells;refine bodyPost_ret (v:=.tuple #[.agg ls0,.int .i64 E]) (by simp[results,results154,go_sem,cF]) rfl ?_
  exact⟨Below.setRow B2 (kE _) _,.inl ⟨by rw[S.out];exact HN.out,ls0,.inl rfl,by rw[S.out]⟩⟩
 obtain⟨a3,M,rfl⟩:=aw a7;obtain⟨w2,I⟩:=zex (w1.alloc (.cells (lsC T y.s y.j y.i kd (.slice a3 l.length M)) 234));have J:Blk w2 w.heap.size 234 ls0:=by rw[I];exact ac.alloc _
 have U:Blk w2 w1.heap.size 234 (lsC T y.s y.j y.i kd (.slice a3 l.length M)):=by rw[I];exact zbn
 have B2:Zr w w2:=by rw[I];exact B1.alloc B1.size _
 have a2:w2.ownsRow wA.heap.size 3 1 (.slice a3 l.length M) l.length (l.map (.int .i64)):=by rw[I];exact aq (W:=w1) a7 ((kF _ _).alloc (kE _) _)
 have lL:=U.lt;have lR:=J.lt;have K:=aF (ty:=234) (vs:=lsC T y.s y.j y.i kd (.slice a3 l.length M)) J rfl (by simp[Value.oneCell']) (by kernel_rfl)
 have cL:=U.cells;rw[I]at cL lL lR K;have O:=kD I;have bb:w.heap.size<w1.heap.size:=ac.lt;clear I;have a8:aQ y l size bad long=if (size<0\/768<size)\/bad=true then 7 else if long=true then 3 else if (l.length:Int)≠(size+95) / 96 then 6 else 0:=by rw[aL.out,if_neg (by simpa using h0)]
 have ab:=kD a8;clear a8 h0;by_cases Y:(size<0\/768<size)\/bad=true
 ·have S:Hid (aQ y l size bad long=7):=kD (by rw[ab.out,if_pos Y])
  have h7:(decide (size<0)=true)\/(decide (size<0)=false/\decide (768<size)=true)\/(decide (size<0)=false/\decide (768<size)=false/\bad=true):=by
   by_cases e1:size<0
   ·exact .inl (by simpa using e1)
   ·by_cases e2:768<size
    ·exact .inr (.inl ⟨by simpa using e1,by simpa using e2⟩)
    ·exact .inr (.inr ⟨by simpa using e1,by simpa using e2,by rcases Y with h|h;omega;exact h⟩)
  clear Y;rcases h7 with h7|⟨h7,a1⟩|⟨h7,a1,rfl⟩
  all_goals
   go_wp2_with (refine zsb K ?_)
   rw[<-O.out];have cF:=(J.setRow (cs':=lsC T y.s y.j y.i kd (.slice a3 l.length M))).cells;refine bodyPost_ret (v:=.tuple #[.agg (lsC T y.s y.j y.i kd (.slice a3 l.length M)),.int .i64 7]) (by simp[results,results154,go_sem,cF]) rfl ?_
   exact⟨Below.setRow B2 (kE _) _,.inl ⟨by rw[S.out];decide,lsC T y.s y.j y.i kd (.slice a3 l.length M),.inr ⟨_,_,rfl⟩,by rw[S.out]⟩⟩
 have h7:decide (size<0)=false:=by simp;omega
 have a1:decide (768<size)=false:=by simp;omega
 obtain rfl:bad=false:=by cases bad;rfl;exact absurd (.inr rfl) Y
 cases long;rotate_left
 ·have S:Hid (aQ y l size false true=3):=kD (by rw[ab.out,if_neg Y,if_pos rfl])
  clear Y;go_wp2_with (refine zsb K ?_)
  rw[<-O.out];have cF:=(J.setRow (cs':=lsC T y.s y.j y.i kd (.slice a3 l.length M))).cells;refine bodyPost_ret (v:=.tuple #[.agg (lsC T y.s y.j y.i kd (.slice a3 l.length M)),.int .i64 3]) (by simp[results,results154,go_sem,cF]) rfl ?_
  exact⟨Below.setRow B2 (kE _) _,.inl ⟨by rw[S.out];decide,lsC T y.s y.j y.i kd (.slice a3 l.length M),.inr ⟨_,_,rfl⟩,by rw[S.out]⟩⟩
 have bk:0<=size:=by omega
 have bn:size<=768:=by omega
 by_cases p6:(l.length:Int)≠(size+95) / 96
 ·have S:Hid (aQ y l size false false=6):=kD (by rw[ab.out,if_neg Y,if_neg (by decide),if_pos p6])
  have hq:((l.length:Int) != (size+96 - 1) / 96)=true:=by simp;omega
  clear Y p6;go_wp2_with (refine zsb K ?_)
  rw[<-O.out];have cF:=(J.setRow (cs':=lsC T y.s y.j y.i kd (.slice a3 l.length M))).cells;refine bodyPost_ret (v:=.tuple #[.agg (lsC T y.s y.j y.i kd (.slice a3 l.length M)),.int .i64 6]) (by simp[results,results154,go_sem,cF]) rfl ?_
  exact⟨Below.setRow B2 (kE _) _,.inl ⟨by rw[S.out];decide,lsC T y.s y.j y.i kd (.slice a3 l.length M),.inr ⟨_,_,rfl⟩,by rw[S.out]⟩⟩
 ·have S:Hid (aQ y l size false false=0):=kD (by rw[ab.out,if_neg Y,if_neg (by decide),if_neg p6])
  have hq:((l.length:Int) != (size+96 - 1) / 96)=false:=by simp;omega
  clear Y p6;go_wp2_with (refine zsb K ?_)
  rw[<-O.out];have cF:=(J.setRow (cs':=lsC T y.s y.j y.i kd (.slice a3 l.length M))).cells;refine bodyPost_ret (v:=.tuple #[.agg (lsC T y.s y.j y.i kd (.slice a3 l.length M)),.int .i64 0]) (by simp[results,results154,go_sem,cF]) rfl ?_
  have bq:w.heap.size<wA.heap.size:=by rw[<-ba.out];omega
  refine⟨Below.setRow B2 (kE _) _,.inr ⟨S.out,_,rfl,?_⟩⟩
  exact aI (ar a2 fun q hq=>ak _ _ _ _ (fun e=>by have h9:=(a2.lt q hq).1;omega)) (by omega)
def cO (y:TxS)(x:DevS)(kd size from_ to_:Int)(l:List Int):Nat->ByteArray × Int
 | 0=>(⟨#[]⟩,0)
 | k+1=>
  if (cO y x kd size from_ to_ l k).2≠0 then cO y x kd size from_ to_ l k
  else if min ((k:Int)*96+96) size<=from_\/to_<=(k:Int)*96 then cO y x kd size from_ to_ l k
  else if (y.part x kd (l.getD k 0)).2≠0 then (⟨#[]⟩,(y.part x kd (l.getD k 0)).2)
  else if ((y.part x kd (l.getD k 0)).1.size:Int)≠min ((k:Int)*96+96) size - k*96 then (⟨#[]⟩,6)
  else ((cO y x kd size from_ to_ l k).1++(y.part x kd (l.getD k 0)).1.extract (max (from_ - k*96) 0).toNat (min (to_ - k*96) (y.part x kd (l.getD k 0)).1.size).toNat,0)
def TxS.text (y:TxS)(x:DevS)(kd:Int)(l:List Int)(size from_ to_:Int):ByteArray × Int:=cO y x kd size from_ to_ l l.length
theorem z06 (y:TxS)(x:DevS)(kd size from_ to_:Int)(l:List Int)(k:Nat):(cO y x kd size from_ to_ l k).1.size<=96*k:=by
 induction k with
 | zero=>exact kE _
 | succ k ih=>
  unfold cO;split
  ·omega
  ·split
   ·omega
   ·split
    ·exact kP _
    ·split
     ·exact kP _
     ·rename_i c A D I
      simp only[ByteArray.size_append,ByteArray.size_extract];have:((y.part x kd (l.getD k 0)).1.size:Int)<=96:=by omega
      omega
theorem z2g {y:TxS}{x:DevS}{kd size from_ to_:Int}{l:List Int}{k m:Nat}(h:(cO y x kd size from_ to_ l k).2≠0)(A:k<=m):cO y x kd size from_ to_ l m=cO y x kd size from_ to_ l k:=by
 induction m with
 | zero=>
  obtain rfl:k=0:=by omega
  rfl
 | succ m ih=>
  by_cases e:k=m+1
  ·rw[e]
  ·have ih:=ih (by omega)
   have c:(cO y x kd size from_ to_ l m).2≠0:=by rw[ih];exact h
   show (if (cO y x kd size from_ to_ l m).2≠0 then cO y x kd size from_ to_ l m else _)=_
   rw[if_pos c];exact ih
theorem z5z (Lb T:Nat)(F:List Nat)(D:Nat)(y:TxS)(B:List Nat)(x:DevS)(kd:Int)(A:Option Addr)(c:Nat)(l:List Int)(hl:l.length<=8)(size from_ to_:Int)(hs:0<=size/\size<=768)(hf:0<=from_/\from_<=to_/\to_<=size)(w:World)(h:TxAt w T F D y)(hd:DevAt w D B x)(b:Blk w Lb 234 (lsC T y.s y.j y.i kd (.slice A l.length c)))(hR:Reads w A (l.map (.int .i64))):
  Calls prog 155 #[.pointer (some ⟨Lb,0,none⟩),.int .i64 size,.int .i64 from_,.int .i64 to_] w (Zq (.tuple #[.string (y.text x kd l size from_ to_).1,.int .i64 (y.text x kd l size from_ to_).2]) w):=by
 have c5:w.cell? ⟨Lb,5,none⟩=some (.slice A l.length c):=(b.cells 5).trans rfl;have lL:=b.lt;have HT:Hid (y.text x kd l size from_ to_=cO y x kd size from_ to_ l l.length):=kD rfl;go_enter func155,ntmps155
 go_wp2_with fail
 go_loopw [10,21] (fun o q wr=>∃k:Nat,k<=l.length/\q=.int .i64 k/\o=.string (cO y x kd size from_ to_ l k).1/\(cO y x kd size from_ to_ l k).2=0/\Zr w wr) (fun _ q _=>l.length - (intOf q).toNat)
 case atStart=>exact⟨0,kP _,rfl,rfl,rfl,kF _ _⟩
 case round=>
  obtain⟨k,hk,rfl,rfl,h0,U⟩:=hrel;by_cases a2:k<l.length
  ·obtain⟨v,hv⟩:∃v,l[k]?=some v:=⟨_,kQ a2⟩;have an:l.getD k 0=v:=by rw[kN,hv];rfl
   have V:cO y x kd size from_ to_ l (k+1)=if min ((k:Int)*96+96) size<=from_\/to_<=(k:Int)*96 then cO y x kd size from_ to_ l k
  else if (y.part x kd v).2≠0 then (⟨#[]⟩,(y.part x kd v).2)
  else if ((y.part x kd v).1.size:Int)≠min ((k:Int)*96+96) size - k*96 then (⟨#[]⟩,6)
  else ((cO y x kd size from_ to_ l k).1++(y.part x kd v).1.extract (max (from_ - k*96) 0).toNat (min (to_ - k*96) (y.part x kd v).1.size).toNat,0):=by
    show (if (cO y x kd size from_ to_ l k).2≠0 then cO y x kd size from_ to_ l k else _)=_
    rw[if_neg (by simpa using h0),an]
   have ao:=z5d Lb T F D y B x kd A c l k v hv (by omega) wr (h.below U) (hd.below U) (b.mD U) (hR.below U)
   have a7:=z06 y x kd size from_ to_ l k;have M:(cO y x kd size from_ to_ l (k+1)).2≠0->y.text x kd l size from_ to_=cO y x kd size from_ to_ l (k+1):=fun a6=>by rw[HT.out];exact z2g a6 (by omega)
   have a8:=kD V;have J:=kD V;have ab:=kD M;have H0:=kD h0;have bc:=kD (And.intro h (And.intro hd (And.intro b hR)));clear V M an h hd b hR h0 hv;obtain⟨o,ho⟩:=zex ((cO y x kd size from_ to_ l k).1);rw[<-ho]at a7 J |-;have HO:=kD ho;clear ho;by_cases I:min ((k:Int)*96+96) size<=from_\/to_<=(k:Int)*96
   ·have O:Hid (cO y x kd size from_ to_ l (k+1)=cO y x kd size from_ to_ l k):=kD (by rw[J.out,if_pos I])
    have h7:(decide (min ((k:Int)*96+96) size<=from_)=true)\/(decide (min ((k:Int)*96+96) size<=from_)=false/\decide (to_<=(k:Int)*96)=true):=by
     by_cases e:min ((k:Int)*96+96) size<=from_
     ·exact .inl (decide_eq_true e)
     ·exact .inr ⟨decide_eq_false e,decide_eq_true (by omega)⟩
    have a1:k<8:=by omega
    clear I;rcases h7 with h7|⟨h7,bk⟩
    all_goals
     go_wp2_with fail
     go_roundw
     case rel=>exact⟨k+1,by omega,by go_num,by rw[O.out,HO.out],by rw[O.out];exact H0.out,U⟩
     case measure=>simp[intOf];omega
   ·have a1:k<8:=by omega
    have q1:decide (min ((k:Int)*96+96) size<=from_)=false:=decide_eq_false (by omega)
    have q2:decide (to_<=(k:Int)*96)=false:=decide_eq_false (by omega)
    have K:=kD I;clear I;go_wp2_with fail
    refine ao.mono ?_;rintro e w1 ⟨rfl,av⟩;have B1:=U.trans (av.mono U.size);clear ao;generalize y.part x kd v=P at *;obtain⟨S,pe⟩:=P;simp only at J |-
    by_cases Y:pe=0
    rotate_left
    ·have O:Hid (y.text x kd l size from_ to_=(⟨#[]⟩,pe)):=kD (by
      have e1:cO y x kd size from_ to_ l (k+1)=(⟨#[]⟩,pe):=by rw[J.out,if_neg K.out,if_pos Y]
      rw[ab.out (by rw[e1];exact Y),e1])
     have hq:(pe==0)=false:=by simpa using Y
     have bq:(pe != 0)=true:=by simpa using Y
     clear Y;go_wp2_with fail
     go_ret2
     exact⟨by rw[O.out];rfl,B1⟩
    subst Y;by_cases hz:(S.size:Int)≠min ((k:Int)*96+96) size - k*96
    ·have O:Hid (y.text x kd l size from_ to_=(⟨#[]⟩,6)):=kD (by
      have e1:cO y x kd size from_ to_ l (k+1)=(⟨#[]⟩,6):=by rw[J.out,if_neg K.out,if_neg (by decide),if_pos hz]
      rw[ab.out (by rw[e1];decide),e1])
     have hq:((S.size:Int) != min ((k:Int)*96+96) size - k*96)=true:=by simpa using hz
     clear hz;go_wp2_with fail
     go_ret2
     exact⟨by rw[O.out];rfl,B1⟩
    ·have hq:((S.size:Int) != min ((k:Int)*96+96) size - k*96)=false:=by simpa using hz
     have O:Hid (cO y x kd size from_ to_ l (k+1)=(o++S.extract (max (from_ - k*96) 0).toNat (min (to_ - k*96) S.size).toNat,0)):=kD (by rw[J.out,if_neg K.out,if_neg (by decide),if_neg hz])
     obtain⟨lo,hlo⟩:∃lo:Nat,max (from_ - k*96) 0=(lo:Int):=⟨_,(Int.toNat_of_nonneg (by omega)).symm⟩
     obtain⟨hi,aL⟩:∃hi:Nat,min (to_ - k*96) (S.size:Int)=(hi:Int):=⟨_,(Int.toNat_of_nonneg (by have:=K.out;omega)).symm⟩
     have bp:lo<=hi:=by have:=K.out;omega
     have bn:hi<=S.size:=by omega
     have bb:S.size<=96:=by omega
     have ba:¬9223372036854775807<o.size+(min hi S.size - lo):=by omega
     have ac:Hid (cO y x kd size from_ to_ l (k+1)=(o++S.extract lo hi,0)):=kD (by rw[O.out,hlo,aL];rfl)
     clear hz;go_wp2_with fail
     go_roundw
     case rel=>exact⟨k+1,by omega,by go_num,by rw[ac.out],by rw[ac.out],B1⟩
     case measure=>simp[intOf];omega
  ·obtain rfl:k=l.length:=by omega
   have O:Hid (y.text x kd l size from_ to_=((cO y x kd size from_ to_ l l.length).1,0)):=kD (by rw[HT.out];exact Prod.ext rfl h0)
   clear h0;generalize (cO y x kd size from_ to_ l l.length).1=o at *;go_wp2_with fail
   go_ret2
   exact⟨by rw[O.out];rfl,U⟩
def TxS.fit (y:TxS)(l:List Int)(n:Nat):Int × TxS × List Int:=
 if n<l.length then ((y.free (l.drop n)).1,(y.free (l.drop n)).2,l.take n)
 else if l.length<n then ((y.take (l.getD (l.length - 1) 0) ((n:Int) - l.length)).1,(y.take (l.getD (l.length - 1) 0) ((n:Int) - l.length)).2,l++y.nC (l.getD (l.length - 1) 0) ((n:Int) - l.length))
 else (0,y,l)
def TxS.puts (y:TxS)(x:DevS)(kd:Int)(l:List Int)(ps:List ByteArray):Nat->Int × TxS
 | 0=>(0,y)
 | k+1=>
  if (y.puts x kd l ps k).1≠0 then y.puts x kd l ps k
  else if ((y.puts x kd l ps k).2.part x kd (l.getD k 0)).2=0/\((y.puts x kd l ps k).2.part x kd (l.getD k 0)).1=ps.getD k ⟨#[]⟩then y.puts x kd l ps k
  else (y.puts x kd l ps k).2.write (dn y.s y.j y.i (l.getD k 0)) kd (ps.getD k ⟨#[]⟩)
def TxS.store (y:TxS)(x:DevS)(kd:Int)(l:List Int)(ps:List ByteArray):Int × TxS × List Int:=
 if (y.fit l ps.length).1≠0 then ((y.fit l ps.length).1,(y.fit l ps.length).2.1,[])
 else if ((y.fit l ps.length).2.1.puts x kd (y.fit l ps.length).2.2 ps ps.length).1≠0 then (((y.fit l ps.length).2.1.puts x kd (y.fit l ps.length).2.2 ps ps.length).1,((y.fit l ps.length).2.1.puts x kd (y.fit l ps.length).2.2 ps ps.length).2,[])
 else (0,((y.fit l ps.length).2.1.puts x kd (y.fit l ps.length).2.2 ps ps.length).2,(y.fit l ps.length).2.2)
def TxS.Same (a b:TxS):Prop:=a.s=b.s/\a.j=b.j/\a.i=b.i
theorem TxS.pz (y:TxS)(a k:Int)(d:ByteArray):(y.write a k d).2.Same y:=by
 unfold TxS.write TxS.brk;split
 ·exact⟨rfl,rfl,rfl⟩
 ·split<;>exact⟨rfl,rfl,rfl⟩
theorem TxS.o5 (y:TxS)(us:List Bool)(n:Nat):(y.change us n).Same y:=by
 unfold TxS.change;split
 ·exact⟨rfl,rfl,rfl⟩
 ·split<;>exact⟨rfl,rfl,rfl⟩
theorem TxS.pU (y:TxS)(l:List Int):(y.free l).2.Same y:=by
 unfold TxS.free TxS.brk;split
 ·exact⟨rfl,rfl,rfl⟩
 ·split
  ·exact⟨rfl,rfl,rfl⟩
  ·exact TxS.o5 _ _ _
theorem TxS.take_same (y:TxS)(a b:Int):(y.take a b).2.Same y:=by
 unfold TxS.take TxS.brk;split
 ·exact⟨rfl,rfl,rfl⟩
 ·split
  ·exact⟨rfl,rfl,rfl⟩
  ·exact TxS.o5 _ _ _
theorem TxS.Same.trans {a b c:TxS}(h:a.Same b)(k:b.Same c):a.Same c:=⟨h.1.trans k.1,h.2.1.trans k.2.1,h.2.2.trans k.2.2⟩
theorem TxS.oV (y:TxS)(x:DevS)(kd:Int)(l:List Int)(ps:List ByteArray)(k:Nat):(y.puts x kd l ps k).2.Same y:=by
 induction k with
 | zero=>exact⟨rfl,rfl,rfl⟩
 | succ k ih=>
  unfold TxS.puts;split
  ·exact ih
  ·split
   ·exact ih
   ·exact(TxS.pz _ _ _ _).trans ih
theorem TxS.pM {y:TxS}{x:DevS}{kd:Int}{l:List Int}{ps:List ByteArray}{k m:Nat}(h:(y.puts x kd l ps k).1≠0)(A:k<=m):y.puts x kd l ps m=y.puts x kd l ps k:=by
 induction m with
 | zero=>
  obtain rfl:k=0:=by omega
  rfl
 | succ m ih=>
  by_cases e:k=m+1
  ·rw[e]
  ·have ih:=ih (by omega)
   have c:(y.puts x kd l ps m).1≠0:=by rw[ih];exact h
   show (if (y.puts x kd l ps m).1≠0 then y.puts x kd l ps m else _)=_
   rw[if_pos c];exact ih
theorem z9P (s j i b:Int):0<=dn s j i b/\dn s j i b<=1000:=by
 have A:=z5l s j i;have D:=jM s j i;unfold dn;split
 ·rename_i h
  unfold jR at h;split at h
  ·split at h
   ·cases h
   ·omega
  ·rename_i c;exact absurd h c
 ·omega
theorem TxS.pR (y:TxS)(a b:Int):(y.take a b).1=0->b.toNat=(y.nC a b).length:=by
 unfold TxS.take TxS.nC;intro h;split at h
 ·rename_i D;exact absurd h D
 ·rename_i D
  split at h
  ·rename_i A;exact absurd h A
  ·rename_i A
   rw[if_neg D,if_neg A];have I:y.nI a b=0:=by simpa using A
   have c:AlE y.s y.j y.i y.may a b=0:=by
    unfold TxS.nI at I;split at I
    ·rename_i J;exact absurd I J
    ·rename_i J;simpa using J
   unfold AlE at c;split at c
   ·split at c
    ·cases c
    ·split at c
     ·cases c
     ·unfold ay;rw[kX];omega
   ·rename_i K;exact absurd c K
end Go.Proofs.YtejmknghkbobnaaGreatDoor
