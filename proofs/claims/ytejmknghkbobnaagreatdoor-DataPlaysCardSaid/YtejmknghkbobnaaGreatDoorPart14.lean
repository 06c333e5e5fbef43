import Derived.Test.YtejmknghkbobnaaGreatDoorPart13
set_option linter.all false
set_option maxRecDepth 100000
set_option maxHeartbeats 0
namespace Go.Proofs.YtejmknghkbobnaaGreatDoor
open Go.Proofs.Tryz
open Go.RowKit Go.Maps
theorem sameFr.trans {x y z:DevS}{b:Int}(h:sameFr x y b)(k:sameFr y z b):sameFr x z b:=⟨k.1.trans h.1,k.2.trans h.2⟩
theorem sameFr.refl (x:DevS)(b:Int):sameFr x x b:=⟨rfl,rfl⟩
theorem z44 {L:List (Int × Fr)}(hn:(L.map (·.1)).Nodup):∀(k:Nat) {x:DevS} {n:Nat},(∀p∈L,0<=p.1/\p.1<x.stable.length/\1<=p.2.kind/\p.2.kind<=255/\p.2.data.size<=112/\0<=p.2.seq/\p.2.seq<4294967296)->k<=L.length->x.nO (n+k) ->
  (x.puts L k).1=0/\(x.puts L k).2.nO n/\(x.puts L k).2.stable.length=x.stable.length/\(∀p∈L.take k,(x.puts L k).2.ge p.1=0/\(x.puts L k).2.fr p.1=p.2)/\(∀b:Int,0<=b->b<x.stable.length->b∉(L.take k).map (·.1)->sameFr x (x.puts L k).2 b):=by
 intro k;induction k with
 | zero=>intro x n _ _ h;exact⟨rfl,h,rfl,fun p A=>by simp at A,fun b _ _ _=>sameFr.refl _ _⟩
 | succ k ih=>
  intro x n hv hk h;obtain⟨i1,i2,U,i4,i5⟩:=ih (n:=n+1) hv (by omega) (h.mono (by omega))
  have I:k<L.length:=by omega
  have Y:L.getD k default=L[k]:=by rw[kN,kQ I];rfl
  have A:=hv L[k] (li I);have e:x.puts L (k+1)=(x.puts L k).2.put L[k].1 L[k].2.kind L[k].2.seq L[k].2.data:=by
   show (if (x.puts L k).1≠0 then x.puts L k else _)=_
   rw[if_neg (by simpa using i1),Y]
  obtain⟨j1,S⟩:=z0B i2 (a:=L[k].1) (kind:=L[k].2.kind) (seq:=L[k].2.seq) (s:=L[k].2.data) (by rw[U];exact⟨A.1,A.2.1⟩) ⟨A.2.2.1,A.2.2.2.1⟩ A.2.2.2.2.1 A.2.2.2.2.2
  have J:L.take (k+1)=L.take k++[L[k]]:=by rw[kZ I]
  have O:L[k].1∉(L.take k).map (·.1):=by
   have h2:(L.map (·.1)).take (k+1)=(L.take k).map (·.1)++[L[k].1]:=by rw[<-List.map_take,J,List.map_append];rfl
   have h3:((L.take k).map (·.1)++[L[k].1]).Nodup:=by rw[<-h2];exact hn.sublist (List.take_sublist _ _)
   intro hm;exact(List.nodup_append.1 h3).2.2 _ hm _ (by simp) rfl
  rw[e];refine⟨j1,S.runs,S.size.trans U,fun p c=>?_,fun b K M D=>?_⟩
  ·rw[J]at c;rcases lE.1 c with c|c
   ·have h4:=i4 p c;have T:=hv p (List.mem_of_mem_take c);have h6:=S.old p.1 T.1 (by rw[U];exact T.2.1) (fun V=>O (by rw[<-V];exact List.mem_map_of_mem c))
    exact⟨h6.1.trans h4.1,h6.2.trans h4.2⟩
   ·obtain rfl:p=L[k]:=by simpa using c
    exact S.new
  ·rw[J,List.map_append]at D;have T:=i5 b K M (fun hm=>D (mt _ hm))
   exact T.trans (S.old b K (by rw[U];exact M) (fun V=>D (by rw[V];simp)))
theorem z0V {x:DevS}{n:Nat}(h:x.nO n):DevS.done (0,x)=(0,x.mX):=by
 unfold DevS.done DevS.flush;rw[if_neg (by simp)]
 simp[kB,h.on]
structure HeadAt (x:DevS)(F q:Int):Prop where
 ge:x.ge F=0
 fr:x.fr F=⟨1,q,⟨#[]⟩⟩
theorem HeadAt.head {x:DevS}{F Z q:Int}(h:HeadAt x F q)(c:aO F Z=0):x.head F Z=(0,q):=by
 unfold DevS.head;rw[if_neg (by simpa using c),if_neg (by rw[h.ge];simp),if_neg (by rw[h.fr];simp),h.fr]
theorem HeadAt.same {x y:DevS}{F q:Int}(h:HeadAt x F q)(c:sameFr x y F):HeadAt y F q:=⟨c.1.trans h.ge,c.2.trans h.fr⟩
theorem z4I {a:Int}(ha:0<=a):∀(k:Nat) {x:DevS} {n:Nat},a+k<=x.stable.length->x.nO (n+k) ->
  (x.blanks a k).1=0/\(x.blanks a k).2.nO n/\(x.blanks a k).2.stable.length=x.stable.length/\(∀b:Int,a<=b->b<a+k->(x.blanks a k).2.ge b=70)/\(∀b:Int,0<=b->b<x.stable.length->(b<a\/a+k<=b)->sameFr x (x.blanks a k).2 b):=by
 intro k;induction k with
 | zero=>intro x n _ h;exact⟨rfl,h,rfl,fun b I K=>by omega,fun b _ _ _=>sameFr.refl _ _⟩
 | succ k ih=>
  intro x n hk h;obtain⟨O,S,T,U,V⟩:=ih (n:=n+1) (by omega) (h.mono (by omega))
  have e:x.blanks a (k+1)=(x.blanks a k).2.write (a+k) zsec:=by
   show (if (x.blanks a k).1≠0 then x.blanks a k else _)=_
   rw[if_neg (by simpa using O)]
  obtain⟨Y,A⟩:=z6t S (a:=a+k) (by omega)
  rw[e];refine⟨Y,A.runs,A.size.trans T,fun b I K=>?_,fun b c D M=>?_⟩
  ·by_cases J:b=a+k
   ·rw[J];exact A.new.1
   ·exact(A.old b (by omega) (by omega) J).1.trans (U b I (by omega))
  ·exact(V b c D (by omega)).trans (A.old b c (by omega) (by omega))
theorem dK {F Z:Int}(h:aO F Z=0):8<=Z/\Z<=96/\0<=F/\F<=256 - Z:=by
 unfold aO at h;split at h
 ·cases h
 ·omega
theorem z8G {x:DevS}{F Z:Int}{n:Nat}(S:aO F Z=0)(hF:F+Z<=x.stable.length)(h:x.nO (n+1+(Z - 1).toNat)):
  ∃y,x.nH F Z=(0,y)/\y.nO n/\y.stable.length=x.stable.length/\HeadAt y F 0/\(∀b:Int,F+1<=b->b<F+Z->y.ge b=70)/\(∀b:Int,0<=b->b<x.stable.length->(b<F\/F+Z<=b)->sameFr x y b):=by
 have hz:=dK S;obtain⟨j1,c⟩:=z0B (n:=n+(Z - 1).toNat) (h.mono (by omega)) (a:=F) (kind:=1) (seq:=0) (s:=⟨#[]⟩) (by omega) (by omega) (kP _) (by omega)
 obtain⟨i1,T,J,U,O⟩:=z4I (a:=F+1) (by omega) (Z - 1).toNat (n:=n) (by rw[c.size];omega) c.runs
 have M:F+1+((Z - 1).toNat:Int)=F+Z:=by omega
 rw[M]at U O;obtain⟨V,Y,K⟩:=iR T;refine⟨((x.put F 1 0 ⟨#[]⟩).2.blanks (F+1) (Z - 1).toNat).2.mX,?_,V,Y.trans (J.trans c.size),?_,fun b A D=>?_,fun b A D h3=>?_⟩
 ·unfold DevS.nH DevS.flush;rw[if_neg (by simpa using S),if_neg (by simpa using j1),if_neg (by simpa using i1),T.on]
  rfl
 ·have I:F<(x.put F 1 0 ⟨#[]⟩).2.stable.length:=by rw[c.size];omega
  have h0:HeadAt (x.put F 1 0 ⟨#[]⟩).2 F 0:=⟨c.new.1,c.new.2⟩;exact(h0.same (O F (by omega) I (by omega))).same (K F (by omega) (by rw[J];exact I))
 ·exact(K b (by omega) (by rw[J,c.size];omega)).1.trans (U b A D)
 ·exact((c.old b A D (by omega)).trans (O b A (by rw[c.size];exact D) (by omega))).trans (K b A (by rw[J,c.size];exact D))
theorem z5C {n F Z:Int}{l:List Rec}:∀ {m:Nat},cd n F Z l m=0->∀k,k<m->im n F Z (l.take k) (l.getD k default)=0:=by
 intro m;induction m with
 | zero=>intro _ k A;omega
 | succ m ih=>
  intro h k A;unfold cd at h;by_cases c:cd n F Z l m=0
  ·rw[if_neg (by simpa using c)]at h
   by_cases e:k=m
   ·rw[e];exact h
   ·exact ih c k (by omega)
  ·rw[if_pos (by simpa using c)]at h;exact absurd h c
theorem z7k {n F Z:Int}{l:List Rec}{r:Rec}(h:im n F Z l r=0):¬(F<=r.at_/\r.at_<F+Z)/\0<=r.at_/\r.at_<n/\1<=r.kind/\r.kind<=255/\r.data.size<=96/\r.at_∉l.map (·.at_):=by
 unfold im at h;by_cases c:F<=r.at_/\r.at_<F+Z
 ·rw[if_pos c]at h;cases h
 ·rw[if_neg c]at h;by_cases A:r.at_<0\/n<=r.at_\/r.kind<1\/255<r.kind
  ·rw[if_pos A]at h;cases h
  ·rw[if_neg A]at h;by_cases D:96<r.data.size
   ·rw[if_pos D]at h;cases h
   ·rw[if_neg D]at h;by_cases I:r.at_∈l.map (·.at_)
    ·rw[if_pos I]at h;cases h
    ·exact⟨c,by omega,by omega,by omega,by omega,by omega,I⟩
structure ValidL (n F Z:Int)(l:List Rec):Prop where
 len:(l.length:Int)<=cj Z
 rec_:∀k,(hk:k<l.length)->¬(F<=l[k].at_/\l[k].at_<F+Z)/\0<=l[k].at_/\l[k].at_<n/\1<=l[k].kind/\l[k].kind<=255/\l[k].data.size<=96/\l[k].at_∉(l.take k).map (·.at_)
theorem zba {n F Z:Int}{l:List Rec}(h:cV n F Z l=0):ValidL n F Z l:=by
 unfold cV at h;by_cases c:cj Z<l.length
 ·rw[if_pos c]at h;cases h
 ·rw[if_neg c]at h;refine⟨by omega,fun k D=>?_⟩
  have A:=z5C h k D;have e:l.getD k default=l[k]:=by rw[kN,kQ D];rfl
  rw[e]at A;exact z7k A
theorem jY {α:Type}{l:List α}(h:∀k,(I:k<l.length)->l[k]∉l.take k):l.Nodup:=by
 rw[List.nodup_iff_pairwise_ne];rw[List.pairwise_iff_getElem];intro i j D A c e;apply h j A
 rw[<-e];exact List.mem_take_iff_getElem.2 ⟨i,by omega,rfl⟩
theorem ValidL.nodup {n F Z:Int}{l:List Rec}(h:ValidL n F Z l):(l.map (·.at_)).Nodup:=jY fun k A=>by
 have c:k<l.length:=by simpa using A
 have:=(h.rec_ k c).2.2.2.2.2.2
 rw[<-List.map_take];simpa using this
theorem z0F {l:List Int}(h:bj l):cf (strOfNums l)=l:=by
 unfold cf strOfNums;simp only[List.map_map];conv=>rhs;rw[<-List.map_id l]
 apply List.map_congr_left
 intro x c;have:=h x c
 simp only[Function.comp,UInt8.toNat_ofNat',id];omega
theorem z6d (a b:ByteArray):cf ⟨a.data++b.data⟩=cf a++cf b:=by unfold cf;simp
theorem zbj:∀a:Fin 257,bits .or .i64 ((a.val:Int) % 256) ((a.val:Int) / 256 % 256*256)=a.val:=by decide +kernel
theorem zak {r:Rec}(K:0<=r.at_/\r.at_<257)(A:0<=r.kind/\r.kind<256):cf (gE r)=[r.at_ % 256,r.at_ / 256 % 256,r.kind]++cf r.data:=by
 unfold gE;have D:cf (⟨(aH r.at_).data++(jS [r.kind % 256]).data++r.data.data⟩:ByteArray)=cf ⟨(aH r.at_).data++(jS [r.kind % 256]).data⟩++cf r.data:=z6d ⟨(aH r.at_).data++(jS [r.kind % 256]).data⟩ r.data;rw[D,z6d];have I:cf (aH r.at_)=[r.at_ % 256,r.at_ / 256 % 256]:=z0F (fun x c=>by
  simp only[lp,List.mem_nil_iff,or_false]at c;rcases c with rfl|rfl<;>omega)
 have J:cf (jS [r.kind % 256])=[r.kind % 256]:=z0F (fun x c=>by
  simp only[lp,List.mem_nil_iff,or_false]at c;rcases c with rfl;omega)
 rw[I,J,Int.emod_eq_of_lt A.1 A.2];rfl
theorem jC {r:Rec}:(gE r).size=3+r.data.size:=by
 unfold gE aH jS;show ((strOfNums [r.at_ % 256,r.at_ / 256 % 256]).data++(strOfNums [r.kind % 256]).data++r.data.data).size=_
 rw[Array.size_append,Array.size_append];show (strOfNums [r.at_ % 256,r.at_ / 256 % 256]).size+(strOfNums [r.kind % 256]).size+r.data.size=_
 rw[strOfNums_size,strOfNums_size];simp
theorem z9j {r:Rec}{q:Int}(A:0<=r.at_/\r.at_<257)(O:0<=r.kind/\r.kind<256)(S:r.data.size<=96):aB ⟨2,q,gE r⟩=r:=by
 unfold aB;rw[if_neg (by simp only[jC];omega)]
 simp only[zak A O];have D:bits .or .i64 (([r.at_ % 256,r.at_ / 256 % 256,r.kind]++cf r.data).getD 0 0) (([r.at_ % 256,r.at_ / 256 % 256,r.kind]++cf r.data).getD 1 0*256)=r.at_:=by
  show bits .or .i64 (r.at_ % 256) (r.at_ / 256 % 256*256)=r.at_
  have h:=zbj ⟨r.at_.toNat,by omega⟩
  simp only[Int.toNat_of_nonneg A.1]at h;exact h
 have I:([r.at_ % 256,r.at_ / 256 % 256,r.kind]++cf r.data).getD 2 0=r.kind:=rfl;have J:(gE r).extract 3 (gE r).size=r.data:=by
  have c:((aH r.at_).data++(jS [r.kind % 256]).data).size=3:=by
   rw[Array.size_append];show (strOfNums _).size+(strOfNums _).size=3
   rw[strOfNums_size,strOfNums_size];rfl
  apply ByteArray.ext
  rw[ByteArray.data_extract];unfold gE;show ((aH r.at_).data++(jS [r.kind % 256]).data++r.data.data).extract 3 _=r.data.data
  rw[Array.extract_append,c];have K:((aH r.at_).data++(jS [r.kind % 256]).data).extract 3 (ByteArray.size ⟨(aH r.at_).data++(jS [r.kind % 256]).data++r.data.data⟩)=#[]:=by
   apply Array.eq_empty_of_size_eq_zero
   rw[Array.size_extract,c];omega
  rw[K];have M:(ByteArray.size ⟨(aH r.at_).data++(jS [r.kind % 256]).data++r.data.data⟩) - 3=r.data.data.size:=by
   show ((aH r.at_).data++(jS [r.kind % 256]).data++r.data.data).size - 3=_
   rw[Array.size_append,c];omega
  rw[M,Nat.sub_self];simp
 rw[D,I,J]
theorem iE (q:Int):0<=aD q/\aD q<4294967296:=by unfold aD;omega
theorem jB {F q:Int}{l:List Rec}{k:Nat}(c:k<l.length):(ef F q l)[k]?=some (F+1+k,⟨2,q,gE l[k]⟩):=by
 unfold ef;rw[mq,List.getElem?_zipIdx,kQ c];simp
theorem z2L {F q:Int}{l:List Rec}{p:Int × Fr}(h:p∈ef F q l):∃k,∃A:k<l.length,p=(F+1+k,⟨2,q,gE l[k]⟩):=by
 obtain⟨k,A,rfl⟩:=List.mem_iff_getElem.1 h;have c:k<l.length:=by rw[eM]at A;exact A
 refine⟨k,c,?_⟩
 have:=jB (F:=F) (q:=q) c
 rw[kQ A]at this;exact Option.some.inj this
theorem z6Y (F q:Int)(l:List Rec):((ef F q l).map (·.1)).Nodup:=by
 refine jY fun k T M=>?_
 have A:k<l.length:=by simpa[eM]using T
 rw[<-List.map_take]at M;obtain⟨p,U,D⟩:=List.mem_map.1 M;obtain⟨i,O,I⟩:=List.mem_take_iff_getElem.1 U;have c:i<l.length:=by have:=O;rw[eM]at this;omega
 have J:=jB (F:=F) (q:=q) c;have K:=jB (F:=F) (q:=q) A;rw[kQ (by rw[eM];exact c),I]at J
 rw[lf]at D;rw[kQ (by rw[eM];exact A)]at K
 rw[Option.some.inj J,Option.some.inj K]at D;have S:i<k:=by omega
 simp only at D
 omega
structure LogAt (z:DevS)(F q:Int)(l:List Rec):Prop where
 recs:∀k,(hk:k<l.length)->z.ge (F+1+k)=0/\z.fr (F+1+k)=⟨2,aD q,gE l[k]⟩
 mark:z.ge (F+1+l.length)=0/\z.fr (F+1+l.length)=⟨3,aD q,aH l.length⟩
theorem zam {x:DevS}{F Z q:Int}{n:Nat}{l:List Rec}(hc:aO F Z=0)(hF:F+Z<=x.stable.length)(hh:HeadAt x F q)(hv:ValidL x.stable.length F Z l)(Y:cV x.stable.length F Z l=0)(h:x.nO (n+1+l.length)):
  ∃z,x.log F Z l=(0,z)/\z.nO n/\z.stable.length=x.stable.length/\HeadAt z F q/\LogAt z F q l/\(∀b:Int,0<=b->b<x.stable.length->(b<F\/F+Z<=b)->sameFr x z b):=by
 have hz:=dK hc;have hm:(l.length:Int)<=Z - 2:=by have:=hv.len;unfold cj at this;omega
 have I:=iE q;obtain⟨i1,i2,S,i4,i5⟩:=z44 (z6Y F (aD q) l) l.length (x:=x) (n:=n+1) (fun p U=>by
  obtain⟨k,T,rfl⟩:=z2L U;have h9:=hv.rec_ k T;refine⟨by show 0<=F+1+(k:Int);omega,by show F+1+(k:Int)<_;omega,by show (1:Int)<=2;omega,by show (2:Int)<=255;omega,?_,I.1,I.2⟩
  show (gE l[k]).size<=112
  rw[jC];omega) (by rw[eM];exact kE _) h
 have V:(ef F (aD q) l).take l.length=ef F (aD q) l:=mj (by rw[eM];exact kE _)
 rw[V]at i4 i5;have O:(aH l.length).size<=112:=by unfold aH jS;rw[strOfNums_size];simp
 obtain⟨j1,D⟩:=z0B i2 (a:=F+1+l.length) (kind:=3) (seq:=aD q) (s:=aH l.length) (by rw[S];omega) (by omega) O I
 obtain⟨f1,f2,f3⟩:=iR D.runs;have A:∀b:Int,(b<F+1\/F+1+l.length<=b)->b∉(ef F (aD q) l).map (·.1):=fun b hb hm=>by
  obtain⟨p,U,he⟩:=List.mem_map.1 hm;obtain⟨k,T,rfl⟩:=z2L U;simp only at he;omega
 have c:∀b:Int,0<=b->b<x.stable.length->b≠F+1+l.length->sameFr (x.puts (ef F (aD q) l) l.length).2 ((x.puts (ef F (aD q) l) l.length).2.put (F+1+l.length) 3 (aD q) (aH l.length)).2.mX b:=fun b J K h3=>
  (D.old b J (by rw[S];exact K) h3).trans (f3 b J (by rw[D.size,S];exact K))
 refine⟨((x.puts (ef F (aD q) l) l.length).2.put (F+1+l.length) 3 (aD q) (aH l.length)).2.mX,?_,f1,f2.trans (D.size.trans S),?_,⟨fun k T=>?_,?_⟩,fun b J K h3=>?_⟩
 ·unfold DevS.log;rw[hh.head hc];simp only
  rw[if_neg (by simp),if_neg (by simpa using Y),if_neg (by simpa using i1)]
  rw[show (x.puts (ef F (aD q) l) l.length).2.put (F+1+l.length) 3 (aD q) (aH l.length)=(0,((x.puts (ef F (aD q) l) l.length).2.put (F+1+l.length) 3 (aD q) (aH l.length)).2)from Prod.ext j1 rfl]
  exact z0V D.runs
 ·exact(hh.same (i5 F (by omega) (by omega) (A F (by omega)))).same (c F (by omega) (by omega) (by omega))
 ·have h4:=i4 (F+1+k,⟨2,aD q,gE l[k]⟩) (List.mem_of_getElem? (jB T));have M:=c (F+1+k) (by omega) (by omega) (by omega)
  exact⟨M.1.trans h4.1,M.2.trans h4.2⟩
 ·have M:=f3 (F+1+l.length) (by omega) (by rw[D.size,S];omega)
  exact⟨M.1.trans D.new.1,M.2.trans D.new.2⟩
 ·exact(i5 b J K (A b (by omega))).trans (c b J K (by omega))
theorem z72 {z:DevS}{F Z q:Int}{l:List Rec}(S:0<=F)(U:z.stable.length<=256)(I:ValidL z.stable.length F Z l)(O:LogAt z F q l):∀k,k<=l.length->z.mM F Z q k=⟨false,0,l.take k,false⟩:=by
 intro k;induction k with
 | zero=>intro _;rfl
 | succ k ih=>
  intro T;have ih:=ih (by omega)
  have c:k<l.length:=by omega
  obtain⟨g,f⟩:=O.recs k c;have A:=I.rec_ k c;have D:=z9j (r:=l[k]) (q:=aD q) ⟨A.2.1,by omega⟩ (by omega) A.2.2.2.2.2.1
  show (if (z.mM F Z q k).stop then z.mM F Z q k else _)=_
  rw[ih,g,f,D];have J:dp z.stable.length F Z ⟨2,aD q,gE l[k]⟩=true:=by
   unfold dp;rw[if_neg (by simp only[jC];omega),D]
   simp only[cx,lq,decide_eq_true_eq,Bool.not_eq_true',decide_eq_false_iff_not];exact⟨⟨A.2.2.1,A.1⟩,by omega⟩
  have K:decide (l[k].at_∈(l.take k).map (·.at_))=false:=decide_eq_false A.2.2.2.2.2.2;have M:decide (((l.take k).length:Int)=cj Z)=false:=decide_eq_false (by have:=I.len;rw[kX];omega)
  rw[J];simp only[K,M];rw[if_neg (by simp),if_neg (by simp[dI]),if_neg (by simp),kZ c]
theorem z71 {z:DevS}{F Z q:Int}{l:List Rec}(D:0<=F)(I:z.stable.length<=256)(J:ValidL z.stable.length F Z l)(c:LogAt z F q l):∀k,l.length<k->z.mM F Z q k=⟨true,0,l,true⟩:=by
 intro k K;induction k with
 | zero=>omega
 | succ k ih=>
  by_cases e:l.length<k
  ·show (if (z.mM F Z q k).stop then z.mM F Z q k else _)=_
   rw[ih e];rfl
  ·obtain rfl:k=l.length:=by omega
   obtain⟨g,f⟩:=c.mark;show (if (z.mM F Z q l.length).stop then z.mM F Z q l.length else _)=_
   rw[z72 D I J c _ (kE _),g,f,lj];have A:dp z.stable.length F Z ⟨3,aD q,aH l.length⟩=false:=by
    unfold dp;rw[if_pos (by left;simp)]
   rw[A];simp[dI]
theorem zap {z:DevS}{F Z q:Int}{l:List Rec}(c:aO F Z=0)(K:z.stable.length<=256)(I:HeadAt z F q)(A:ValidL z.stable.length F Z l)(J:LogAt z F q l):z.look F Z=(0,q,l,true):=by
 have M:=dK c;have D:=z71 (by omega) K A J (Z - 1).toNat (by have:=A.len;unfold cj at this;omega)
 unfold DevS.look;rw[I.head c];simp only
 rw[if_neg (by simp),D,if_neg (by simp)]
theorem z6o {q:Int}{l:List Rec}(h:(l.map (·.at_)).Nodup):((ik q l).map (·.1)).Nodup:=by
 have e:(ik q l).map (·.1)=l.map (·.at_):=by unfold ik;rw[List.map_map];rfl
 rw[e];exact h
theorem z6q {z:DevS}{F Z q:Int}{n:Nat}{l:List Rec}(hc:aO F Z=0)(hF:F+Z<=z.stable.length)(hh:HeadAt z F q)(T:ValidL z.stable.length F Z l)(hl:LogAt z F q l)(h:z.nO (n+l.length)):
  ∃y,(z.apply F Z).2=(0,y)/\y.nO n/\y.stable.length=z.stable.length/\HeadAt y F q/\(∀r∈l,y.ge r.at_=0/\y.fr r.at_=⟨r.kind,aD q,r.data⟩)/\(∀b:Int,0<=b->b<z.stable.length->b∉l.map (·.at_)->sameFr z y b):=by
 have hz:=dK hc;have I:=iE q;have J:∀r∈l,¬(F<=r.at_/\r.at_<F+Z)/\0<=r.at_/\r.at_<z.stable.length/\1<=r.kind/\r.kind<=255/\r.data.size<=96:=fun r A=>by
  obtain⟨k,hk,rfl⟩:=List.mem_iff_getElem.1 A;have c:=T.rec_ k hk;exact⟨c.1,c.2.1,c.2.2.1,c.2.2.2.1,c.2.2.2.2.1,c.2.2.2.2.2.1⟩
 have ab:(ik (aD q) l).length=l.length:=by unfold ik;simp
 obtain⟨i1,i2,K,i4,U⟩:=z44 (z6o (q:=aD q) T.nodup) l.length (x:=z) (n:=n) (fun p hp=>by
  unfold ik at hp;obtain⟨r,A,rfl⟩:=List.mem_map.1 hp;have c:=J r A;exact⟨c.2.1,c.2.2.1,c.2.2.2.1,c.2.2.2.2.1,by show r.data.size<=112;omega,I.1,I.2⟩) (by omega) h
 have S:(ik (aD q) l).take l.length=ik (aD q) l:=mj (by omega)
 rw[S]at i4 U;have D:(ik (aD q) l).map (·.1)=l.map (·.at_):=by unfold ik;rw[List.map_map];rfl
 obtain⟨f1,f2,M⟩:=iR i2;have e:z.applies q l=(0,(z.puts (ik (aD q) l) l.length).2.mX):=by
  unfold DevS.applies;rw[show z.puts (ik (aD q) l) l.length=(0,(z.puts (ik (aD q) l) l.length).2)from Prod.ext i1 rfl]
  exact z0V i2
 have O:F∉l.map (·.at_):=fun A=>by
  obtain⟨r,A,he⟩:=List.mem_map.1 A;have:=(J r A).1
  omega
 refine⟨(z.puts (ik (aD q) l) l.length).2.mX,?_,f1,f2.trans K,?_,fun r A=>?_,fun b V Y h3=>?_⟩
 ·unfold DevS.apply;rw[zap hc h.ok.hi hh T hl];rw[if_neg (by simp),if_neg (by simp),e]
  rw[if_neg (by simp)]
 ·exact(hh.same (U F (by omega) (by omega) (by rw[D];exact O))).same (M F (by omega) (by rw[K];omega))
 ·have h4:=i4 (r.at_,⟨r.kind,aD q,r.data⟩) (List.mem_map.2 ⟨r,A,rfl⟩);have h5:=M r.at_ (J r A).2.1 (by rw[K];exact(J r A).2.2.1)
  exact⟨h5.1.trans h4.1,h5.2.trans h4.2⟩
 ·exact(U b V Y (by rw[D];exact h3)).trans (M b V (by rw[K];exact Y))
theorem z4L {x:DevS}{F Z q:Int}{n:Nat}{l:List Rec}(T:aO F Z=0)(hF:F+Z<=x.stable.length)(hh:HeadAt x F q)(O:cV x.stable.length F Z l=0)(h:x.nO (n+1+l.length+1+l.length)):
  ∃y,x.ny F Z l=(0,y)/\y.nO n/\y.stable.length=x.stable.length/\HeadAt y F (aD q)/\(∀r∈l,y.ge r.at_=0/\y.fr r.at_=⟨r.kind,aD q,r.data⟩)/\(∀b:Int,0<=b->b<x.stable.length->(b<F\/F+Z<=b)->b∉l.map (·.at_)->sameFr x y b):=by
 have hz:=dK T;have hv:=zba O;have Y:=iE q;obtain⟨z,ez,z1,S,z3,z4,z5⟩:=zam (n:=n+1+l.length) T hF hh hv O h;obtain⟨y,ey,y1,y2,y3,y4,y5⟩:=z6q (n:=n+1) T (by rw[S];exact hF) z3 (by rw[S];exact hv) z4 z1
 obtain⟨j1,D⟩:=z0B y1 (a:=F) (kind:=1) (seq:=aD q) (s:=⟨#[]⟩) (by rw[y2,S];omega) (by omega) (kP _) Y
 obtain⟨f1,f2,f3⟩:=iR D.runs;have c:y.stable.length=x.stable.length:=y2.trans S;have A:∀b:Int,0<=b->b<x.stable.length->b≠F->sameFr y (y.put F 1 (aD q) ⟨#[]⟩).2.mX b:=fun b I J U=>(D.old b I (by rw[c];exact J) U).trans (f3 b I (by rw[D.size,c];exact J))
 have hr:∀r∈l,0<=r.at_/\r.at_<x.stable.length/\r.at_≠F:=fun r K=>by
  obtain⟨k,hk,rfl⟩:=List.mem_iff_getElem.1 K;have V:=hv.rec_ k hk;exact⟨V.2.1,V.2.2.1,fun e=>V.1 (by omega)⟩
 refine⟨(y.put F 1 (aD q) ⟨#[]⟩).2.mX,?_,f1,f2.trans (D.size.trans c),?_,fun r K=>?_,fun b I J U h4=>?_⟩
 ·unfold DevS.ny;rw[ez];simp only
  rw[if_neg (by simp),ey]
  simp only
  rw[if_neg (by simp)]
  unfold DevS.clear;rw[y3.head T];simp only
  rw[if_neg (by simp),show y.put F 1 (aD q) ⟨#[]⟩=(0,(y.put F 1 (aD q) ⟨#[]⟩).2)from Prod.ext j1 rfl]
  exact z0V D.runs
 ·have M:=f3 F (by omega) (by rw[D.size,c];omega)
  exact⟨M.1.trans D.new.1,M.2.trans D.new.2⟩
 ·have M:=A r.at_ (hr r K).1 (hr r K).2.1 (hr r K).2.2;have h6:=y4 r K;exact⟨M.1.trans h6.1,M.2.trans h6.2⟩
 ·exact((z5 b I J U).trans (y5 b I (by rw[S];exact J) h4)).trans (A b I J (by omega))
theorem z56 {n:Nat}(c:64<=n/\n<=256)(N:Nat)(A:N<=1000000000000):(aV n).nO N:=⟨jF c,rfl,rfl,by show (0:Int)+N<=_;omega⟩
theorem z2E {s j i:Int}(h:rgE s j i=0):cV s 1 j [bz s j i]=0:=by
 have A:=de h;have c:im s 1 j [] (bz s j i)=0:=by
  unfold im bz;rw[if_neg (by show ¬(1<=1+j/\1+j<1+j);omega),if_neg (by show ¬(1+j<0\/s<=1+j\/(5:Int)<1\/255<(5:Int));omega),if_neg (by simp only[gQ];omega),if_neg (by simp)]
 unfold cV;rw[if_neg (by show ¬cj j<((1:Nat):Int);unfold cj;omega)]
 show (if cd s 1 j [bz s j i] 0≠0 then _ else im s 1 j [] (bz s j i))=0
 rw[if_neg (by show ¬((0:Int)≠0);simp),c]
structure Fresh (y:DevS)(s j i:Int)(N:Nat):Prop where
 runs:y.nO N
 size:(y.stable.length:Int)=s
 head:HeadAt y 1 1
 map_:y.ge (1+j)=0/\y.fr (1+j)=⟨5,1,gn (List.replicate (rgB s j i).toNat false)⟩
 blank:∀a:Int,(a=0\/2+j<=a)->a<s->y.ge a=70
theorem z0h {s j i:Int}(h:rgE s j i=0)(N:Nat)(hN:N<=100000000000):∃y,(aV s.toNat).oC s j i=(0,y)/\Fresh y s j i N:=by
 have hb:=de h;have c:((aV s.toNat).stable.length:Int)=s:=by show ((List.replicate s.toNat zsec).length:Int)=s;rw[m4];omega
 have I:aO 1 j=0:=by unfold aO;rw[if_neg (by omega)]
 obtain⟨K,M,r1,s1,S,-,o1⟩:=z8G (x:=aV s.toNat) (F:=1) (Z:=j) (n:=N+1+1+1+1) I (by rw[c];omega) (z56 (by omega) _ (by omega))
 have A:(K.stable.length:Int)=s:=by rw[s1];exact c
 obtain⟨y,O,r2,s2,T,w2,o2⟩:=z4L (x:=K) (F:=1) (Z:=j) (q:=0) (n:=N) (l:=[bz s j i]) I (by rw[A];omega) S (by rw[A];exact z2E h) r1
 refine⟨y,?_,⟨r2,by rw[s2];exact A,T,w2 (bz s j i) (by simp),fun a Y D=>?_⟩⟩
 ·unfold DevS.oC;have hf:bi (aV s.toNat).stable.length s j i=0:=by
   unfold bi;rw[if_neg (by simpa using h),if_neg (by omega),if_neg (by rw[c];simp)]
  rw[if_neg (by simpa using hf),M]
  simp only
  rw[if_neg (by simp),O]
 ·have hg:(aV s.toNat).ge a=70:=z41 (by omega) (by omega)
  have U:=o1 a (by omega) (by rw[c];exact D) (by omega)
  have V:=o2 a (by omega) (by rw[A];exact D) (by omega) (by
   intro J;simp only[kR,kS,lp,List.mem_nil_iff,or_false]at J;have:a=1+j:=J
   omega)
  exact V.1.trans (U.1.trans hg)
def ff (s j i:Int):TxS:=⟨s,j,i,List.replicate (rgB s j i).toNat false,List.replicate (rgB s j i).toNat false,[],false,false,false⟩
theorem z0N {y:DevS}{s j i:Int}{N:Nat}(h:rgE s j i=0)(c:Fresh y s j i N):(∀E,y.oH s j i E↔E=0)/\y.begins s j i=ff s j i/\(y.fr (1+j)).data.size<=1000:=by
 have T:=de h;have S:rgB s j i=s - (2+j+i):=(ir h).2.2.2.2;have O:(List.replicate (rgB s j i).toNat false).length=(rgB s j i).toNat:=m4 ..;have J:cf (gn (List.replicate (rgB s j i).toNat false))=dZ (List.replicate (rgB s j i).toNat false) (List.replicate (rgB s j i).toNat false).length:=z0F (kn _ _);have D:=zbr (us:=List.replicate (rgB s j i).toNat false) (by rw[O];omega)
 rw[<-J,O]at D;have I:i9 (y.fr (1+j)).data (rgB s j i).toNat:=by
  rw[c.map_.2];exact⟨by rw[J,ei],D.2⟩
 have M:bi y.stable.length s j i=0:=by
  unfold bi;rw[if_neg (by simpa using h),if_neg (by have:=c.size;omega),if_neg (by have:=c.size;omega)]
 refine⟨fun E=>⟨fun K=>?_,fun K=>?_⟩,?_,?_⟩
 ·rcases K with ⟨A,-⟩|⟨-,A,-⟩|⟨-,-,A,-⟩|⟨-,-,-,-,A⟩
  ·exact absurd M A
  ·exact absurd c.map_.1 A
  ·exact absurd ⟨I,by rw[c.map_.2]⟩ A
  ·exact A
 ·exact .inr (.inr (.inr ⟨M,c.map_.1,I,by rw[c.map_.2],K⟩))
 ·unfold DevS.begins ff;rw[c.map_.2];simp only
  rw[D.1]
 ·rw[c.map_.2];show (gn _).size<=1000
  rw[gQ];omega
open Go.Shelf
attribute [local go_sem] Oper.semAt_some
def AlE (s j i:Int)(us:List Bool)(near many:Int):Int:=
 if CkE s j i us.length=0 then (if near<0\/(us.length:Int) - 1<near\/many<0 then 7 else if (ew us near.toNat).length<many.toNat then 11 else 0)else CkE s j i us.length
def z7N (s j i:Int)(A:Option Addr)(c:Nat)(us:List Bool)(near many:Int)(w:World)(e:Ending)(w':World):Prop:=
 Zr w w'/\((AlE s j i us near many≠0/\e=.returned (.tuple #[.agg #[.int .i64 s,.int .i64 j,.int .i64 i,.slice A us.length c],.slice none 0 0,.int .i64 (AlE s j i us near many)])) \/
  (AlE s j i us near many=0/\∃g cap av cv,e=.returned (.tuple #[.agg #[.int .i64 s,.int .i64 j,.int .i64 i,.slice (some ⟨g,0,none⟩) us.length cap],.slice av (ay us near.toNat many.toNat).length cv,.int .i64 0]) /\
   w'.ownsRow w.heap.size 4 1 (.slice (some ⟨g,0,none⟩) us.length cap) us.length ((bg us (ay us near.toNat many.toNat) true).map .bool) /\
   w'.ownsRow w.heap.size 3 1 (.slice av (ay us near.toNat many.toNat).length cv) (ay us near.toNat many.toNat).length ((ay us near.toNat many.toNat).map (.int .i64))))
theorem z3y (s j i:Int)(A:Option Addr)(n c:Nat)(near many:Int)(w:World)(hn:n<=maxLen)(E:Int)
  (h:(CkE s j i n≠0/\E=CkE s j i n)\/(CkE s j i n=0/\(near<0\/(n:Int) - 1<near\/many<0)/\E=7)):
  Calls prog 95 #[.agg #[.int .i64 s,.int .i64 j,.int .i64 i,.slice A n c],.int .i64 near,.int .i64 many] w fun e w'=>
   e=.returned (.tuple #[.agg #[.int .i64 s,.int .i64 j,.int .i64 i,.slice A n c],.slice none 0 0,.int .i64 E])/\Zr w w':=by
 have ac:∀I:World,Zr w I->Blk I w.heap.size 47 #[.int .i64 s,.int .i64 j,.int .i64 i,.slice A n c]->Blk I (w.heap.size+1) 3 #[.int .i64 many]->Blk I (w.heap.size+2) 47 #[.int .i64 0,.int .i64 0,.int .i64 0,.slice none 0 0]->Blk I (w.heap.size+3) 53 #[.slice none 0 0]->True:=fun _ _ _ _ _ _=>trivial
 clear ac;have ab:=hn;unfold maxLen at ab;rcases h with ⟨J,rfl⟩|⟨J,hr,rfl⟩
 ·have Y:(CkE s j i n != 0)=true:=by simpa using J
  have HE:=kD J;clear J;go_enter func95,ntmps95
  go_wp2_with fail
  refine(g8 s j i A n c _ hn).mono ?_;rintro e I ⟨rfl,D⟩;have T:Blk I w.heap.size 47 #[.int .i64 s,.int .i64 j,.int .i64 i,.slice A n c]:=Blk.mD zbn D
  have S:Blk I (w.heap.size+2) 47 #[.int .i64 0,.int .i64 0,.int .i64 0,.slice none 0 0]:=Blk.mD zbn D
  have O:Blk I (w.heap.size+3) 53 #[.slice none 0 0]:=Blk.mD zbn D
  replace D:Zr w I:=z3D (dq D)
  have cS:=T.cells;have V:=S.cells;have fR:=S.free;have U:=O.cells;have fL:=O.free;go_wp2_with fail
  refine bodyPost_ret (v:=.tuple #[.agg #[.int .i64 s,.int .i64 j,.int .i64 i,.slice A n c],.slice none 0 0,.int .i64 (CkE s j i n)]) (by simp[results,results95,go_sem,V,U]) rfl ?_
  exact⟨rfl,zgr⟩
 ·have Y:(CkE s j i n != 0)=false:=by simpa using J
  have HE:=kD J;clear J;by_cases M:near<0\/(n:Int) - 1<near
  all_goals
   first|have hO:=eB M|have hO:=eo M
   have K:¬(near<0\/(n:Int) - 1<near)->decide (many<0)=true:=fun h'=>by simp;omega
   first|(have an:=K M;clear K)|clear K
   go_enter func95,ntmps95
   go_wp2_with fail
   refine(g8 s j i A n c _ hn).mono ?_;rintro e I ⟨rfl,D⟩;have T:Blk I w.heap.size 47 #[.int .i64 s,.int .i64 j,.int .i64 i,.slice A n c]:=Blk.mD zbn D
   have bM:Blk I (w.heap.size+1) 3 #[.int .i64 many]:=Blk.mD zbn D
   have S:Blk I (w.heap.size+2) 47 #[.int .i64 0,.int .i64 0,.int .i64 0,.slice none 0 0]:=Blk.mD zbn D
   have O:Blk I (w.heap.size+3) 53 #[.slice none 0 0]:=Blk.mD zbn D
   replace D:Zr w I:=z3D (dq D)
   have cS:=T.cells;have cM:=bM.cells;have V:=S.cells;have fR:=S.free;have U:=O.cells;have fL:=O.free;go_wp2_with (go_at_call 172;refine(dd _ _ _ _).mono ?_;rintro e w' ⟨rfl,rfl⟩);refine bodyPost_ret (v:=.tuple #[.agg #[.int .i64 s,.int .i64 j,.int .i64 i,.slice A n c],.slice none 0 0,.int .i64 7]) (by simp[results,results95,go_sem,V,U]) rfl ?_
   exact⟨rfl,zgr⟩
theorem z85 (s j i:Int)(A:Option Addr)(c:Nat)(us:List Bool)(near many:Int)(w:World)(hn:us.length<=1000)(hR:Reads w A (us.map .bool)):
  Calls prog 95 #[.agg #[.int .i64 s,.int .i64 j,.int .i64 i,.slice A us.length c],.int .i64 near,.int .i64 many] w (z7N s j i A c us near many w):=by
 by_cases D:CkE s j i us.length=0
 ·by_cases K:near<0\/(us.length:Int) - 1<near\/many<0
  ·have h7:AlE s j i us near many=7:=by simp only[AlE,if_pos D,if_pos K]
   exact(z3y s j i A us.length c near many w (by unfold maxLen;omega) 7 (.inr ⟨D,K,rfl⟩)).mono fun e Y ⟨I,J⟩=>⟨J,.inl ⟨by omega,by rw[I,h7]⟩⟩
  ·obtain⟨V,rfl⟩:=lz (show 0<=near by omega)
   obtain⟨U,rfl⟩:=lz (show 0<=many by omega)
   refine(z6m s j i A c V U us (by omega) hn w hR D).mono fun e Y ⟨J,h⟩=>⟨J,?_⟩
   rcases h with ⟨T,I⟩|⟨T,g,M,av,cv,I,h1,h2⟩
   ·have S:AlE s j i us V U=11:=by
     simp only[AlE,if_pos D,if_neg K];rw[if_pos (by simpa using T)]
    exact .inl ⟨by omega,by rw[I,S]⟩
   ·have O:AlE s j i us V U=0:=by
     simp only[AlE,if_pos D,if_neg K];rw[if_neg (by simpa using T)]
    exact .inr ⟨O,g,M,av,cv,by simpa using I,by simpa using h1,by simpa using h2⟩
 ·have hx:AlE s j i us near many=CkE s j i us.length:=by simp only[AlE,if_neg D]
  exact(z3y s j i A us.length c near many w (by unfold maxLen;omega) _ (.inl ⟨D,rfl⟩)).mono fun e Y ⟨I,J⟩=>⟨J,.inl ⟨by omega,by rw[I,hx]⟩⟩
def iv (n:Nat)(l:List Int)(k:Nat):Int:=if l.getD k 0<0\/(n:Int) - 1<l.getD k 0 then 7 else if l.getD k 0∈l.take k then 8 else 0
def LsE (n:Nat)(l:List Int):Nat->Int
 | 0=>0
 | k+1=>if LsE n l k=0 then iv n l k else LsE n l k
theorem iA {n:Nat}{l:List Int}{k:Nat}(h:LsE n l k=0):LsE n l (k+1)=iv n l k:=by
 show (if _ then _ else _)=_
 rw[if_pos h]
theorem gT {n:Nat}{l:List Int}{k m:Nat}(h:LsE n l k≠0)(A:k<=m):LsE n l m=LsE n l k:=by
 induction m with
 | zero=>
  have:k=0:=by omega
  subst this;rfl
 | succ m ih=>
  by_cases c:k=m+1
  ·subst c;rfl
  ·have:=ih (by omega)
   show (if LsE n l m=0 then _ else _)=_
   rw[if_neg (by rw[this];exact h),this]
theorem z7S {n:Nat}{l:List Int}{k m:Nat}(h:LsE n l m=0)(A:k<=m):LsE n l k=0:=by
 by_cases c:LsE n l k=0
 ·exact c
 ·exact absurd ((gT c A).symm.trans h) c
theorem zaZ {n:Nat}{l:List Int}{m:Nat}(h:LsE n l m=0){k:Nat}(A:k<m):0<=l.getD k 0/\l.getD k 0<n/\l.getD k 0∉l.take k:=by
 have c:=z7S h (show k+1<=m by omega)
 rw[iA (z7S h (show k<=m by omega))]at c
 unfold iv at c;split at c
 ·omega
 ·split at c
  ·omega
  ·exact⟨by omega,by omega,by assumption⟩
theorem z4y {n:Nat}{l:List Int}(h:LsE n l l.length=0):∀b∈l,0<=b/\b<(n:Int):=by
 intro b A;obtain⟨k,c,rfl⟩:=List.mem_iff_getElem.1 A;have:=zaZ h c
 rw[kN,kQ c]at this;exact⟨this.1,this.2.1⟩
theorem zci {n:Nat}{l:List Int}(h:∀k,(I:k<l.length)->0<=l[k]/\l[k]<(n:Int)/\l[k]∉l.take k){m:Nat}(J:m<=l.length):LsE n l m=0:=by
 induction m with
 | zero=>rfl
 | succ m ih=>
  rw[iA (ih (by omega))]
  obtain⟨A,D,c⟩:=h m (by omega)
  unfold iv;rw[kN,kQ (by omega),Option.getD_some,if_neg (by omega),if_neg c]
theorem iW (us:List Bool)(c:List Int)(v:Bool)(b:Nat)(M:b<us.length)(A:∀x∈c,0<=x):(bg us c v)[b]?=some (if ((b:Nat):Int)∈c then v else us[b]):=by
 induction c generalizing us with
 | nil=>simp[bg,M]
 | cons x c ih=>
  have S:=A x (by simp)
  have:=ih (us.set x.toNat v) (by simpa using M) (fun y O=>A y (by simp[O]))
  unfold bg at this |-;rw[List.foldl_cons,this];congr 1
  by_cases J:((b:Nat):Int)∈c
  ·rw[if_pos J,if_pos (by simp[J])]
  ·rw[if_neg J];by_cases I:x=(b:Int)
   ·subst I;simp
   ·have K:x.toNat≠b:=by omega
    have D:¬((b:Int)=x):=fun h=>I h.symm
    simp[K,D,J]
def metL (l:List Int)(k:Nat):List Bool:=bg (List.replicate 256 false) (l.take k) true
theorem z54 (l:List Int)(k:Nat):(metL l k).length=256:=by unfold metL;rw[cH,m4]
theorem zbA {l:List Int}{k n:Nat}(h:LsE n l k=0)(M:k<=l.length)(b:Nat)(I:b<256):(metL l k).getD b false=decide (((b:Nat):Int)∈l.take k):=by
 unfold metL;have A:∀x∈l.take k,0<=x:=by
  intro x K;obtain⟨p,J,rfl⟩:=List.mem_iff_getElem.1 K;have D:p<k:=by rw[kX]at J;omega
  have:=(zaZ h D).1
  rw[kN,kQ (by omega)]at this
  simpa using this
 rw[kN,iW _ _ _ b (by rw[m4];exact I) A,List.getElem_replicate,Option.getD_some]
 by_cases c:((b:Nat):Int)∈l.take k
 ·rw[if_pos c,decide_eq_true c]
 ·rw[if_neg c,decide_eq_false c]
theorem z8W {l:List Int}{k:Nat}(c:k<l.length):metL l (k+1)=(metL l k).set (l[k]).toNat true:=jp _ _ _ _ c
def eY (us:List Bool)(l:List Int)(u:Bool):Bool:=l.any fun b=>us.getD b.toNat false==u
def TnE (s j i:Int)(us:List Bool)(l:List Int)(u:Bool)(al:Int):Int:=
 if CkE s j i us.length=0 then (if LsE us.length l l.length=0 then (if eY us l u=true then al else 0)else LsE us.length l l.length)else CkE s j i us.length
def TnU (s j i:Int)(us:List Bool)(l:List Int)(u:Bool)(al:Int):List Bool:=if TnE s j i us l u al=0 then bg us l u else us
def TnPost (s j i:Int)(A:Option Addr)(c:Nat)(us:List Bool)(l:List Int)(u:Bool)(al:Int)(w:World)(e:Ending)(w':World):Prop:=
 Zr w w'/\((TnE s j i us l u al≠0/\e=.returned (.tuple #[.agg #[.int .i64 s,.int .i64 j,.int .i64 i,.slice A us.length c],.int .i64 (TnE s j i us l u al)])) \/
  (TnE s j i us l u al=0/\∃g cap,e=.returned (.tuple #[.agg #[.int .i64 s,.int .i64 j,.int .i64 i,.slice (some ⟨g,0,none⟩) us.length cap],.int .i64 0]) /\
   w'.ownsRow w.heap.size 4 1 (.slice (some ⟨g,0,none⟩) us.length cap) us.length ((bg us l u).map .bool)))
theorem TnPost.bad {s j i:Int}{us:List Bool}{l:List Int}{u:Bool}{al E:Int}{w w':World}{A:Option Addr}{c:Nat}(D:E≠0)(h:TnE s j i us l u al=E)(I:Zr w w'):
  TnPost s j i A c us l u al w (.returned (.tuple #[.agg #[.int .i64 s,.int .i64 j,.int .i64 i,.slice A us.length c],.int .i64 E])) w':=by
 subst h;exact⟨I,.inl ⟨D,rfl⟩⟩
theorem z9F (s j i:Int)(A:Option Addr)(c:Nat)(us:List Bool)(u:Bool)(S U x:Nat)(J:x<us.length)(T:us.length<=1000)(w:World)(O:Reads w A (us.map .bool))
  (K:Blk w S 47 #[.int .i64 s,.int .i64 j,.int .i64 i,.slice A us.length c]) (M:Blk w U 4 #[.bool u]):
  Calls prog 218 #[.int .i64 (x:Int),.pointer (some ⟨S,0,none⟩),.pointer (some ⟨U,0,none⟩)] w fun e V=>e=.returned (.bool (us.getD x false==u))/\Zr w V:=by
 obtain⟨b,off,rfl,hb,D⟩:=O.at_ (k:=x) (by simpa using J)
 rw[lf]at D;have I:us.getD x false=us[x]:=by simp[kN,J]
 rw[I];clear I;generalize us[x]=y at D;have Y:=K.cells;have cU:=M.cells;go_enter func218,ntmps218
 go_wp2
 go_quiet (fail)
 go_wp2
 go_ret
 exact⟨rfl,zgr⟩
def zbb (us:List Bool)(l:List Int)(u:Bool)(w:World)(e:Ending)(w':World):Prop:=
 Zr w w'/\∃r:Int,e=.returned (.int .i64 r)/\(decide (0<=r)=eY us l u)
theorem z2H (s j i:Int)(A Bl:Option Addr)(c cb:Nat)(us:List Bool)(l:List Int)(u:Bool)(S U:Nat)(T:∀b∈l,0<=b/\b<(us.length:Int))(ac:us.length<=1000)(hl:l.length<=1000)(w:World)(hR:Reads w A (us.map .bool))(hB:Reads w Bl (l.map (.int .i64)))
  (bS:Blk w S 47 #[.int .i64 s,.int .i64 j,.int .i64 i,.slice A us.length c]) (bU:Blk w U 4 #[.bool u]):
  Calls prog 198 #[.slice Bl l.length cb,.func (.func 218) #[] #[.pointer (some ⟨S,0,none⟩),.pointer (some ⟨U,0,none⟩)]] w (zbb us l u w):=by
 have Y:=kD T;clear T;go_enter func198,ntmps198
 go_wp2_with fail
 go_loopw [5,8] (fun _ q wr=>∃k:Nat,k<=l.length/\q=.int .i64 k/\eY us (l.take k) u=false/\Zr w wr) (fun _ q _=>l.length - (intOf q).toNat)
 case atStart=>exact⟨0,kP _,rfl,rfl,kF _ _⟩
 case round=>
  obtain⟨k,hk,rfl,J,D⟩:=hrel;by_cases K:k<l.length
  ·obtain⟨b,off,rfl,hb,hc⟩:=(hB.below D).at_ (k:=k) (by simpa using K)
   rw[lf]at hc;have hx:=Y.out l[k] (li K);have V:eY us (l.take (k+1)) u=(us.getD l[k].toNat false==u):=by
    rw[kZ K];unfold eY at J |-;rw[List.any_append,J];simp
   have M:(us.getD l[k].toNat false==u)=true->eY us l u=true:=fun h=>by
    unfold eY;exact List.any_eq_true.2 ⟨l[k],li K,h⟩
   have O:=kD V;have I:=kD M;clear V M J;generalize l[k]=x at hc hx O I;obtain⟨xn,rfl⟩:=lz hx.1;simp only[lO]at O I;go_wp2_with fail
   refine(z9F s j i A c us u S U xn (by omega) ac _ (hR.below D) (bS.mD D) (bU.mD D)).mono ?_
   rintro e w2 ⟨rfl,ab⟩;have B2:=D.trans (ab.mono D.size);cases hu:(us.getD xn false==u)
   ·go_wp2_with fail
    go_roundw
    case rel=>exact⟨k+1,by omega,by go_num,by rw[O.out];exact hu,B2⟩
    case measure=>simp[intOf];omega
   ·go_wp2_with fail
    go_ret
    exact⟨B2,_,rfl,by rw[I.out hu];simp⟩
  ·obtain rfl:k=l.length:=by omega
   rw[lj]at J;go_wp2_with fail
   go_ret
   exact⟨D,_,rfl,by rw[J];rfl⟩
theorem z0r (s j i:Int)(A D:Option Addr)(c M:Nat)(us:List Bool)(l:List Int)(u:Bool)(S U:Nat)(J:∀b∈l,0<=b/\b<(us.length:Int))(K:us.length<=1000)(hl:l.length<=1000)(w:World)(hR:Reads w A (us.map .bool))(hB:Reads w D (l.map (.int .i64)))
  (V:Blk w S 47 #[.int .i64 s,.int .i64 j,.int .i64 i,.slice A us.length c]) (Y:Blk w U 4 #[.bool u]):
  Calls prog 134 #[.slice D l.length M,.func (.func 218) #[] #[.pointer (some ⟨S,0,none⟩),.pointer (some ⟨U,0,none⟩)]] w (Zq (.bool (eY us l u)) w):=by
 go_enter func134,ntmps134
 go_wp2_with fail
 refine(z2H s j i A D c M us l u S U J K hl _ hR hB V Y).mono ?_;rintro e w2 ⟨I,r,rfl,O⟩;have T:=kD O;clear O;go_wp2_with fail
 go_ret
 exact⟨by rw[<-T.out];rfl,I⟩
end Go.Proofs.YtejmknghkbobnaaGreatDoor
