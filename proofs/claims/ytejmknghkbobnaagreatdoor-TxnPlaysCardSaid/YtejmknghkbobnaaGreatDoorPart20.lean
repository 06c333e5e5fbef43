import Derived.Test.YtejmknghkbobnaaGreatDoorPart00
import Derived.Test.YtejmknghkbobnaaGreatDoorPart09
import Derived.Test.YtejmknghkbobnaaGreatDoorPart16
import Derived.Test.YtejmknghkbobnaaGreatDoorPart18
import Derived.Test.YtejmknghkbobnaaGreatDoorPart19
import Derived.Test.YtejmknghkbobnaaGreatDoorPart06
import Derived.Test.YtejmknghkbobnaaGreatDoorPart10
set_option linter.unusedVariables false
set_option linter.unusedSimpArgs false
set_option maxRecDepth 100000
set_option maxHeartbeats 8000000
namespace Go.Proofs.YtejmknghkbobnaaGreatDoor
open Go.Proofs.Tryz
open Go.RowKit Go.Maps
theorem KeepEx.widen {B:Nat}{bs bs':List Nat}{w w':World}(h:KeepEx B bs w w')(hs:∀k,k∈bs→k∈bs'):KeepEx B bs' w w':=⟨h.os,h.tape,h.output,h.size,fun k hk hn=>h.block k hk (fun e=>hn (hs k e))⟩
theorem Reads.growF {w w':World}{F F':List Nat}{A:Option Addr}{xs:List Value}(h:Reads w A xs)(g:Grow w F w' F')(hn:∀a,A=some a→a.block∉F):Reads w' A xs:=by
 rcases h with h|⟨b,off,rfl,hl,hc⟩
 ·exact .inl h
 ·exact .inr ⟨b,off,rfl,zhR hl g.keep.size,fun k u hu=>(World.cell?_of_block (w:=w) (a:=⟨b,off+k,none⟩) (g.keep.block b hl (hn _ rfl))).trans (hc k u hu)⟩
theorem z7w {w:World}{base:Nat}{e:TypeId}{size:Nat}{v:Value}{n:Nat}{xs:List Value}(h:w.ownsRow base e size v n xs):∀q,v.ownBlock=some q→base≤q∧q<w.heap.size:=by
 intro q hq;rcases h.2 with ⟨rfl,-⟩|⟨g,cap,cur,rfl,hb,hk,-⟩
 ·cases hq
 ·cases hq;exact⟨hb,(zhW.1 hk).1⟩
structure SlI (w:World)(A:Option Addr)(c:Nat)(l:List Int):Prop where
 reads:Reads w A (l.map (.int .i64))
 nil:A=none→l=[]∧c=0
 cap:l.length≤c
theorem SlI.below {w w':World}{A:Option Addr}{c:Nat}{l:List Int}(h:SlI w A c l)(hb:Below w.heap.size w w'):SlI w' A c l:=⟨h.reads.below hb,h.nil,h.cap⟩
theorem SlI.of_own {w:World}{base:Nat}{v:Value}{l:List Int}(h:w.ownsRow base 3 1 v l.length (l.map (.int .i64))):∃A c,v=.slice A l.length c∧SlI w A c l:=by
 rcases h.2 with ⟨rfl,h0⟩|⟨g,cap,cur,rfl,-,-,hn,-⟩
 ·obtain rfl:=List.length_eq_zero_iff.1 h0;exact⟨none,0,rfl,.inl rfl,fun _=>⟨rfl,rfl⟩,zhT _⟩
 ·exact⟨_,cap,rfl,Reads.of_own h,(fun e=>by cases e),hn⟩
structure TD (w:World)(T:Nat)(F:List Nat)(D:Nat)(y:TxS)(B:List Nat)(x:DevS):Prop where
 tx:TxAt w T F D y
 dev:DevAt w D B x
 dis:∀b∈F,b∉B
theorem TD.below {w w':World}{T:Nat}{F:List Nat}{D:Nat}{y:TxS}{B:List Nat}{x:DevS}(h:TD w T F D y B x)(hb:Below w.heap.size w w'):TD w' T F D y B x:=⟨h.tx.below hb,h.dev.below hb,h.dis⟩
theorem TD.F0 {w:World}{T:Nat}{F:List Nat}{D:Nat}{y:TxS}{B:List Nat}{x:DevS}(h:TD w T F D y B x):0∉F:=fun hm=>by have:=(h.tx.lt 0 hm).1;omega
theorem TD.grow {w w':World}{T:Nat}{F F':List Nat}{D:Nat}{y y':TxS}{B:List Nat}{x:DevS}(h:TD w T F D y B x)(ht:TxAt w' T F' D y')(g:Grow w F w' F'):TD w' T F' D y' B x:=
 ⟨ht,h.dev.grow g h.dis h.F0,fun b hb hm=>by
  rcases g.new b hb with hf|hf
  ·exact h.dis b hf hm
  ·have:=(h.dev.lt b hm).2;omega⟩
theorem TD.keep {w w':World}{T:Nat}{F:List Nat}{D:Nat}{y:TxS}{B:List Nat}{x:DevS}(h:TD w T F D y B x)(hk:∀b,b∈F∨b∈B∨b=0→w'.heap[b]?=w.heap[b]?)(hs:w.heap.size≤w'.heap.size):TD w' T F D y B x:=
 ⟨h.tx.frame (fun b hb=>hk b (.inl hb)) hs,h.dev.frame (fun b hb=>hk b (.inr hb)) hs,h.dis⟩
structure GrowN (n0:Nat)(w:World)(F:List Nat)(w':World)(F':List Nat):Prop where
 keep:KeepEx n0 F w w'
 new:∀b∈F',b∈F∨n0≤b
theorem zcB {n:Nat}(hn:64≤n∧n≤256){a:Int}(ha:0≤a∧a<n):(z1a n).ge a=70:=by
 have hr:(z1a n).reads a=zsec:=by
  show (List.replicate n zsec).getD a.toNat []=zsec
  rw[zhw,List.getElem?_replicate,if_pos (by omega)];rfl
 show getE false (List.replicate n zsec).length a ((z1a n).reads a)=70
 unfold getE;rw[if_pos (show Go.Proofs.YtejmknghkbobnaaGreatDoor.atE _ _ a=0 from by unfold Go.Proofs.YtejmknghkbobnaaGreatDoor.atE;rw[if_neg (by simp),if_neg (by rw[zhG];omega)]),hr]
 unfold z1g;rw[if_neg (by omega),if_pos rfl]
def yA:TxS:=⟨64,8,40,List.replicate 14 false,List.replicate 14 false,[],false,false,false⟩
theorem sameFr.trans {x y z:DevS}{b:Int}(h:sameFr x y b)(k:sameFr y z b):sameFr x z b:=⟨k.1.trans h.1,k.2.trans h.2⟩
theorem sameFr.refl (x:DevS)(b:Int):sameFr x x b:=⟨rfl,rfl⟩
theorem z48 {L:List (Int × Fr)}(hn:(L.map (·.1)).Nodup):∀(k:Nat) {x:DevS} {n:Nat},(∀p∈L,0≤p.1∧p.1<x.stable.length∧1≤p.2.kind∧p.2.kind≤255∧p.2.data.size≤112∧0≤p.2.seq∧p.2.seq<4294967296)→k≤L.length→x.Runs (n+k) →
  (x.puts L k).1=0∧(x.puts L k).2.Runs n∧(x.puts L k).2.stable.length=x.stable.length∧(∀p∈L.take k,(x.puts L k).2.ge p.1=0∧(x.puts L k).2.fr p.1=p.2)∧(∀b:Int,0≤b→b<x.stable.length→b∉(L.take k).map (·.1)→sameFr x (x.puts L k).2 b):=by
 intro k;induction k with
 | zero=>intro x n _ _ h;exact⟨rfl,h,rfl,fun p hp=>by simp at hp,fun b _ _ _=>sameFr.refl _ _⟩
 | succ k ih=>
  intro x n hv hk h;obtain⟨i1,i2,i3,i4,i5⟩:=ih (n:=n+1) hv (by omega) (h.mono (by omega))
  have hkl:k<L.length:=by omega
  have hgd:L.getD k default=L[k]:=by rw[zhw,zhx hkl];rfl
  have hp:=hv L[k] (zhQ hkl);have e:x.puts L (k+1)=(x.puts L k).2.put L[k].1 L[k].2.kind L[k].2.seq L[k].2.data:=by
   show (if (x.puts L k).1≠0 then x.puts L k else _)=_
   rw[if_neg (by simpa using i1),hgd]
  obtain⟨j1,j2⟩:=z5C i2 (a:=L[k].1) (kind:=L[k].2.kind) (seq:=L[k].2.seq) (s:=L[k].2.data) (by rw[i3];exact⟨hp.1,hp.2.1⟩) ⟨hp.2.2.1,hp.2.2.2.1⟩ hp.2.2.2.2.1 hp.2.2.2.2.2
  have htk:L.take (k+1)=L.take k++[L[k]]:=by rw[zhE hkl]
  have hnew:L[k].1∉(L.take k).map (·.1):=by
   have h2:(L.map (·.1)).take (k+1)=(L.take k).map (·.1)++[L[k].1]:=by rw[←List.map_take,htk,List.map_append];rfl
   have h3:((L.take k).map (·.1)++[L[k].1]).Nodup:=by rw[←h2];exact hn.sublist (List.take_sublist _ _)
   intro hm;exact(List.nodup_append.1 h3).2.2 _ hm _ (by simp) rfl
  rw[e];refine⟨j1,j2.runs,j2.size.trans i3,fun p hpm=>?_,fun b hb1 hb2 hbn=>?_⟩
  ·rw[htk]at hpm;rcases zi0.1 hpm with hpm|hpm
   ·have h4:=i4 p hpm;have h5:=hv p (List.mem_of_mem_take hpm);have h6:=j2.old p.1 h5.1 (by rw[i3];exact h5.2.1) (fun e2=>hnew (by rw[←e2];exact List.mem_map_of_mem hpm))
    exact⟨h6.1.trans h4.1,h6.2.trans h4.2⟩
   ·obtain rfl:p=L[k]:=by simpa using hpm
    exact j2.new
  ·rw[htk,List.map_append]at hbn;have h5:=i5 b hb1 hb2 (fun hm=>hbn (zhH _ hm))
   exact h5.trans (j2.old b hb1 (by rw[i3];exact hb2) (fun e2=>hbn (by rw[e2];simp)))
theorem z4w {x:DevS}{n:Nat}(h:x.Runs n):DevS.done (0,x)=(0,x.flushed):=by
 unfold DevS.done DevS.flush;rw[if_neg (by simp)]
 simp[z5c,h.on]
structure HeadAt (x:DevS)(F q:Int):Prop where
 ge:x.ge F=0
 fr:x.fr F=⟨1,q,⟨#[]⟩⟩
theorem HeadAt.head {x:DevS}{F Z q:Int}(h:HeadAt x F q)(hc:z0p F Z=0):x.head F Z=(0,q):=by
 unfold DevS.head;rw[if_neg (by simpa using hc),if_neg (by rw[h.ge];simp),if_neg (by rw[h.fr];simp),h.fr]
theorem HeadAt.same {x y:DevS}{F q:Int}(h:HeadAt x F q)(hs:sameFr x y F):HeadAt y F q:=⟨hs.1.trans h.ge,hs.2.trans h.fr⟩
theorem z9y {a:Int}(ha:0≤a):∀(k:Nat) {x:DevS} {n:Nat},a+k≤x.stable.length→x.Runs (n+k) →
  (x.blanks a k).1=0∧(x.blanks a k).2.Runs n∧(x.blanks a k).2.stable.length=x.stable.length∧(∀b:Int,a≤b→b<a+k→(x.blanks a k).2.ge b=70)∧(∀b:Int,0≤b→b<x.stable.length→(b<a∨a+k≤b)→sameFr x (x.blanks a k).2 b):=by
 intro k;induction k with
 | zero=>intro x n _ h;exact⟨rfl,h,rfl,fun b h1 h2=>by omega,fun b _ _ _=>sameFr.refl _ _⟩
 | succ k ih=>
  intro x n hk h;obtain⟨i1,i2,i3,i4,i5⟩:=ih (n:=n+1) (by omega) (h.mono (by omega))
  have e:x.blanks a (k+1)=(x.blanks a k).2.write (a+k) zsec:=by
   show (if (x.blanks a k).1≠0 then x.blanks a k else _)=_
   rw[if_neg (by simpa using i1)]
  obtain⟨j1,j2⟩:=zcv i2 (a:=a+k) (by omega)
  rw[e];refine⟨j1,j2.runs,j2.size.trans i3,fun b h1 h2=>?_,fun b hb1 hb2 hb3=>?_⟩
  ·by_cases hb:b=a+k
   ·rw[hb];exact j2.new.1
   ·exact(j2.old b (by omega) (by omega) hb).1.trans (i4 b h1 (by omega))
  ·exact(i5 b hb1 hb2 (by omega)).trans (j2.old b hb1 (by omega) (by omega))
theorem z1e {F Z:Int}(h:z0p F Z=0):8≤Z∧Z≤96∧0≤F∧F≤256 - Z:=by
 unfold z0p at h;split at h
 ·cases h
 ·omega
theorem zed {x:DevS}{F Z:Int}{n:Nat}(hc:z0p F Z=0)(hF:F+Z≤x.stable.length)(h:x.Runs (n+1+(Z - 1).toNat)):
  ∃y,x.jfmt F Z=(0,y)∧y.Runs n∧y.stable.length=x.stable.length∧HeadAt y F 0∧(∀b:Int,F+1≤b→b<F+Z→y.ge b=70)∧(∀b:Int,0≤b→b<x.stable.length→(b<F∨F+Z≤b)→sameFr x y b):=by
 have hz:=z1e hc;obtain⟨j1,j2⟩:=z5C (n:=n+(Z - 1).toNat) (h.mono (by omega)) (a:=F) (kind:=1) (seq:=0) (s:=⟨#[]⟩) (by omega) (by omega) (zi9 _) (by omega)
 obtain⟨i1,i2,i3,i4,i5⟩:=z9y (a:=F+1) (by omega) (Z - 1).toNat (n:=n) (by rw[j2.size];omega) j2.runs
 have hz1:F+1+((Z - 1).toNat:Int)=F+Z:=by omega
 rw[hz1]at i4 i5;obtain⟨f1,f2,f3⟩:=z3C i2;refine⟨((x.put F 1 0 ⟨#[]⟩).2.blanks (F+1) (Z - 1).toNat).2.flushed,?_,f1,f2.trans (i3.trans j2.size),?_,fun b h1 h2=>?_,fun b h1 h2 h3=>?_⟩
 ·unfold DevS.jfmt DevS.flush;rw[if_neg (by simpa using hc),if_neg (by simpa using j1),if_neg (by simpa using i1),i2.on]
  rfl
 ·have hF2:F<(x.put F 1 0 ⟨#[]⟩).2.stable.length:=by rw[j2.size];omega
  have h0:HeadAt (x.put F 1 0 ⟨#[]⟩).2 F 0:=⟨j2.new.1,j2.new.2⟩;exact(h0.same (i5 F (by omega) hF2 (by omega))).same (f3 F (by omega) (by rw[i3];exact hF2))
 ·exact(f3 b (by omega) (by rw[i3,j2.size];omega)).1.trans (i4 b h1 h2)
 ·exact((j2.old b h1 h2 (by omega)).trans (i5 b h1 (by rw[j2.size];exact h2) (by omega))).trans (f3 b h1 (by rw[i3,j2.size];exact h2))
theorem zaa {n F Z:Int}{l:List Rec}:∀ {m:Nat},z0N n F Z l m=0→∀k,k<m→recE n F Z (l.take k) (l.getD k default)=0:=by
 intro m;induction m with
 | zero=>intro _ k hk;omega
 | succ m ih=>
  intro h k hk;unfold z0N at h;by_cases h1:z0N n F Z l m=0
  ·rw[if_neg (by simpa using h1)]at h
   by_cases e:k=m
   ·rw[e];exact h
   ·exact ih h1 k (by omega)
  ·rw[if_pos (by simpa using h1)]at h;exact absurd h h1
theorem zby {n F Z:Int}{l:List Rec}{r:Rec}(h:recE n F Z l r=0):¬(F≤r.at_∧r.at_<F+Z)∧0≤r.at_∧r.at_<n∧1≤r.kind∧r.kind≤255∧r.data.size≤96∧r.at_∉l.map (·.at_):=by
 unfold recE at h;by_cases h1:F≤r.at_∧r.at_<F+Z
 ·rw[if_pos h1]at h;cases h
 ·rw[if_neg h1]at h;by_cases h2:r.at_<0∨n≤r.at_∨r.kind<1∨255<r.kind
  ·rw[if_pos h2]at h;cases h
  ·rw[if_neg h2]at h;by_cases h3:96<r.data.size
   ·rw[if_pos h3]at h;cases h
   ·rw[if_neg h3]at h;by_cases h4:r.at_∈l.map (·.at_)
    ·rw[if_pos h4]at h;cases h
    ·exact⟨h1,by omega,by omega,by omega,by omega,by omega,h4⟩
structure ValidL (n F Z:Int)(l:List Rec):Prop where
 len:(l.length:Int)≤z0Z Z
 rec_:∀k,(hk:k<l.length)→¬(F≤l[k].at_∧l[k].at_<F+Z)∧0≤l[k].at_∧l[k].at_<n∧1≤l[k].kind∧l[k].kind≤255∧l[k].data.size≤96∧l[k].at_∉(l.take k).map (·.at_)
theorem zfL {n F Z:Int}{l:List Rec}(h:z0X n F Z l=0):ValidL n F Z l:=by
 unfold z0X at h;by_cases h1:z0Z Z<l.length
 ·rw[if_pos h1]at h;cases h
 ·rw[if_neg h1]at h;refine⟨by omega,fun k hk=>?_⟩
  have h2:=zaa h k hk;have e:l.getD k default=l[k]:=by rw[zhw,zhx hk];rfl
  rw[e]at h2;exact zby h2
theorem z4e {α:Type}{l:List α}(h:∀k,(hk:k<l.length)→l[k]∉l.take k):l.Nodup:=by
 rw[List.nodup_iff_pairwise_ne];rw[List.pairwise_iff_getElem];intro i j hi hj hij e;apply h j hj
 rw[←e];exact List.mem_take_iff_getElem.2 ⟨i,by omega,rfl⟩
theorem ValidL.nodup {n F Z:Int}{l:List Rec}(h:ValidL n F Z l):(l.map (·.at_)).Nodup:=z4e fun k hk=>by
 have hk':k<l.length:=by simpa using hk
 have:=(h.rec_ k hk').2.2.2.2.2.2
 rw[←List.map_take];simpa using this
theorem z4x {l:List Int}(h:z0V l):strL (strOfNums l)=l:=by
 unfold strL strOfNums;simp only[List.map_map];conv=>rhs;rw[←List.map_id l]
 apply List.map_congr_left
 intro x hx;have:=h x hx
 simp only[Function.comp,UInt8.toNat_ofNat',id];omega
theorem zaT (a b:ByteArray):strL ⟨a.data++b.data⟩=strL a++strL b:=by unfold strL;simp
theorem zgg:∀a:Fin 257,bits .or .i64 ((a.val:Int) % 256) ((a.val:Int) / 256 % 256*256)=a.val:=by decide +kernel
theorem zff {r:Rec}(ha:0≤r.at_∧r.at_<257)(hk:0≤r.kind∧r.kind<256):strL (logS r)=[r.at_ % 256,r.at_ / 256 % 256,r.kind]++strL r.data:=by
 unfold logS;have e1:strL (⟨(z0k r.at_).data++(bstr [r.kind % 256]).data++r.data.data⟩:ByteArray)=strL ⟨(z0k r.at_).data++(bstr [r.kind % 256]).data⟩++strL r.data:=zaT ⟨(z0k r.at_).data++(bstr [r.kind % 256]).data⟩ r.data;rw[e1,zaT];have e2:strL (z0k r.at_)=[r.at_ % 256,r.at_ / 256 % 256]:=z4x (fun x hx=>by
  simp only[List.mem_cons,List.mem_nil_iff,or_false]at hx;rcases hx with rfl|rfl<;>omega)
 have e3:strL (bstr [r.kind % 256])=[r.kind % 256]:=z4x (fun x hx=>by
  simp only[List.mem_cons,List.mem_nil_iff,or_false]at hx;rcases hx with rfl;omega)
 rw[e2,e3,Int.emod_eq_of_lt hk.1 hk.2];rfl
theorem z4E {r:Rec}:(logS r).size=3+r.data.size:=by
 unfold logS z0k bstr;show ((strOfNums [r.at_ % 256,r.at_ / 256 % 256]).data++(strOfNums [r.kind % 256]).data++r.data.data).size=_
 rw[Array.size_append,Array.size_append];show (strOfNums [r.at_ % 256,r.at_ / 256 % 256]).size+(strOfNums [r.kind % 256]).size+r.data.size=_
 rw[strOfNums_size,strOfNums_size];simp
theorem zdz {r:Rec}{q:Int}(ha:0≤r.at_∧r.at_<257)(hk:0≤r.kind∧r.kind<256)(hd:r.data.size≤96):z0i ⟨2,q,logS r⟩=r:=by
 unfold z0i;rw[if_neg (by simp only[z4E];omega)]
 simp only[zff ha hk];have e1:bits .or .i64 (([r.at_ % 256,r.at_ / 256 % 256,r.kind]++strL r.data).getD 0 0) (([r.at_ % 256,r.at_ / 256 % 256,r.kind]++strL r.data).getD 1 0*256)=r.at_:=by
  show bits .or .i64 (r.at_ % 256) (r.at_ / 256 % 256*256)=r.at_
  have h:=zgg ⟨r.at_.toNat,by omega⟩
  simp only[Int.toNat_of_nonneg ha.1]at h;exact h
 have e2:([r.at_ % 256,r.at_ / 256 % 256,r.kind]++strL r.data).getD 2 0=r.kind:=rfl;have e3:(logS r).extract 3 (logS r).size=r.data:=by
  have h3:((z0k r.at_).data++(bstr [r.kind % 256]).data).size=3:=by
   rw[Array.size_append];show (strOfNums _).size+(strOfNums _).size=3
   rw[strOfNums_size,strOfNums_size];rfl
  apply ByteArray.ext
  rw[ByteArray.data_extract];unfold logS;show ((z0k r.at_).data++(bstr [r.kind % 256]).data++r.data.data).extract 3 _=r.data.data
  rw[Array.extract_append,h3];have e4:((z0k r.at_).data++(bstr [r.kind % 256]).data).extract 3 (ByteArray.size ⟨(z0k r.at_).data++(bstr [r.kind % 256]).data++r.data.data⟩)=#[]:=by
   apply Array.eq_empty_of_size_eq_zero
   rw[Array.size_extract,h3];omega
  rw[e4];have e5:(ByteArray.size ⟨(z0k r.at_).data++(bstr [r.kind % 256]).data++r.data.data⟩) - 3=r.data.data.size:=by
   show ((z0k r.at_).data++(bstr [r.kind % 256]).data++r.data.data).size - 3=_
   rw[Array.size_append,h3];omega
  rw[e5,Nat.sub_self];simp
 rw[e1,e2,e3]
theorem z3J (q:Int):0≤next q∧next q<4294967296:=by unfold next;omega
theorem z4q {F q:Int}{l:List Rec}{k:Nat}(hk:k<l.length):(logL F q l)[k]?=some (F+1+k,⟨2,q,logS l[k]⟩):=by
 unfold logL;rw[zi1,List.getElem?_zipIdx,zhx hk];simp
theorem z8b {F q:Int}{l:List Rec}{p:Int × Fr}(h:p∈logL F q l):∃k,∃hk:k<l.length,p=(F+1+k,⟨2,q,logS l[k]⟩):=by
 obtain⟨k,hk,rfl⟩:=List.mem_iff_getElem.1 h;have hk':k<l.length:=by rw[z1Q]at hk;exact hk
 refine⟨k,hk',?_⟩
 have:=z4q (F:=F) (q:=q) hk'
 rw[zhx hk]at this;exact Option.some.inj this
theorem zc8 (F q:Int)(l:List Rec):((logL F q l).map (·.1)).Nodup:=by
 refine z4e fun k hk hm=>?_
 have hk':k<l.length:=by simpa[z1Q]using hk
 rw[←List.map_take]at hm;obtain⟨p,hp,he⟩:=List.mem_map.1 hm;obtain⟨i,hi,hpi⟩:=List.mem_take_iff_getElem.1 hp;have hi2:i<l.length:=by have:=hi;rw[z1Q]at this;omega
 have h1:=z4q (F:=F) (q:=q) hi2;have h2:=z4q (F:=F) (q:=q) hk';rw[zhx (by rw[z1Q];exact hi2),hpi]at h1
 rw[List.getElem_map]at he;rw[zhx (by rw[z1Q];exact hk')]at h2
 rw[Option.some.inj h1,Option.some.inj h2]at he;have hik:i<k:=by omega
 simp only at he
 omega
structure LogAt (z:DevS)(F q:Int)(l:List Rec):Prop where
 recs:∀k,(hk:k<l.length)→z.ge (F+1+k)=0∧z.fr (F+1+k)=⟨2,next q,logS l[k]⟩
 mark:z.ge (F+1+l.length)=0∧z.fr (F+1+l.length)=⟨3,next q,z0k l.length⟩
theorem zeZ {x:DevS}{F Z q:Int}{n:Nat}{l:List Rec}(hc:z0p F Z=0)(hF:F+Z≤x.stable.length)(hh:HeadAt x F q)(hv:ValidL x.stable.length F Z l)(hv0:z0X x.stable.length F Z l=0)(h:x.Runs (n+1+l.length)):
  ∃z,x.log F Z l=(0,z)∧z.Runs n∧z.stable.length=x.stable.length∧HeadAt z F q∧LogAt z F q l∧(∀b:Int,0≤b→b<x.stable.length→(b<F∨F+Z≤b)→sameFr x z b):=by
 have hz:=z1e hc;have hm:(l.length:Int)≤Z - 2:=by have:=hv.len;unfold z0Z at this;omega
 have hnx:=z3J q;obtain⟨i1,i2,i3,i4,i5⟩:=z48 (zc8 F (next q) l) l.length (x:=x) (n:=n+1) (fun p hp=>by
  obtain⟨k,hk,rfl⟩:=z8b hp;have h9:=hv.rec_ k hk;refine⟨by show 0≤F+1+(k:Int);omega,by show F+1+(k:Int)<_;omega,by show (1:Int)≤2;omega,by show (2:Int)≤255;omega,?_,hnx.1,hnx.2⟩
  show (logS l[k]).size≤112
  rw[z4E];omega) (by rw[z1Q];exact zhT _) h
 have htk:(logL F (next q) l).take l.length=logL F (next q) l:=List.take_of_length_le (by rw[z1Q];exact zhT _)
 rw[htk]at i4 i5;have hsz2:(z0k l.length).size≤112:=by unfold z0k bstr;rw[strOfNums_size];simp
 obtain⟨j1,j2⟩:=z5C i2 (a:=F+1+l.length) (kind:=3) (seq:=next q) (s:=z0k l.length) (by rw[i3];omega) (by omega) hsz2 hnx
 obtain⟨f1,f2,f3⟩:=z3C j2.runs;have hnin:∀b:Int,(b<F+1∨F+1+l.length≤b)→b∉(logL F (next q) l).map (·.1):=fun b hb hm=>by
  obtain⟨p,hp,he⟩:=List.mem_map.1 hm;obtain⟨k,hk,rfl⟩:=z8b hp;simp only at he;omega
 have hall:∀b:Int,0≤b→b<x.stable.length→b≠F+1+l.length→sameFr (x.puts (logL F (next q) l) l.length).2 ((x.puts (logL F (next q) l) l.length).2.put (F+1+l.length) 3 (next q) (z0k l.length)).2.flushed b:=fun b h1 h2 h3=>
  (j2.old b h1 (by rw[i3];exact h2) h3).trans (f3 b h1 (by rw[j2.size,i3];exact h2))
 refine⟨((x.puts (logL F (next q) l) l.length).2.put (F+1+l.length) 3 (next q) (z0k l.length)).2.flushed,?_,f1,f2.trans (j2.size.trans i3),?_,⟨fun k hk=>?_,?_⟩,fun b h1 h2 h3=>?_⟩
 ·unfold DevS.log;rw[hh.head hc];simp only
  rw[if_neg (by simp),if_neg (by simpa using hv0),if_neg (by simpa using i1)]
  rw[show (x.puts (logL F (next q) l) l.length).2.put (F+1+l.length) 3 (next q) (z0k l.length)=(0,((x.puts (logL F (next q) l) l.length).2.put (F+1+l.length) 3 (next q) (z0k l.length)).2)from Prod.ext j1 rfl]
  exact z4w j2.runs
 ·exact(hh.same (i5 F (by omega) (by omega) (hnin F (by omega)))).same (hall F (by omega) (by omega) (by omega))
 ·have h4:=i4 (F+1+k,⟨2,next q,logS l[k]⟩) (List.mem_of_getElem? (z4q hk));have h5:=hall (F+1+k) (by omega) (by omega) (by omega)
  exact⟨h5.1.trans h4.1,h5.2.trans h4.2⟩
 ·have h5:=f3 (F+1+l.length) (by omega) (by rw[j2.size,i3];omega)
  exact⟨h5.1.trans j2.new.1,h5.2.trans j2.new.2⟩
 ·exact(i5 b h1 h2 (hnin b (by omega))).trans (hall b h1 h2 (by omega))
theorem z7L {xs:List Int}(hb:z0V xs)(k:Nat):0≤xs.getD k 0∧xs.getD k 0<256:=by
 rw[zhw];cases e:xs[k]? with
 | none=>exact(by decide:(0:Int)≤0∧(0:Int)<256)
 | some x=>exact hb x (List.mem_of_getElem? e)
theorem z2T {xs:List Int}(hb:z0V xs)(a:Nat){j:Nat}(hj:j<4):nb (z0o xs a) j=xs.getD (a+j) 0:=by
 have h0:=z7L hb (a+0);have h1:=z7L hb (a+1);have h2:=z7L hb (a+2);have h3:=z7L hb (a+3);obtain⟨x0,e0⟩:∃x:Nat,xs.getD (a+0) 0=x:=⟨_,(Int.toNat_of_nonneg h0.1).symm⟩;obtain⟨x1,e1⟩:∃x:Nat,xs.getD (a+1) 0=x:=⟨_,(Int.toNat_of_nonneg h1.1).symm⟩;obtain⟨x2,e2⟩:∃x:Nat,xs.getD (a+2) 0=x:=⟨_,(Int.toNat_of_nonneg h2.1).symm⟩;obtain⟨x3,e3⟩:∃x:Nat,xs.getD (a+3) 0=x:=⟨_,(Int.toNat_of_nonneg h3.1).symm⟩;rw[e0]at h0;rw[e1]at h1;rw[e2]at h2;rw[e3]at h3;have hn:∀j,j<4→xs.getD (a+j) 0=nb ((x0+256*x1+65536*x2+16777216*x3:Nat):Int) j:=fun j hj=>by
  have h4:j=0∨j=1∨j=2∨j=3:=by omega
  unfold nb;rcases h4 with rfl|rfl|rfl|rfl
  ·rw[e0];show (x0:Int)=_ / 1 % 256;omega
  ·rw[e1];show (x1:Int)=_ / 256 % 256;omega
  ·rw[e2];show (x2:Int)=_ / 65536 % 256;omega
  ·rw[e3];show (x3:Int)=_ / 16777216 % 256;omega
 have hr:=z7Q xs a (x0+256*x1+65536*x2+16777216*x3) 4 (by omega) hn
 rw[hn j hj];unfold z0o;rw[hr];have:(x0+256*x1+65536*x2+16777216*x3) % 2 ^ (8*4)=x0+256*x1+65536*x2+16777216*x3:=Nat.mod_eq_of_lt (by show _<4294967296;omega)
 rw[this]
theorem z8G {l:List Int}{k m:Nat}(h:k<m):(l.take m).getD k 0=l.getD k 0:=by
 rw[zhw,zhw,List.getElem?_take,if_pos h]
theorem z35 (xs:List Int)(a:Nat):0≤z0o xs a∧z0o xs a<4294967296:=z2I xs a 4
theorem zaC {xs ys:List Int}(hl:xs.length=ys.length)(h:∀j,j<xs.length→xs.getD j 0=ys.getD j 0):xs=ys:=
 List.ext_getElem hl fun j h1 h2=>by
  have:=h j h1
  rw[zhw,zhw,zhx h1,zhx h2]at this;exact this
theorem z4X {a:Int}{xs:List Int}(h:z1g a xs=0):(0≤a∧a<256)∧xs≠zsec∧z0o xs 124=crc (xs.take 124)∧xs.getD 0 0=76∧xs.getD 1 0≠0∧xs.getD 2 0≤112∧xs.getD 3 0=0∧z0o xs 120<256∧z5W xs=true∧z0o xs 120=a:=by
 unfold z1g at h;split at h
 ·cases h
 split at h
 ·cases h
 split at h
 ·cases h
 split at h
 ·cases h
 split at h
 ·cases h
 split at h
 ·cases h
 rename_i h1 h2 h3 h4 h5 h6
 exact⟨by omega,h2,by simpa using h3,by omega,by omega,by omega,by omega,by omega,by simpa using h5,by simpa using h6⟩
theorem zcL {a:Int}{xs:List Int}(hl:xs.length=128)(hb:z0V xs)(h:z1g a xs=0):
  z11 a (xs.getD 1 0) (z0t xs).size=0∧z15 a (xs.getD 1 0) (z0o xs 4) (z0t xs)=xs∧(z0t xs).size=(xs.getD 2 0).toNat:=by
 obtain⟨ha,-,hsum,h0,h1,h2,h3,-,hpad,hpl⟩:=z4X h;have b1:=z7L hb 1;have b2:=z7L hb 2;have hsz:(z0t xs).size=(xs.getD 2 0).toNat:=by
  unfold z0t;rw[strOfNums_size,zi7,zi6];omega
 have hE:z11 a (xs.getD 1 0) (z0t xs).size=0:=by
  unfold z11;rw[hsz,if_neg (by omega),if_neg (by omega)]
 have hs112:(z0t xs).size≤112:=by omega
 have hq:=z35 xs 4;have hSb:=z2x (a:=a) (kind:=xs.getD 1 0) (z0o xs 4) hE;have hSl:=z1n a (xs.getD 1 0) (z0o xs 4) (z0t xs) hs112;have hstr:strL (z0t xs)=(xs.take (8+(xs.getD 2 0).toNat)).drop 8:=by
  unfold z0t;exact z4x fun x hx=>hb x (List.mem_of_mem_take (List.mem_of_mem_drop hx))
 obtain⟨n,hn⟩:∃n,n=(xs.getD 2 0).toNat:=⟨_,rfl⟩;rw[←hn]at hstr;have hpn:∀j,8+n≤j→j<120→xs.getD j 0=0:=fun j h1 h2=>by
  unfold z5W at hpad;rw[←hn,List.all_eq_true]at hpad;have hj:j<xs.length:=by omega
  have e:xs.getD j 0=xs[j]:=by rw[zhw,zhx hj];rfl
  have hm:xs[j]∈(xs.take 120).drop (8+n):=by
   refine List.mem_iff_getElem?.2 ⟨j - (8+n),?_⟩;rw[List.getElem?_drop,List.getElem?_take,show 8+n+(j - (8+n))=j by omega,if_pos h2,zhx hj]
  have:=hpad _ hm
  rw[e];simpa using this
 refine⟨hE,?_,hsz⟩
 have hpre:∀j,j<124→(z15 a (xs.getD 1 0) (z0o xs 4) (z0t xs)).getD j 0=xs.getD j 0:=fun j hj=>by
  by_cases c1:120≤j
  ·obtain⟨i,rfl⟩:∃i,j=120+i:=⟨j - 120,by omega⟩
   rw[←z2T hSb 120 (by omega),z3U hs112 (by omega),←z2T hb 120 (by omega),hpl]
  by_cases c2:4≤j∧j<8
  ·obtain⟨i,rfl⟩:∃i,j=4+i:=⟨j - 4,by omega⟩
   rw[←z2T hSb 4 (by omega),z8o hs112 hq,←z2T hb 4 (by omega)]
  by_cases c3:j<4
  ·have h5:j=0∨j=1∨j=2∨j=3:=by omega
   rcases h5 with rfl|rfl|rfl|rfl
   ·rw[z9R hs112,h0]
   ·rw[z9M hs112]
   ·rw[z88 hs112,hsz];omega
   ·rw[zcA hs112,h3]
  rw[z27 hs112 (by omega)]
  by_cases c4:j<8+(z0t xs).size
  ·obtain⟨i,rfl⟩:∃i,j=8+i:=⟨j - 8,by omega⟩
   rw[z9e hs112 (by omega),hstr,zhw,List.getElem?_drop,List.getElem?_take,if_pos (by omega),zhw]
  ·rw[zaI hs112 (by omega),z59 hs112 (by omega),hpn j (by omega) (by omega)]
 refine zaC (by rw[hSl,hl]) fun j hj=>?_
 rw[hSl]at hj;by_cases c1:j<124
 ·exact hpre j c1
 obtain⟨i,rfl⟩:∃i,j=124+i:=⟨j - 124,by omega⟩
 rw[←z2T hSb 124 (by omega),z8C hs112,←z2T hb 124 (by omega),hsum]
 congr 2
 refine zaC (by rw[zi6,zi6,hSl,hl]) fun k hk=>?_
 rw[zi6]at hk;rw[z8G (by omega),z8G (by omega)]
 exact hpre k (by omega)
def z86 (a:Int)(xs:List Int):Int:=
 if a<0∨256≤a then 7 else if xs=zsec then 70 else if z0o xs 124≠crc (xs.take 124)then 71 else
 if 256≤z0o xs 120∨112<xs.getD 2 0 then 6 else
 if z11 (z0o xs 120) (xs.getD 1 0) (z0t xs).size≠0∨z15 (z0o xs 120) (xs.getD 1 0) (z0o xs 4) (z0t xs)≠xs then 6 else if z0o xs 120≠a then 72 else 0
theorem z9W {a:Int}{xs:List Int}(hl:xs.length=128)(hb:z0V xs):z86 a xs=z1g a xs:=by
 unfold z86;by_cases c1:a<0∨256≤a
 ·rw[if_pos c1];unfold z1g;rw[if_pos c1]
 rw[if_neg c1];by_cases c2:xs=zsec
 ·rw[if_pos c2];unfold z1g;rw[if_neg c1,if_pos c2]
 rw[if_neg c2];by_cases c3:z0o xs 124≠crc (xs.take 124)
 ·rw[if_pos c3];unfold z1g;rw[if_neg c1,if_neg c2,if_pos c3]
 rw[if_neg c3];have b1:=z7L hb 1;have hp0:=z2I xs 120 4;have hp0':0≤z0o xs 120:=hp0.1;by_cases c4:xs.getD 0 0≠76∨xs.getD 1 0=0∨120<8+xs.getD 2 0∨xs.getD 3 0≠0∨256≤z0o xs 120
 ·have e:z1g a xs=6:=by unfold z1g;rw[if_neg c1,if_neg c2,if_neg c3,if_pos c4]
  rw[e];by_cases d1:256≤z0o xs 120∨112<xs.getD 2 0
  ·rw[if_pos d1]
  rw[if_neg d1,if_pos];refine Classical.byContradiction fun hn=>?_
  have hn1:z11 (z0o xs 120) (xs.getD 1 0) (z0t xs).size=0:=Classical.byContradiction fun q=>hn (.inl q)
  have hn2:z15 (z0o xs 120) (xs.getD 1 0) (z0o xs 4) (z0t xs)=xs:=Classical.byContradiction fun q=>hn (.inr q)
  have ho:=z6R hn1 (z35 xs 4);rw[hn2]at ho;have hz:=z4X ho;omega
 by_cases c5:z5W xs=false
 ·have e:z1g a xs=6:=by unfold z1g;rw[if_neg c1,if_neg c2,if_neg c3,if_neg c4,if_pos c5]
  rw[e,if_neg (by omega),if_pos]
  refine Classical.byContradiction fun hn=>?_
  have hn1:z11 (z0o xs 120) (xs.getD 1 0) (z0t xs).size=0:=Classical.byContradiction fun q=>hn (.inl q)
  have hn2:z15 (z0o xs 120) (xs.getD 1 0) (z0o xs 4) (z0t xs)=xs:=Classical.byContradiction fun q=>hn (.inr q)
  have ho:=z6R hn1 (z35 xs 4);rw[hn2]at ho;have hz:=(z4X ho).2.2.2.2.2.2.2.2.1;rw[hz]at c5;cases c5
 have ho:z1g (z0o xs 120) xs=0:=by
  unfold z1g;rw[if_neg (by omega),if_neg c2,if_neg c3,if_neg c4,if_neg c5,if_neg (by simp)]
 obtain⟨s1,s2,-⟩:=zcL hl hb ho;have e:z1g a xs=if z0o xs 120≠a then 72 else 0:=by unfold z1g;rw[if_neg c1,if_neg c2,if_neg c3,if_neg c4,if_neg c5]
 rw[e,if_neg (by omega),if_neg (by rw[s1,s2];simp)]
def sumK (xs:List Int)(a:Nat):Nat→Int
 | 0=>0
 | k+1=>sumK xs a k+xs.getD (a+k) 0*2 ^ (8*k)
theorem z7W {xs:List Int}(hb:z0V xs)(a:Nat):∀k,k≤4→0≤sumK xs a k∧sumK xs a k<2 ^ (8*k)
 | 0,_=>⟨Int.le_refl _,by show (0:Int)<1;decide⟩
 | k+1,hk=>by
  have ih:=z7W hb a k (by omega)
  have h:=z7L hb (a+k);have h4:k=0∨k=1∨k=2∨k=3:=by omega
  unfold sumK;generalize sumK xs a k=q at ih;generalize xs.getD (a+k) 0=z at h;rcases h4 with rfl|rfl|rfl|rfl
  ·have h1:0≤q∧q<1:=ih;show 0≤q+z*1∧q+z*1<256
   omega
  ·have h1:0≤q∧q<256:=ih;show 0≤q+z*256∧q+z*256<65536
   omega
  ·have h1:0≤q∧q<65536:=ih;show 0≤q+z*65536∧q+z*65536<16777216
   omega
  ·have h1:0≤q∧q<16777216:=ih;show 0≤q+z*16777216∧q+z*16777216<4294967296
   omega
theorem zdy {xs:List Int}(hb:z0V xs)(a:Nat):z0o xs a=sumK xs a 4:=by
 have h0:=z2T hb a (j:=0) (by omega)
 have h1:=z2T hb a (j:=1) (by omega)
 have h2:=z2T hb a (j:=2) (by omega)
 have h3:=z2T hb a (j:=3) (by omega)
 have hr:=z35 xs a;show z0o xs a=0+xs.getD (a+0) 0*1+xs.getD (a+1) 0*256+xs.getD (a+2) 0*65536+xs.getD (a+3) 0*16777216
 rw[←h0,←h1,←h2,←h3];generalize z0o xs a=n at *;show n=0+n / 1 % 256*1+n / 256 % 256*256+n / 65536 % 256*65536+n / 16777216 % 256*16777216
 omega
theorem za1 (S a:Nat)(ha:a≤124)(n:Int)(_hn:0≤n∧n<4294967296)(xs:List Int)(hl:xs.length=128)(w:World)(bS:Blk w S 128 (z03 xs)):
  Calls prog 222 #[.pointer (some ⟨S,0,none⟩),.int .i64 a,.int .u32 n] w fun e w'=>(∃v,e=.returned v)∧Blk w' S 128 (z03 (putN xs a n))∧KeepEx w.heap.size [S] w w':=by
 have lS:=bS.lt;go_enter func222,ntmps222
 go_wp2_with fail
 go_loopw [6] (fun q wr=>∃k:Nat,k≤4∧q=.int .i64 k∧Blk wr S 128 (z03 (putK xs a n k))∧KeepEx w.heap.size [S] w wr) (fun q _=>4 - (intOf q).toNat)
 case atStart=>exact⟨0,by omega,rfl,bS,KeepEx.refl _ _ _⟩
 case round=>
  obtain⟨k,hk,rfl,bK,hx⟩:=hrel;have fK:=bK.free;by_cases hlt:k<4
  ·have hcK:wr.cell? ⟨S,a+k,none⟩=some (.int .u8 ((putK xs a n k).getD (a+k) 0)):=by rw[bK.cells];exact z0J (by rw[z3b];omega)
   have hw8:IntKind.i64.wrap (8*(k:Int))=8*(k:Int):=by rw[IntKind.wrap_i64];omega
   go_wp2_with fail
   go_roundw
   case rel=>exact⟨k+1,by omega,by go_num,by show Blk _ _ _ (z03 ((putK xs a n k).set (a+k) (nb n k)));rw[←z1i];exact(bK.set_ _ _),hx.trans (KeepEx.setCell _ (.inl (by simp)) _)⟩
   case measure=>simp[intOf];omega
  ·obtain rfl:k=4:=by omega
   go_wp2_with fail
   go_end0
   exact⟨⟨_,rfl⟩,bK,hx⟩
theorem z7H (a:Nat)(ha:a≤124)(xs:List Int)(hl:xs.length=128)(hbx:z0V xs)(w:World):
  Calls prog 227 #[.agg (z03 xs),.int .i64 a] w fun e w'=>e=.returned (.int .u32 (z0o xs a))∧Below w.heap.size w w':=by
 rw[zdy hbx a];go_enter func227,ntmps227
 go_wp2_with fail
 go_loopw [5,6] (fun x q wr=>∃k:Nat,k≤4∧q=.int .i64 k∧x=.int .u32 (sumK xs a k)∧Blk wr w.heap.size 128 (z03 xs)∧Below w.heap.size w wr) (fun _ q _=>4 - (intOf q).toNat)
 case atStart=>exact⟨0,by omega,rfl,rfl,Blk.new _ _ _,by (repeat' (first|with_reducible (first|exact zho _ _|assumption|refine zhp ?_ ?_ _|refine zhq ?_|refine z00 ?_ _|refine zhr ?_ ?_ _|exact zhT _)|omega|(simp;done)|(simp;omega)))⟩
 case round=>
  obtain⟨k,hk,rfl,rfl,bS,hB⟩:=hrel;have lS:=bS.lt;by_cases hlt:k<4
  ·have hcK:wr.cell? ⟨w.heap.size,a+k,none⟩=some (.int .u8 (xs.getD (a+k) 0)):=by rw[bS.cells];exact z0J (by omega)
   have hyb:=z7L hbx (a+k);have h0:=z7W hbx a k (by omega)
   have h1:=z7W hbx a (k+1) (by omega)
   have hs:Hid (sumK xs a (k+1)=sumK xs a k+xs.getD (a+k) 0*2 ^ (8*k)):=zhs rfl;have hp:(xs.getD (a+k) 0*2 ^ (8*k)) % 4294967296=xs.getD (a+k) 0*2 ^ (8*k)∧0≤xs.getD (a+k) 0*2 ^ (8*k)∧xs.getD (a+k) 0*2 ^ (8*k)<4294967296∧0≤sumK xs a (k+1)∧sumK xs a (k+1)<4294967296:=by
    have h4:k=0∨k=1∨k=2∨k=3:=by omega
    generalize xs.getD (a+k) 0=z at hyb;generalize sumK xs a (k+1)=q at h1;rcases h4 with rfl|rfl|rfl|rfl
    ·have h2:0≤q∧q<256:=h1;show z*1 % 4294967296=z*1∧0≤z*1∧z*1<4294967296∧_
     omega
    ·have h2:0≤q∧q<65536:=h1;show z*256 % 4294967296=z*256∧0≤z*256∧z*256<4294967296∧_
     omega
    ·have h2:0≤q∧q<16777216:=h1;show z*65536 % 4294967296=z*65536∧0≤z*65536∧z*65536<4294967296∧_
     omega
    ·have h2:0≤q∧q<4294967296:=h1;show z*16777216 % 4294967296=z*16777216∧0≤z*16777216∧z*16777216<4294967296∧_
     omega
   obtain⟨hp1,-,-,hp4⟩:=hp;rw[hs.out]at hp4;clear h0 h1;generalize xs.getD (a+k) 0=y at *;generalize sumK xs a k=x at *;have hym:y % 4294967296=y:=by omega
   have hw8:IntKind.i64.wrap (8*(k:Int))=8*(k:Int):=by rw[IntKind.wrap_i64];omega
   generalize hg:y*2 ^ (8*k)=g at *;have hxg:(x+g) % 4294967296=x+g:=by omega
   go_wp2_with fail
   go_roundw
   case rel=>exact⟨k+1,by omega,by go_num,by rw[hs.out],bS,hB⟩
   case measure=>simp[intOf];omega
  ·obtain rfl:k=4:=by omega
   go_wp2_with fail
   go_ret
   exact⟨rfl,hB⟩
def z5a (xs:List Int)(s:ByteArray):Nat→List Int
 | 0=>xs
 | k+1=>(z5a xs s k).set (8+k) ((strL s).getD k 0)
theorem z8y (xs:List Int)(s:ByteArray)(k:Nat):(z5a xs s k).length=xs.length:=by
 induction k with
 | zero=>rfl
 | succ k ih=>unfold z5a;rw[List.length_set,ih]
theorem zcs (xs:List Int)(n:Int)(s:ByteArray)(k:Nat):z5a (putN xs 4 n) s k=putN (z5a xs s k) 4 n:=by
 induction k with
 | zero=>rfl
 | succ k ih=>
  show (z5a (putN xs 4 n) s k).set (8+k) _=putN ((z5a xs s k).set (8+k) _) 4 n
  rw[ih];exact zaY (by omega) 4 (by omega)
theorem zaA {xs:List Int}{s:ByteArray}(hl:xs.length=128)(hs:s.size≤112):∀k,k≤s.size→z5a xs s k=xs.take 8++(strL s).take k++xs.drop (8+k)
 | 0,_=>by
  show xs=_
  simp
 | k+1,hk=>by
  have ih:=zaA hl hs k (by omega)
  have hL:=z17 s;show (z5a xs s k).set (8+k) _=_
  have hA:(xs.take 8++(strL s).take k).length=8+k:=by rw[zhF,zi6,zi6];omega
  rw[ih,List.set_append_right _ _ (by omega),hA,Nat.sub_self,List.drop_eq_getElem_cons (show 8+k<xs.length by omega),zhu,zhw,zhx (by omega)]
  simp only[Option.getD_some];rw[zhE (l:=strL s) (by omega),show 8+(k+1)=8+k+1 by omega]
  simp only[List.append_assoc,List.singleton_append]
theorem zbJ (kind seq:Int)(s:ByteArray)(hs:s.size≤112):z5a (putN (z2G kind s.size) 4 seq) s s.size=putN (z2q kind s) 4 seq:=by
 rw[zcs,zaA (z1l _ _) hs s.size (zhT _)];unfold z2q;rw[show (strL s).take s.size=strL s by rw[←z17 s,zia]]
theorem zdR (A:Option Addr)(n c:Nat)(xs:List Int)(hn:xs.length=n)(hl:n≤100000)(hbx:z0V xs)(w:World)(hX:Reads w A (xs.map (.int .u8))):
  Calls prog 223 #[.slice A n c] w fun e w'=>e=.returned (.int .u32 (crc xs))∧w'=w:=by
 subst hn;exact zeM A c xs hl hbx w hX
theorem z4T (S n:Nat)(x:Int)(hx:x=(n:Int))(ha:n≤124)(m:Int)(hm:0≤m∧m<4294967296)(xs:List Int)(hl:xs.length=128)(w:World)(bS:Blk w S 128 (z03 xs)):
  Calls prog 222 #[.pointer (some ⟨S,0,none⟩),.int .i64 x,.int .u32 m] w fun e w'=>(∃v,e=.returned v)∧Blk w' S 128 (z03 (putN xs n m))∧KeepEx w.heap.size [S] w w':=by
 subst hx;exact za1 S n ha m hm xs hl w bS
theorem zcP (a kind seq:Int)(s:ByteArray)(hs:s.size≤maxLen)(w:World)(hE:z11 a kind s.size≠0):
  Calls prog 179 #[.int .i64 a,.int .i64 kind,.int .u32 seq,.string s] w (z21 a kind seq s w):=by
 have hz:=z0S;have hv:∃E,z11 a kind s.size=E:=⟨_,rfl⟩;obtain⟨E,hv⟩:=hv;unfold z21;rw[if_neg hE,hv];have HV:=zhs hv;have hE2:=hE;clear hE;unfold z11 at hv;by_cases a1:a<0
 rotate_left;by_cases a2:256≤a
 rotate_left;by_cases a3:kind<1
 rotate_left;by_cases a4:255<kind
 rotate_left;by_cases a5:112<s.size
 rotate_left
 ·exact absurd (by unfold z11;rw[if_neg (by omega),if_neg (by omega)]) hE2
 all_goals
  clear hE2;first
   | (rw[if_pos (by omega)]at hv)
   | (rw[if_neg (by omega),if_pos (by omega)]at hv)
  subst hv;have bR:Blk ((w.alloc (.cells (z03 zsec) 128)).alloc (.cells (z03 zsec) 128)) w.heap.size 128 (z03 zsec):=(Blk.new _ _ _).alloc _;have bS:Blk ((w.alloc (.cells (z03 zsec) 128)).alloc (.cells (z03 zsec) 128)) (w.heap.size+1) 128 (z03 zsec):=Blk.new' (by simp)
  go_enter func179,ntmps179
  go_wp2_with (first
   | (refine z0u rfl _ rfl (w.heap.size+1) rfl bS z07 ?_)
   | (refine z0d rfl _ _ rfl w.heap.size zsec rfl rfl bR z07 z07 ?_))
  refine bodyPost_ret (z2j rfl rfl rfl (bR.setRow (cs':=z03 zsec)) z07) rfl ?_;exact⟨Below.setRow (by (repeat' (first|with_reducible (first|exact zho _ _|assumption|refine zhp ?_ ?_ _|refine zhq ?_|refine z00 ?_ _|refine zhr ?_ ?_ _|exact zhT _)|omega|(simp;done)|(simp;omega)))) (zhT _) _,rfl⟩
theorem zbV (a kind seq:Int)(s:ByteArray)(hq:0≤seq∧seq<4294967296)(w:World)(hE:z11 a kind s.size=0):
  Calls prog 179 #[.int .i64 a,.int .i64 kind,.int .u32 seq,.string s] w (z21 a kind seq s w):=by
 have hz:=z0S;unfold z21;rw[if_pos hE,hE];have hb:¬(a<0∨256≤a∨kind<1∨255<kind)∧¬112<s.size:=by
  unfold z11 at hE;split at hE
  ·omega
  ·split at hE
   ·omega
   ·exact⟨by assumption,by assumption⟩
 clear hE;obtain⟨hb1,hb2⟩:=hb;have a1:¬a<0:=by omega
 have a2:¬256≤a:=by omega
 have a3:¬kind<1:=by omega
 have a4:¬255<kind:=by omega
 have hs112:s.size≤112:=by omega
 have ham:a % 4294967296=a:=by omega
 have hkm:kind % 256=kind:=by omega
 have hsm:(s.size:Int) % 256=s.size:=by omega
 go_enter func179,ntmps179
 go_wp2_with fail
 have h0:Blk _ (w.heap.size+1) 128 ((((z03 zsec).setIfInBounds 0 (.int .u8 76)).setIfInBounds 1 (.int .u8 kind)).setIfInBounds 2 (.int .u8 (s.size:Int))):=Blk.new' (w:=w.alloc (.cells (z03 zsec) 128)) (by simp)
 rw[z1i,z1i,z1i]at h0;refine(z4T (w.heap.size+1) 4 4 rfl (by omega) seq hq (z2G kind s.size) (z1l _ _) _ h0).mono ?_
 rintro e w1 ⟨⟨v,rfl⟩,bS1,hx1⟩;have bR1:Blk w1 w.heap.size 128 (z03 zsec):=hx1.blk ((Blk.new _ _ _).alloc _) (by simp;omega) (by simp)
 have B1:Below w.heap.size w w1:=(((zho _ _).alloc (zhT _) _).alloc (by simp) _).trans (hx1.toBelow (by simp;omega) (by simp))
 clear hx1 h0;have lS1:=bS1.lt;have hL0:(putN (z2G kind s.size) 4 seq).length=128:=by rw[z0Q,z1l]
 have hfin:=zhs (zbJ kind seq s hs112);generalize putN (z2G kind s.size) 4 seq=x0 at bS1 hL0 hfin;have hidx:∀k (h:k<s.size) (w:World),(Instr.index 9 (.string s) (.int .i64 (k:Int))).run prog w=.ok (.int .u8 ((strL s).getD k 0)) w:=fun k h w=>z1o s k k rfl h w
 go_wp2_with fail
 go_loopw [11] (fun q wr=>∃k:Nat,k≤s.size∧q=.int .i64 k∧Blk wr (w.heap.size+1) 128 (z03 (z5a x0 s k))∧Blk wr w.heap.size 128 (z03 zsec)∧Below w.heap.size w wr) (fun q _=>s.size - (intOf q).toNat)
 case atStart=>exact⟨0,zi9 _,rfl,bS1,bR1,B1⟩
 case round=>
  obtain⟨k,hk,rfl,bS,bR,hB⟩:=hrel;have fS:=bS.free;have lS:=bS.lt;by_cases hlt:k<s.size
  ·have hcK:wr.cell? ⟨w.heap.size+1,8+k,none⟩=some (.int .u8 ((z5a x0 s k).getD (8+k) 0)):=by rw[bS.cells];exact z0J (by rw[z8y];omega)
   have hi:=hidx k hlt;go_wp2_with fail
   go_roundw
   case rel=>exact⟨k+1,by omega,by go_num,by show Blk _ _ _ (z03 ((z5a x0 s k).set (8+k) _));rw[←z1i];exact(bS.set_ _ _),by first|exact bR.far (by simp) _|exact bR.far _ (by simp),hB.setCell (p:=⟨w.heap.size+1,8+k,none⟩) (Nat.le_succ _) _⟩
   case measure=>simp[intOf];omega
  ·obtain rfl:k=s.size:=by omega
   rw[hfin.out]at bS;have hb1s:=z3T (kind:=kind) (by omega) hs112
   have hL1:(putN (z2q kind s) 4 seq).length=128:=by rw[z0Q];exact z1R kind s hs112
   have hB2:z0V (z2p a kind seq s):=z2c (z2c hb1s _ _) _ _;have hL2:(z2p a kind seq s).length=128:=by unfold z2p;rw[z0Q];exact hL1
   go_wp2_with fail
   refine(z4T (w.heap.size+1) 120 120 rfl (by omega) a (by omega) _ hL1 _ bS).mono ?_
   rintro e w2 ⟨⟨v2,rfl⟩,bS2,hx2⟩;have bR2:=hx2.blk bR bR.lt (by simp)
   have hB2w:Below w.heap.size w w2:=hB.trans (hx2.toBelow hB.size (by simp))
   have bS2:Blk w2 (w.heap.size+1) 128 (z03 (z2p a kind seq s)):=bS2;have hLL:Hid (putN (z2p a kind seq s) 124 (crc ((z2p a kind seq s).take 124))=z15 a kind seq s):=zhs rfl;generalize z2p a kind seq s=xs at bS2 hL2 hB2 hLL;have lS2:=bS2.lt;clear hx2 bS bR hB;go_wp2_with fail
   refine(zdR (some ⟨w.heap.size+1,0,none⟩) 124 128 (xs.take 124) (by rw[zi6];omega) (by omega) (z3N hB2 _) w2 (by rw[List.map_take];exact(z2d bS2).take 124)).mono ?_
   rintro e w3 ⟨rfl,rfl⟩;have hcb:=z4K (xs.take 124);go_wp2_with fail
   refine(z4T (w.heap.size+1) 124 124 rfl (by omega) (crc (xs.take 124)) hcb _ hL2 _ bS2).mono ?_
   rintro e w4 ⟨⟨v4,rfl⟩,bS4,hx4⟩;have bR4:=hx4.blk bR2 bR2.lt (by simp)
   have hB4:Below w.heap.size w w4:=hB2w.trans (hx4.toBelow hB2w.size (by simp))
   rw[hLL.out]at bS4;have hLs:(z15 a kind seq s).length=128:=by rw[←hLL.out,z0Q];exact hL2
   go_wp2_with (first
    | (refine z0u rfl _ rfl (w.heap.size+1) rfl bS4 hLs ?_)
    | (refine z0d rfl _ _ rfl w.heap.size (z15 a kind seq s) rfl rfl bR4 z07 hLs ?_))
   refine bodyPost_ret (z2j rfl rfl rfl (bR4.setRow (cs':=z03 (z15 a kind seq s))) hLs) rfl ?_;exact⟨Below.setRow (by (repeat' (first|with_reducible (first|exact zho _ _|assumption|refine zhp ?_ ?_ _|refine zhq ?_|refine z00 ?_ _|refine zhr ?_ ?_ _|exact zhT _)|omega|(simp;done)|(simp;omega)))) (zhT _) _,rfl⟩
theorem z9n (a kind seq:Int)(s:ByteArray)(hs:s.size≤maxLen)(hq:0≤seq∧seq<4294967296)(w:World):
  Calls prog 179 #[.int .i64 a,.int .i64 kind,.int .u32 seq,.string s] w (z21 a kind seq s w):=by
 by_cases hE:z11 a kind s.size=0
 ·exact zbV a kind seq s hq w hE
 ·exact zcP a kind seq s hs w hE
end Go.Proofs.YtejmknghkbobnaaGreatDoor
