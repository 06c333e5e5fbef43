import Derived.Test.YtejmknghkbobnaaGreatDoorPart00
import Derived.Test.YtejmknghkbobnaaGreatDoorPart20
import Derived.Test.YtejmknghkbobnaaGreatDoorPart16
import Derived.Test.YtejmknghkbobnaaGreatDoorPart15
import Derived.Deep.CutRange
import Derived.Deep.CutBlock
set_option linter.unusedVariables false
set_option linter.unusedSimpArgs false
set_option maxRecDepth 100000
set_option maxHeartbeats 8000000
namespace Go.Proofs.YtejmknghkbobnaaGreatDoor
open Go.Proofs.Tryz
open Go.RowKit Go.Maps
def zfk (p:Int × Fr):Int × List Int:=(p.1,z15 p.1 p.2.kind p.2.seq p.2.data)
structure FitP (n:Nat)(p:Int × Fr):Prop where
 at_:0≤p.1∧p.1<n
 kind:1≤p.2.kind∧p.2.kind≤255
 data:p.2.data.size≤112
 seq:0≤p.2.seq∧p.2.seq<4294967296
structure Went (x z:DevS)(ws:List (Int × List Int))(E:Int)(k m:Nat):Prop where
 sta:z.stable=x.stable
 cac:z.cache=x.cache++ws.take k
 end_ : (E = 0 ∧ k = m ∧ z.off = false) ∨ (E = 13 ∧ z.off = true)
theorem z9Y {x:DevS}(ok:x.Ok)(hon:x.off=false)(hroom:x.cache.length<400){p:Int × Fr}(hp:FitP x.stable.length p):
  ((x.put p.1 p.2.kind p.2.seq p.2.data).1=0∧(x.put p.1 p.2.kind p.2.seq p.2.data).2.stable=x.stable∧(x.put p.1 p.2.kind p.2.seq p.2.data).2.cache=x.cache++[zfk p]∧(x.put p.1 p.2.kind p.2.seq p.2.data).2.off=false) ∨
  ((x.put p.1 p.2.kind p.2.seq p.2.data).1=13∧(x.put p.1 p.2.kind p.2.seq p.2.data).2={ x with off:=true }):=by
 have hE:z11 p.1 p.2.kind p.2.data.size=0:=z5z (by have:=ok.hi;have:=hp.at_;omega) hp.kind hp.data
 unfold DevS.put;rw[if_pos hE];unfold DevS.write;rw[if_neg (by rw[z6L hon hp.at_];simp)]
 by_cases h:x.power=0∨x.taken=1000000000000
 ·rw[if_pos h];exact .inr ⟨rfl,rfl⟩
 ·rw[if_neg h];have hr:x.room=x:=by unfold DevS.room;rw[if_neg (by omega)]
  rw[hr];exact .inl ⟨rfl,rfl,rfl,hon⟩
theorem zfK {x:DevS}(ok:x.Ok){p:Int × Fr}(hp:FitP x.stable.length p):(x.put p.1 p.2.kind p.2.seq p.2.data).2.Ok:=by
 have hE:z11 p.1 p.2.kind p.2.data.size=0:=z5z (by have:=ok.hi;have:=hp.at_;omega) hp.kind hp.data
 unfold DevS.put;rw[if_pos hE];exact ok.write _ ⟨z1n p.1 p.2.kind p.2.seq p.2.data hp.data,z2x p.2.seq hE⟩
theorem z5o {x:DevS}(ok:x.Ok)(hon:x.off=false){L:List (Int × Fr)}(hL:∀p∈L,FitP x.stable.length p)(hroom:x.cache.length+L.length≤400):
  ∀m,m≤L.length→(x.puts L m).2.Ok∧∃k,k≤m∧Went x (x.puts L m).2 (L.map zfk) (x.puts L m).1 k m:=by
 intro m;induction m with
 | zero=>exact fun _=>⟨ok,0,zhT _,⟨rfl,by show x.cache=x.cache++(L.map zfk).take 0;simp,.inl ⟨rfl,rfl,hon⟩⟩⟩
 | succ m ih=>
  intro hm;obtain⟨iok,k,hk,g⟩:=ih (by omega)
  have e:x.puts L (m+1)=if (x.puts L m).1≠0 then x.puts L m else (x.puts L m).2.put (L.getD m default).1 (L.getD m default).2.kind (L.getD m default).2.seq (L.getD m default).2.data:=rfl
  rw[e];rcases g.end_ with ⟨h0,rfl,ho⟩|⟨h13,ho⟩
  ·rw[if_neg (by simpa using h0)]
   have hgd:L.getD k default=L[k]:=by rw[zhw,zhx (by omega)];rfl
   have hp:=hL L[k] (zhQ _);have hp2:FitP (x.puts L k).2.stable.length L[k]:=by rw[g.sta];exact hp
   have hlen:(x.puts L k).2.cache.length<400:=by rw[g.cac,zhF,zi6,zhX];omega
   rw[hgd];refine⟨zfK iok hp2,?_⟩
   rcases z9Y iok ho hlen hp2 with ⟨p1,p2,p3,p4⟩|⟨p1,p2⟩
   ·refine⟨k+1,zhT _,⟨p2.trans g.sta,?_,.inl ⟨p1,rfl,p4⟩⟩⟩
    rw[p3,g.cac,List.append_assoc];congr 1
    rw[zhE (by rw[zhX];omega),List.getElem_map]
   ·rw[p1,p2];exact⟨k,by omega,⟨g.sta,g.cac,.inr ⟨rfl,rfl⟩⟩⟩
  ·rw[if_pos (by rw[h13];decide)]
   exact⟨iok,k,by omega,⟨g.sta,g.cac,.inr ⟨h13,ho⟩⟩⟩
def DevS.crashed (x:DevS)(keep:List Nat):DevS:={ x with stable:=z0B x.stable (keep.map fun i=>x.cache.getD i (0,[])),cache:=[],power:=-1,off:=false }
theorem zcy {z:DevS}{F Z q:Int}{l:List Rec}(hF:0≤F)(hs:z.stable.length≤256)(hv:ValidL z.stable.length F Z l)(hl:LogAt z F q l):∀k,k≤l.length→z.lookTo F Z q k=⟨false,0,l.take k,false⟩:=by
 intro k;induction k with
 | zero=>intro _;rfl
 | succ k ih=>
  intro hk;have ih:=ih (by omega)
  have hkl:k<l.length:=by omega
  obtain⟨g,f⟩:=hl.recs k hkl;have h9:=hv.rec_ k hkl;have hro:=zdz (r:=l[k]) (q:=next q) ⟨h9.2.1,by omega⟩ (by omega) h9.2.2.2.2.2.1
  show (if (z.lookTo F Z q k).stop then z.lookTo F Z q k else _)=_
  rw[ih,g,f,hro];have h1:z1F z.stable.length F Z ⟨2,next q,logS l[k]⟩=true:=by
   unfold z1F;rw[if_neg (by simp only[z4E];omega),hro]
   simp only[z0U,Bool.and_eq_true,decide_eq_true_eq,Bool.not_eq_true',decide_eq_false_iff_not];exact⟨⟨h9.2.2.1,h9.1⟩,by omega⟩
  have h2:decide (l[k].at_∈(l.take k).map (·.at_))=false:=decide_eq_false h9.2.2.2.2.2.2;have h3:decide (((l.take k).length:Int)=z0Z Z)=false:=decide_eq_false (by have:=hv.len;rw[zi6];omega)
  rw[h1];simp only[h2,h3];rw[if_neg (by simp),if_neg (by simp[z1c]),if_neg (by simp),zhE hkl]
theorem zcu {z:DevS}{F Z q:Int}{l:List Rec}(hF:0≤F)(hs:z.stable.length≤256)(hv:ValidL z.stable.length F Z l)(hl:LogAt z F q l):∀k,l.length<k→z.lookTo F Z q k=⟨true,0,l,true⟩:=by
 intro k hk;induction k with
 | zero=>omega
 | succ k ih=>
  by_cases e:l.length<k
  ·show (if (z.lookTo F Z q k).stop then z.lookTo F Z q k else _)=_
   rw[ih e];rfl
  ·obtain rfl:k=l.length:=by omega
   obtain⟨g,f⟩:=hl.mark;show (if (z.lookTo F Z q l.length).stop then z.lookTo F Z q l.length else _)=_
   rw[zcy hF hs hv hl _ (zhT _),g,f,zia];have h1:z1F z.stable.length F Z ⟨3,next q,z0k l.length⟩=false:=by
    unfold z1F;rw[if_pos (by left;simp)]
   rw[h1];simp[z1c]
theorem zez {z:DevS}{F Z q:Int}{l:List Rec}(hc:z0p F Z=0)(hs:z.stable.length≤256)(hh:HeadAt z F q)(hv:ValidL z.stable.length F Z l)(hl:LogAt z F q l):z.look F Z=(0,q,l,true):=by
 have hz:=z1e hc;have h1:=zcu (by omega) hs hv hl (Z - 1).toNat (by have:=hv.len;unfold z0Z at this;omega)
 unfold DevS.look;rw[hh.head hc];simp only
 rw[if_neg (by simp),h1,if_neg (by simp)]
theorem zci {q:Int}{l:List Rec}(h:(l.map (·.at_)).Nodup):((appL q l).map (·.1)).Nodup:=by
 have e:(appL q l).map (·.1)=l.map (·.at_):=by unfold appL;rw[List.map_map];rfl
 rw[e];exact h
theorem zc1 {z:DevS}{F Z q:Int}{n:Nat}{l:List Rec}(hc:z0p F Z=0)(hF:F+Z≤z.stable.length)(hh:HeadAt z F q)(hv:ValidL z.stable.length F Z l)(hl:LogAt z F q l)(h:z.Runs (n+l.length)):
  ∃y,(z.apply F Z).2=(0,y)∧y.Runs n∧y.stable.length=z.stable.length∧HeadAt y F q∧(∀r∈l,y.ge r.at_=0∧y.fr r.at_=⟨r.kind,next q,r.data⟩)∧(∀b:Int,0≤b→b<z.stable.length→b∉l.map (·.at_)→sameFr z y b):=by
 have hz:=z1e hc;have hnx:=z3J q;have hr:∀r∈l,¬(F≤r.at_∧r.at_<F+Z)∧0≤r.at_∧r.at_<z.stable.length∧1≤r.kind∧r.kind≤255∧r.data.size≤96:=fun r hm=>by
  obtain⟨k,hk,rfl⟩:=List.mem_iff_getElem.1 hm;have h9:=hv.rec_ k hk;exact⟨h9.1,h9.2.1,h9.2.2.1,h9.2.2.2.1,h9.2.2.2.2.1,h9.2.2.2.2.2.1⟩
 have hlen:(appL (next q) l).length=l.length:=by unfold appL;simp
 obtain⟨i1,i2,i3,i4,i5⟩:=z48 (zci (q:=next q) hv.nodup) l.length (x:=z) (n:=n) (fun p hp=>by
  unfold appL at hp;obtain⟨r,hm,rfl⟩:=List.mem_map.1 hp;have h9:=hr r hm;exact⟨h9.2.1,h9.2.2.1,h9.2.2.2.1,h9.2.2.2.2.1,by show r.data.size≤112;omega,hnx.1,hnx.2⟩) (by omega) h
 have htk:(appL (next q) l).take l.length=appL (next q) l:=List.take_of_length_le (by omega)
 rw[htk]at i4 i5;have hmap:(appL (next q) l).map (·.1)=l.map (·.at_):=by unfold appL;rw[List.map_map];rfl
 obtain⟨f1,f2,f3⟩:=z3C i2;have e:z.applies q l=(0,(z.puts (appL (next q) l) l.length).2.flushed):=by
  unfold DevS.applies;rw[show z.puts (appL (next q) l) l.length=(0,(z.puts (appL (next q) l) l.length).2)from Prod.ext i1 rfl]
  exact z4w i2
 have hnF:F∉l.map (·.at_):=fun hm=>by
  obtain⟨r,hm,he⟩:=List.mem_map.1 hm;have:=(hr r hm).1
  omega
 refine⟨(z.puts (appL (next q) l) l.length).2.flushed,?_,f1,f2.trans i3,?_,fun r hm=>?_,fun b h1 h2 h3=>?_⟩
 ·unfold DevS.apply;rw[zez hc h.ok.hi hh hv hl];rw[if_neg (by simp),if_neg (by simp),e]
  rw[if_neg (by simp)]
 ·exact(hh.same (i5 F (by omega) (by omega) (by rw[hmap];exact hnF))).same (f3 F (by omega) (by rw[i3];omega))
 ·have h4:=i4 (r.at_,⟨r.kind,next q,r.data⟩) (List.mem_map.2 ⟨r,hm,rfl⟩);have h5:=f3 r.at_ (hr r hm).2.1 (by rw[i3];exact(hr r hm).2.2.1)
  exact⟨h5.1.trans h4.1,h5.2.trans h4.2⟩
 ·exact(i5 b h1 h2 (by rw[hmap];exact h3)).trans (f3 b h1 (by rw[i3];exact h2))
theorem z6v {x:DevS}{F Z q:Int}{n:Nat}{l:List Rec}(hc:z0p F Z=0)(hF:F+Z≤x.stable.length)(hh:HeadAt x F q)(hv0:z0X x.stable.length F Z l=0)(h:x.Runs (n+1+l.length+1+l.length)):
  ∃y,x.commit F Z l=(0,y)∧y.Runs n∧y.stable.length=x.stable.length∧HeadAt y F (next q)∧(∀r∈l,y.ge r.at_=0∧y.fr r.at_=⟨r.kind,next q,r.data⟩)∧(∀b:Int,0≤b→b<x.stable.length→(b<F∨F+Z≤b)→b∉l.map (·.at_)→sameFr x y b):=by
 have hz:=z1e hc;have hv:=zfL hv0;have hnx:=z3J q;obtain⟨z,ez,z1,z2,z3,z4,z5⟩:=zeZ (n:=n+1+l.length) hc hF hh hv hv0 h;obtain⟨y,ey,y1,y2,y3,y4,y5⟩:=zc1 (n:=n+1) hc (by rw[z2];exact hF) z3 (by rw[z2];exact hv) z4 z1
 obtain⟨j1,j2⟩:=z5C y1 (a:=F) (kind:=1) (seq:=next q) (s:=⟨#[]⟩) (by rw[y2,z2];omega) (by omega) (zi9 _) hnx
 obtain⟨f1,f2,f3⟩:=z3C j2.runs;have hsz:y.stable.length=x.stable.length:=y2.trans z2;have hall:∀b:Int,0≤b→b<x.stable.length→b≠F→sameFr y (y.put F 1 (next q) ⟨#[]⟩).2.flushed b:=fun b h1 h2 h3=>(j2.old b h1 (by rw[hsz];exact h2) h3).trans (f3 b h1 (by rw[j2.size,hsz];exact h2))
 have hr:∀r∈l,0≤r.at_∧r.at_<x.stable.length∧r.at_≠F:=fun r hm=>by
  obtain⟨k,hk,rfl⟩:=List.mem_iff_getElem.1 hm;have h9:=hv.rec_ k hk;exact⟨h9.2.1,h9.2.2.1,fun e=>h9.1 (by omega)⟩
 refine⟨(y.put F 1 (next q) ⟨#[]⟩).2.flushed,?_,f1,f2.trans (j2.size.trans hsz),?_,fun r hm=>?_,fun b h1 h2 h3 h4=>?_⟩
 ·unfold DevS.commit;rw[ez];simp only
  rw[if_neg (by simp),ey]
  simp only
  rw[if_neg (by simp)]
  unfold DevS.clear;rw[y3.head hc];simp only
  rw[if_neg (by simp),show y.put F 1 (next q) ⟨#[]⟩=(0,(y.put F 1 (next q) ⟨#[]⟩).2)from Prod.ext j1 rfl]
  exact z4w j2.runs
 ·have h5:=f3 F (by omega) (by rw[j2.size,hsz];omega)
  exact⟨h5.1.trans j2.new.1,h5.2.trans j2.new.2⟩
 ·have h5:=hall r.at_ (hr r hm).1 (hr r hm).2.1 (hr r hm).2.2;have h6:=y4 r hm;exact⟨h5.1.trans h6.1,h5.2.trans h6.2⟩
 ·exact((z5 b h1 h2 h3).trans (y5 b h1 (by rw[z2];exact h2) h4)).trans (hall b h1 h2 (by omega))
theorem z9K {n:Nat}(hn:64≤n∧n≤256)(N:Nat)(hN:N≤1000000000000):(z1a n).Runs N:=⟨z4C hn,rfl,rfl,by show (0:Int)+N≤_;omega⟩
theorem z8j {s j i:Int}(h:rgE s j i=0):z0X s 1 j [z0L s j i]=0:=by
 have hb:=z10 h;have hr:recE s 1 j [] (z0L s j i)=0:=by
  unfold recE z0L;rw[if_neg (by show ¬(1≤1+j∧1+j<1+j);omega),if_neg (by show ¬(1+j<0∨s≤1+j∨(5:Int)<1∨255<(5:Int));omega),if_neg (by simp only[z20];omega),if_neg (by simp)]
 unfold z0X;rw[if_neg (by show ¬z0Z j<((1:Nat):Int);unfold z0Z;omega)]
 show (if z0N s 1 j [z0L s j i] 0≠0 then _ else recE s 1 j [] (z0L s j i))=0
 rw[if_neg (by show ¬((0:Int)≠0);simp),hr]
structure Fresh (y:DevS)(s j i:Int)(N:Nat):Prop where
 runs:y.Runs N
 size:(y.stable.length:Int)=s
 head:HeadAt y 1 1
 map_:y.ge (1+j)=0∧y.fr (1+j)=⟨5,1,mapS (List.replicate (rgB s j i).toNat false)⟩
 blank:∀a:Int,(a=0∨2+j≤a)→a<s→y.ge a=70
theorem z5b {s j i:Int}(h:rgE s j i=0)(N:Nat)(hN:N≤100000000000):∃y,(z1a s.toNat).tfmt s j i=(0,y)∧Fresh y s j i N:=by
 have hb:=z10 h;have hsz:((z1a s.toNat).stable.length:Int)=s:=by show ((List.replicate s.toNat zsec).length:Int)=s;rw[zhG];omega
 have hck:z0p 1 j=0:=by unfold z0p;rw[if_neg (by omega)]
 obtain⟨x1,e1,r1,s1,h1,-,o1⟩:=zed (x:=z1a s.toNat) (F:=1) (Z:=j) (n:=N+1+1+1+1) hck (by rw[hsz];omega) (z9K (by omega) _ (by omega))
 have s1':(x1.stable.length:Int)=s:=by rw[s1];exact hsz
 obtain⟨y,e2,r2,s2,h2,w2,o2⟩:=z6v (x:=x1) (F:=1) (Z:=j) (q:=0) (n:=N) (l:=[z0L s j i]) hck (by rw[s1'];omega) h1 (by rw[s1'];exact z8j h) r1
 refine⟨y,?_,⟨r2,by rw[s2];exact s1',h2,w2 (z0L s j i) (by simp),fun a ha1 ha2=>?_⟩⟩
 ·unfold DevS.tfmt;have hf:z0R (z1a s.toNat).stable.length s j i=0:=by
   unfold z0R;rw[if_neg (by simpa using h),if_neg (by omega),if_neg (by rw[hsz];simp)]
  rw[if_neg (by simpa using hf),e1]
  simp only
  rw[if_neg (by simp),e2]
 ·have hg:(z1a s.toNat).ge a=70:=zcB (by omega) (by omega)
  have h3:=o1 a (by omega) (by rw[hsz];exact ha2) (by omega)
  have h4:=o2 a (by omega) (by rw[s1'];exact ha2) (by omega) (by
   intro hm;simp only[zhY,zhZ,List.mem_cons,List.mem_nil_iff,or_false]at hm;have:a=1+j:=hm
   omega)
  exact h4.1.trans (h3.1.trans hg)
def zdk (s j i:Int):TxS:=⟨s,j,i,List.replicate (rgB s j i).toNat false,List.replicate (rgB s j i).toNat false,[],false,false,false⟩
theorem z60 {y:DevS}{s j i:Int}{N:Nat}(h:rgE s j i=0)(hy:Fresh y s j i N):(∀E,y.beginE s j i E↔E=0)∧y.begins s j i=zdk s j i∧(y.fr (1+j)).data.size≤1000:=by
 have hb:=z10 h;have hB:rgB s j i=s - (2+j+i):=(z3R h).2.2.2.2;have hl:(List.replicate (rgB s j i).toNat false).length=(rgB s j i).toNat:=zhG ..;have hst:strL (mapS (List.replicate (rgB s j i).toNat false))=encL (List.replicate (rgB s j i).toNat false) (List.replicate (rgB s j i).toNat false).length:=z4x (z3I _ _);have hde:=zek (us:=List.replicate (rgB s j i).toNat false) (by rw[hl];omega)
 rw[←hst,hl]at hde;have hmo:z3P (y.fr (1+j)).data (rgB s j i).toNat:=by
  rw[hy.map_.2];exact⟨by rw[hst,z1p],hde.2⟩
 have hf:z0R y.stable.length s j i=0:=by
  unfold z0R;rw[if_neg (by simpa using h),if_neg (by have:=hy.size;omega),if_neg (by have:=hy.size;omega)]
 refine⟨fun E=>⟨fun hE=>?_,fun hE=>?_⟩,?_,?_⟩
 ·rcases hE with ⟨h1,-⟩|⟨-,h1,-⟩|⟨-,-,h1,-⟩|⟨-,-,-,-,h1⟩
  ·exact absurd hf h1
  ·exact absurd hy.map_.1 h1
  ·exact absurd ⟨hmo,by rw[hy.map_.2]⟩ h1
  ·exact h1
 ·exact .inr (.inr (.inr ⟨hf,hy.map_.1,hmo,by rw[hy.map_.2],hE⟩))
 ·unfold DevS.begins zdk;rw[hy.map_.2];simp only
  rw[hde.1]
 ·rw[hy.map_.2];show (mapS _).size≤1000
  rw[z20];omega
def LogTo (z:DevS)(F q:Int)(l:List Rec)(j:Nat):Prop:=∀k,(hk:k<l.length)→k<j→z.ge (F+1+k)=0∧z.fr (F+1+k)=⟨2,next q,logS l[k]⟩
structure Mixed (z:DevS)(F Z q:Int)(l:List Rec):Prop where
 head:HeadAt z F q
 body:∀b:Int,F+1≤b→b<F+Z→z1c (z.ge b)=false∧(¬(z.ge b=0∧(z.fr b).seq=next q)∨(∃k,∃hk:k<l.length,b=F+1+k∧z.ge b=0∧z.fr b=⟨2,next q,logS l[k]⟩)∨(b=F+1+l.length∧z.ge b=0∧z.fr b=⟨3,next q,z0k l.length⟩))
def zdv (F q:Int)(l:List Rec):List (Int × Fr):=logL F (next q) l++[(F+1+l.length,⟨3,next q,z0k l.length⟩)]
theorem zbR {F q:Int}{l:List Rec}{p:Int × Fr}(h:p∈zdv F q l):(∃k,∃hk:k<l.length,p=(F+1+k,⟨2,next q,logS l[k]⟩))∨p=(F+1+l.length,⟨3,next q,z0k l.length⟩):=by
 rcases zi0.1 h with h|h
 ·exact .inl (z8b h)
 ·exact .inr (by simpa using h)
theorem zbr {n:Nat}{F Z q:Int}{l:List Rec}(hc:z0p F Z=0)(hF:F+Z≤n)(hv:ValidL n F Z l):∀p∈zdv F q l,FitP n p∧F+1≤p.1∧p.1<F+Z:=fun p hp=>by
 have hz:=z1e hc;have hnx:=z3J q;have hm:(l.length:Int)≤Z - 2:=by have:=hv.len;unfold z0Z at this;omega
 rcases zbR hp with ⟨k,hk,rfl⟩|rfl
 ·have h9:=hv.rec_ k hk;refine⟨⟨⟨by show 0≤F+1+(k:Int);omega,by show F+1+(k:Int)<_;omega⟩,⟨by show (1:Int)≤2;omega,by show (2:Int)≤255;omega⟩,?_,hnx⟩,by show F+1≤F+1+(k:Int);omega,by show F+1+(k:Int)<F+Z;omega⟩
  show (logS l[k]).size≤112
  rw[z4E];omega
 ·refine⟨⟨⟨by show 0≤F+1+(l.length:Int);omega,by show F+1+(l.length:Int)<_;omega⟩,⟨by show (1:Int)≤3;omega,by show (3:Int)≤255;omega⟩,?_,hnx⟩,by show F+1≤F+1+(l.length:Int);omega,by show F+1+(l.length:Int)<F+Z;omega⟩
  show (z0k l.length).size≤112
  unfold z0k bstr;rw[strOfNums_size];simp
structure Rest (x:DevS)(F Z q:Int):Prop where
 ok:x.Ok
 cache:x.cache=[]
 on:x.off=false
 head:HeadAt x F q
 num:0≤q∧q<4294967290
 old:∀b:Int,F+1≤b→b<F+Z→z1c (x.ge b)=false∧(x.ge b=0→(x.fr b).seq≤q)
def OutJ (F Z n b:Int):Prop:=0≤b∧b<n∧(b<F∨F+Z≤b)
structure Half (x0 z:DevS)(F Z q:Int)(l:List Rec):Prop where
 size:z.stable.length=x0.stable.length
 far:∀b:Int,OutJ F Z x0.stable.length b→b∉l.map (·.at_)→sameFr x0 z b
 mid:∀r∈l,sameFr x0 z r.at_∨(z.ge r.at_=0∧z.fr r.at_=⟨r.kind,next q,r.data⟩)
structure Full (x0 z:DevS)(F Z q:Int)(l:List Rec):Prop where
 size:z.stable.length=x0.stable.length
 far:∀b:Int,OutJ F Z x0.stable.length b→b∉l.map (·.at_)→sameFr x0 z b
 new:∀r∈l,z.ge r.at_=0∧z.fr r.at_=⟨r.kind,next q,r.data⟩
theorem z8O (x:DevS)(a:Int)(s:List Int):(x.write a s).2.taken≤x.taken+1:=by
 unfold DevS.write;split
 ·show x.taken≤x.taken+1;omega
 ·split
  ·show x.taken≤x.taken+1;omega
  ·show x.room.taken+1≤x.taken+1
   unfold DevS.room;split
   ·show x.taken+1≤x.taken+1;omega
   ·omega
theorem zb8 (x:DevS)(a k q:Int)(s:ByteArray):(x.put a k q s).2.taken≤x.taken+1:=by
 unfold DevS.put;split
 ·exact z8O x a _
 ·show x.taken≤x.taken+1;omega
theorem z5T (x:DevS)(L:List (Int × Fr)):∀k:Nat,(x.puts L k).2.taken≤x.taken+k
 | 0=>by show x.taken≤x.taken+(0:Nat);omega
 | k+1=>by
  have ih:=z5T x L k;show (if (x.puts L k).1≠0 then x.puts L k else (x.puts L k).2.put _ _ _ _).2.taken≤_
  split
  ·omega
  ·have:=zb8 (x.puts L k).2 (L.getD k default).1 (L.getD k default).2.kind (L.getD k default).2.seq (L.getD k default).2.data
   omega
def DevS.free_ (x:DevS):DevS:={ x with power:=-1,taken:=0 }
theorem zcW {x:DevS}(ok:x.Ok):x.free_.Ok:=⟨ok.lo,ok.hi,ok.sec,ok.cac,ok.len,by show (0:Int)≤0∧(0:Int)≤1000000000000;omega,by show (-1:Int)≤-1∧(-1:Int)≤1000000000000;omega⟩
theorem zdV (x:DevS)(b:Int):sameFr x x.free_ b:=z58 rfl rfl rfl
theorem zf8 {x y:DevS}(hs:y.stable=x.stable)(hc:y.cache=x.cache)(b:Int):y.reads b=x.reads b:=by
 unfold DevS.reads DevS.idx;rw[hs,hc]
theorem z5d {x:DevS}(ok:x.Ok){b:Int}(hb:0≤b∧b<x.stable.length):sameFr x x.flushed b:=
 z58 rfl (by show (z0B _ _).length=_;rw[z0e]) (z3d ok hb)
structure PhaseOk (x z:DevS)(L:List (Int × Fr)):Prop where
 cache:z.cache=[]
 on:z.off=false
 size:z.stable.length=x.stable.length
 new:∀p∈L,z.ge p.1=0∧z.fr p.1=p.2
 far:∀b:Int,0≤b→b<x.stable.length→b∉L.map (·.1)→sameFr x z b
structure PhaseOff (x z:DevS)(L:List (Int × Fr)):Prop where
 off:z.off=true
 sta:z.stable=x.stable
 cac:∃k,z.cache=(L.map zfk).take k
theorem phase {x:DevS}(ok:x.Ok)(hc:x.cache=[])(hon:x.off=false){L:List (Int × Fr)}(hL:∀p∈L,FitP x.stable.length p)(hn:(L.map (·.1)).Nodup)(hlen:L.length≤400):
  (DevS.done (x.puts L L.length)).2.Ok∧(DevS.done (x.puts L L.length)).2.taken≤x.taken+L.length ∧
  (((DevS.done (x.puts L L.length)).1=0∧PhaseOk x (DevS.done (x.puts L L.length)).2 L)∨((DevS.done (x.puts L L.length)).1=13∧PhaseOff x (DevS.done (x.puts L L.length)).2 L)) ∧
  (∀n:Nat,x.Runs (n+L.length)→(DevS.done (x.puts L L.length)).1=0∧(DevS.done (x.puts L L.length)).2.Runs n):=by
 have hfit':∀p∈L,0≤p.1∧p.1<x.stable.length∧1≤p.2.kind∧p.2.kind≤255∧p.2.data.size≤112∧0≤p.2.seq∧p.2.seq<4294967296:=fun p hp=>by
  have h:=hL p hp;exact⟨h.at_.1,h.at_.2,h.kind.1,h.kind.2,h.data,h.seq.1,h.seq.2⟩
 obtain⟨zok,k,hk,g⟩:=z5o ok hon hL (by rw[hc];simpa using hlen) L.length (zhT _)
 have htk:=z5T x L L.length;have hruns:∀n:Nat,x.Runs (n+L.length)→(DevS.done (x.puts L L.length)).1=0∧(DevS.done (x.puts L L.length)).2.Runs n:=fun n hr=>by
  obtain⟨i1,i2,-,-,-⟩:=z48 hn L.length hfit' (zhT _) hr;obtain⟨e,z,hz⟩:∃e z,x.puts L L.length=(e,z):=⟨_,_,rfl⟩;rw[hz]at i1 i2 ⊢;simp only at i1 i2
  subst i1;rw[z4w i2];exact⟨rfl,⟨i2.ok.flushed,i2.on,i2.pw,i2.tk⟩⟩
 rcases g.end_ with ⟨h0,rfl,ho⟩|⟨h13,ho⟩
 ·obtain⟨fok,fk,hfk,gf⟩:=z5o (zcW ok) hon (L:=L) hL (by show x.cache.length+_≤_;rw[hc];simpa using hlen) L.length (zhT _)
  have hfr:x.free_.Runs (0+L.length):=⟨zcW ok,hon,rfl,by show (0:Int)+_≤_;omega⟩
  obtain⟨i1,i2,i3,i4,i5⟩:=z48 hn L.length (x:=x.free_) hfit' (zhT _) hfr;rw[zia]at i4 i5;have gc:(x.free_.puts L L.length).2.cache=(x.puts L L.length).2.cache∧(x.free_.puts L L.length).2.stable=(x.puts L L.length).2.stable∧(x.free_.puts L L.length).2.off=(x.puts L L.length).2.off:=by
   rcases gf.end_ with ⟨-,rfl,fo⟩|⟨h13,-⟩
   ·exact⟨gf.cac.trans g.cac.symm,gf.sta.trans g.sta.symm,fo.trans ho.symm⟩
   ·rw[i1]at h13;exact absurd h13 (by decide)
  obtain⟨Z,hZ⟩:∃Z,(x.puts L L.length).2=Z:=⟨_,rfl⟩;have hd:DevS.done (x.puts L L.length)=(0,Z.flushed):=by
   have e:x.puts L L.length=(0,Z):=Prod.ext h0 hZ;rw[e];unfold DevS.done DevS.flush;rw[if_neg (by simp),show Z.off=false by rw[←hZ];exact ho]
   rfl
  rw[hd]at hruns ⊢;rw[hZ]at gc zok htk ho;have hsl:Z.stable.length=x.stable.length:=by rw[←hZ,g.sta]
  have hsm:∀b:Int,sameFr (x.free_.puts L L.length).2 Z b:=fun b=>z58 gc.2.2.symm (by rw[gc.2.1]) (zf8 gc.2.1.symm gc.1.symm b)
  refine⟨zok.flushed,htk,.inl ⟨rfl,⟨rfl,ho,by show (z0B _ _).length=_;rw[z0e,hsl],fun p hp=>?_,fun b h1 h2 h3=>?_⟩⟩,hruns⟩
  ·have hf:=hL p hp;have h4:=i4 p hp;have hb:=z5d zok (b:=p.1) (by rw[hsl];exact hf.at_)
   exact⟨hb.1.trans ((hsm p.1).1.trans h4.1),hb.2.trans ((hsm p.1).2.trans h4.2)⟩
  ·have h5:=i5 b h1 h2 h3;have hb:=z5d zok (b:=b) (by rw[hsl];exact⟨h1,h2⟩)
   exact(((zdV x b).trans h5).trans (hsm b)).trans hb
 ·obtain⟨Z,hZ⟩:∃Z,(x.puts L L.length).2=Z:=⟨_,rfl⟩;have hd:DevS.done (x.puts L L.length)=(13,Z):=by
   have e:x.puts L L.length=(13,Z):=Prod.ext h13 hZ;rw[e];unfold DevS.done;rw[if_pos (by simp)]
  rw[hd]at hruns ⊢;rw[hZ]at g zok htk ho;exact⟨zok,htk,.inr ⟨rfl,⟨ho,g.sta,k,by rw[g.cac,hc];rfl⟩⟩,hruns⟩
def z6r (z:DevS)(keep:List Nat):Prop:=∀i∈keep,i<z.cache.length
theorem zbx {z:DevS}(ok:z.Ok){keep:List Nat}(hk:z6r z keep):(z.crashed keep).Ok:=by
 have hl:(z.crashed keep).stable.length=z.stable.length:=by show (z0B _ _).length=_;rw[z0e]
 refine⟨by rw[hl];exact ok.lo,by rw[hl];exact ok.hi,z2A ok.sec fun p hp=>?_,fun p hp=>(by cases hp),by show 0≤400;omega,ok.tk,by show (-1:Int)≤-1∧(-1:Int)≤1000000000000;omega⟩
 obtain⟨i,hi,rfl⟩:=List.mem_map.1 hp;have:=hk i hi
 rw[zhw,zhx this];exact(ok.cac _ (zhQ this)).2.2
theorem z9c (z:DevS)(keep:List Nat):(z.crashed keep).stable.length=z.stable.length:=by show (z0B _ _).length=_;rw[z0e]
structure Calm (z:DevS)(n:Nat):Prop where
 ok:z.Ok
 cache:z.cache=[]
 on:z.off=false
 size:z.stable.length=n
def Body (z:DevS)(F Z q:Int):Prop:=∀b:Int,F+1≤b→b<F+Z→z1c (z.ge b)=false∧(z.ge b=0→(z.fr b).seq≤q)
def Out0 (x z:DevS)(F Z:Int):Prop:=∀b:Int,OutJ F Z x.stable.length b→sameFr x z b
structure InvA (x z:DevS)(F Z q:Int)(l:List Rec):Prop where
 mix:Mixed z F Z q l
 body:Body z F Z (q+1)
 out:Out0 x z F Z
structure InvB (x z:DevS)(F Z q:Int)(l:List Rec):Prop where
 head:HeadAt z F q
 log:LogAt z F q l
 half:Half x z F Z q l
 body:Body z F Z (q+1)
structure InvD (x z:DevS)(F Z q:Int):Prop where
 head:HeadAt z F (q+1)
 body:Body z F Z (q+1)
 out:Out0 x z F Z
structure InvE (x z:DevS)(F Z q:Int)(l:List Rec):Prop where
 head:HeadAt z F (q+1)
 body:Body z F Z (q+1)
 full:Full x z F Z q l
def Inv (x z:DevS)(F Z q:Int)(l:List Rec):Prop:=InvA x z F Z q l∨InvB x z F Z q l∨InvD x z F Z q∨InvE x z F Z q l
section
variable {x z u:DevS}{F Z q:Int}{l:List Rec}{n:Nat}
structure Jn (n:Nat)(F Z q:Int)(l:List Rec):Prop where
 ck:z0p F Z=0
 fit:F+Z≤n
 hi:n≤256
 val:ValidL n F Z l
 num:0≤q∧q<4294967000
def headL (F q:Int):List (Int × Fr):=[(F,⟨1,next q,⟨#[]⟩⟩)]
structure Step_ (z z':DevS)(n m:Nat)(e:Int)(P:DevS→Prop)(C:DevS→Prop):Prop where
 ok:z'.Ok
 taken:z'.taken≤z.taken+m
 size:z'.stable.length=n
 end_ : (e = 0 ∧ Calm z' n ∧ P z') ∨ (e = 13 ∧ ∀ keep, z6r z' keep → C (z'.crashed keep))
 runs:∀k:Nat,z.Runs (k+m)→e=0∧z'.Runs k
def DevS.ac (z:DevS)(F Z q:Int)(l:List Rec):Int × DevS:=if (z.applies q l).1≠0 then z.applies q l else (z.applies q l).2.clear F Z
end
theorem zdO (F q:Int)(l:List Rec):(logL F q l).length=l.length:=by unfold logL;rw[zhX,List.length_zipIdx]
section
variable {x z u:DevS}{F Z q:Int}{l:List Rec}{n:Nat}
end
def DevS.staleTo (x:DevS)(F q:Int):Nat→Int × Bool
 | 0=>(0,false)
 | k+1=>if (x.staleTo F q k).1≠0 then x.staleTo F q k else if z1c (x.ge (F+1+k))then (x.ge (F+1+k),false)else
  (0,(x.staleTo F q k).2||(x.ge (F+1+k)==0&&(x.fr (F+1+k)).seq==next q&&((x.fr (F+1+k)).kind==2||(x.fr (F+1+k)).kind==3)))
def DevS.stale (x:DevS)(F Z q:Int):Int × Bool:=x.staleTo F q (Z - 1).toNat
def DevS.replay (x:DevS)(F Z:Int):Int × Int × DevS:=
 if (x.look F Z).1≠0 then (0,(x.look F Z).1,x)else
 if (x.look F Z).2.2.2=true then (if (x.ac F Z (x.look F Z).2.1 (x.look F Z).2.2.1).1≠0 then (0,x.ac F Z (x.look F Z).2.1 (x.look F Z).2.2.1)else ((x.look F Z).2.2.1.length,x.ac F Z (x.look F Z).2.1 (x.look F Z).2.2.1))else
 if (x.stale F Z (x.look F Z).2.1).1≠0 then (0,(x.stale F Z (x.look F Z).2.1).1,x)else
 if (x.stale F Z (x.look F Z).2.1).2=true then (0,x.clear F Z)else (0,0,x)
section
variable {x z u:DevS}{F Z q:Int}{l:List Rec}{n:Nat}
end
theorem z7o {x:DevS}{F q:Int}{k:Nat}(h:(x.staleTo F q k).1=0):x.staleTo F q (k+1)=if z1c (x.ge (F+(k+1)))then (x.ge (F+(k+1)),false)else
  (0,(x.staleTo F q k).2||(x.ge (F+(k+1))==0&&(x.fr (F+(k+1))).seq==next q&&((x.fr (F+(k+1))).kind==2||(x.fr (F+(k+1))).kind==3))):=by
 rw[show F+((k:Int)+1)=F+1+k by omega]
 show (if (x.staleTo F q k).1≠0 then _ else _)=_
 rw[if_neg (by rw[h];simp)]
theorem z7u {x:DevS}{F q:Int}{k m:Nat}(h:(x.staleTo F q k).1≠0)(hm:k≤m):x.staleTo F q m=x.staleTo F q k:=by
 induction m with
 | zero=>
  have e:k=0:=by omega
  rw[e]
 | succ m ih=>
  by_cases e:k=m+1
  ·rw[e]
  ·have ih:=ih (by omega)
   show (if (x.staleTo F q m).1≠0 then _ else _)=_
   rw[ih,if_pos h]
theorem z9d {E:Int}(h:z1c E=true):E≠0:=by
 intro e;subst e;exact absurd h (by decide)
theorem ze0 (D:Nat)(F:Int)(Z:Nat)(q:Int)(hq:0≤q∧q<4294967296)(hF:0≤F∧F≤256)(hZ:8≤Z∧Z≤96)(B:List Nat)(x:DevS)(w:World)(h:DevAt w D B x):
  Calls prog 139 #[.pointer (some ⟨D,0,none⟩),.agg #[.int .i64 F,.int .i64 Z],.int .u32 q] w fun e w'=>e=.returned (.tuple #[.bool (x.stale F Z q).2,.int .i64 (x.stale F Z q).1])∧Below w.heap.size w w':=by
 obtain⟨wA,hA⟩:∃wA,wA=w.alloc (.cells #[.int .i64 F,.int .i64 Z] 109):=⟨_,rfl⟩;have bJ:Blk wA w.heap.size 109 #[.int .i64 F,.int .i64 Z]:=by rw[hA];exact(by (repeat' (first|(with_reducible assumption)|exact Blk.new' (by simp)|refine Blk.alloc ?_ _)))
 have BA:Below w.heap.size w wA:=by rw[hA];(repeat' (first|with_reducible (first|exact zho _ _|assumption|refine zhp ?_ ?_ _|refine zhq ?_|refine z00 ?_ _|refine zhr ?_ ?_ _|exact zhT _)|omega|(simp;done)|(simp;omega)))
 have HD:=zhs h;have HS:Hid (x.stale F Z q=x.staleTo F q (Z - 1)):=zhs (by unfold DevS.stale;rw[show ((Z:Int) - 1).toNat=Z - 1 by omega])
 clear h;go_enter func139,ntmps139
 go_wp2_with fail
 rw[←hA];clear hA;go_loopw [6,8,9,10] (fun s6 i _ _ wr=>∃k:Nat,k+1≤Z∧i=.int .i64 ((k:Int)+1)∧s6=.bool (x.staleTo F q k).2∧(x.staleTo F q k).1=0∧Blk wr w.heap.size 109 #[.int .i64 F,.int .i64 Z]∧Below w.heap.size w wr) (fun _ i _ _ _=>Z - (intOf i).toNat)
 case atStart=>exact⟨0,by omega,rfl,rfl,rfl,bJ,BA⟩
 case round=>
  obtain⟨k,hk,rfl,rfl,hs,bJr,hB⟩:=hrel;clear bJ BA;have cJ:=bJr.cells;have lJ:=bJr.lt;by_cases hlt:k+1<Z
  rotate_left
  ·have HE:Hid (x.stale F Z q=x.staleTo F q k):=zhs (by rw[HS.out,show Z - 1=k by omega])
   have h1:¬((k:Int)+1<Z):=by omega
   have HS0:=zhs hs;clear hs hlt hk;go_wp2_with fail
   go_ret2
   exact⟨by rw[HE.out,HS0.out];rfl,hB⟩
  have hlt':(k:Int)+1<Z:=by omega
  have hst:=z7o hs;have HST:=zhs hst;have HS0:=zhs hs;obtain⟨b0,hb0⟩:∃b0,(x.staleTo F q k).2=b0:=⟨_,rfl⟩;have HB0:=zhs hb0;rw[hb0];clear hst hs hb0;go_wp2_with fail
  refine(z4h D B x (F+(k+1)) wr (HD.out.below hB)).mono ?_;rintro e w2 ⟨hb2,rfl⟩;have B2:=hB.trans (hb2.mono hB.size);have bJ2:=bJr.belowAll hb2;have hsq:=zfE x (F+(k+1));obtain⟨E,hE⟩:∃E,x.ge (F+(k+1))=E:=⟨_,rfl⟩;obtain⟨f,hf⟩:∃f,x.fr (F+(k+1))=f:=⟨_,rfl⟩;have HE:=zhs hE;have HF:=zhs hf;rw[hE,hf];rw[hf]at hsq;clear hE hf cJ lJ bJr hB hb2;obtain⟨fk,fs,fd⟩:=f;simp only at hsq ⊢
  obtain⟨w3,hw3⟩:∃w3,w3=w2.alloc (.cells #[.int .i64 fk,.int .u32 fs,.string fd] 190):=⟨_,rfl⟩;obtain⟨FB,hFB⟩:∃FB,FB=w2.heap.size:=⟨_,rfl⟩;have bF3:Blk w3 FB 190 #[.int .i64 fk,.int .u32 fs,.string fd]:=by rw[hw3,hFB];exact Blk.new _ _ _
  have bJ3:Blk w3 w.heap.size 109 #[.int .i64 F,.int .i64 Z]:=by rw[hw3];exact bJ2.alloc _
  have B3:Below w.heap.size w w3:=by rw[hw3];exact B2.alloc B2.size _
  go_upto_region 5 with fail
  rw[←hw3,←hFB];clear hw3 hFB B2 bJ2;go_wp2_with fail
  refine(z7f E w3).mono ?_;rintro e w4 ⟨rfl,hb4⟩;have bF4:=bF3.belowAll hb4;have bJ4:=bJ3.belowAll hb4;have B4:=B3.trans (hb4.mono B3.size);clear bF3 bJ3 B3 hb4;by_cases hbr:z1c E=true
  ·have HN:Hid (x.stale F Z q=(E,false)):=zhs (by
    have h1:x.staleTo F q (k+1)=(E,false):=by rw[HST.out,HE.out,if_pos hbr]
    rw[HS.out,z7u (k:=k+1) (by rw[h1];exact z9d hbr) (by omega),h1])
   go_wp2_with fail
   go_ret2
   exact⟨by rw[HN.out];rfl,B4⟩
  have hbr':z1c E=false:=by simpa using hbr
  have HN:Hid (x.staleTo F q (k+1)=(0,b0||(E==0&&fs==next q&&(fk==2||fk==3)))):=zhs (by rw[HST.out,HE.out,HF.out,if_neg hbr,HB0.out])
  clear hbr;have cF:=bF4.cells;have lF:=bF4.lt;have hnx:(q+1) % 4294967296=next q:=rfl;cases b0
  ·by_cases hE:E=0
   ·subst hE;by_cases hs2:fs=next q
    ·by_cases k2:fk=2
     ·subst k2;subst hs2;go_wp2_with fail
      go_roundw
      case rel=>exact⟨k+1,by omega,by go_num,by rw[HN.out];simp,by rw[HN.out],bJ4,B4⟩
      case measure=>simp[intOf];omega
     ·have k2':(fk==2)=false:=by simpa using k2
      subst hs2;clear k2;go_wp2_with fail
      go_roundw
      case rel=>exact⟨k+1,by omega,by go_num,by rw[HN.out];simp[k2'],by rw[HN.out],bJ4,B4⟩
      case measure=>simp[intOf];omega
    ·have hs':(fs==next q)=false:=by simpa using hs2
     clear hs2;go_wp2_with fail
     go_roundw
     case rel=>exact⟨k+1,by omega,by go_num,by rw[HN.out];simp[hs'],by rw[HN.out],bJ4,B4⟩
     case measure=>simp[intOf];omega
   ·have hE':(E==0)=false:=by simpa using hE
    clear hE;go_wp2_with fail
    go_roundw
    case rel=>exact⟨k+1,by omega,by go_num,by rw[HN.out];simp[hE'],by rw[HN.out],bJ4,B4⟩
    case measure=>simp[intOf];omega
  ·go_wp2_with fail
   go_roundw
   case rel=>exact⟨k+1,by omega,by go_num,by rw[HN.out];simp,by rw[HN.out],bJ4,B4⟩
   case measure=>simp[intOf];omega
end Go.Proofs.YtejmknghkbobnaaGreatDoor
