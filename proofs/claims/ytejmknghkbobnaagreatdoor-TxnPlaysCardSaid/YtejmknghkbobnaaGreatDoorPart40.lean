import Derived.Test.YtejmknghkbobnaaGreatDoorPart00
import Derived.Test.YtejmknghkbobnaaGreatDoorPart39
set_option linter.unusedVariables false
set_option linter.unusedSimpArgs false
set_option maxRecDepth 100000
set_option maxHeartbeats 8000000
namespace Go.Proofs.YtejmknghkbobnaaGreatDoor
open Go.Proofs.Tryz
open Go.RowKit Go.Maps
theorem zdB {y:TxS}(hc:y.Clean)(a:Int):y.look a=z0Y y.recs a:=by
 unfold TxS.look TxS.recs;cases h:y.changed
 ·rw[if_neg (by simp),if_neg (by simp)]
 ·rw[if_pos rfl,z6K];by_cases ha:a=1+y.j
  ·rw[if_pos ⟨ha,rfl⟩,if_pos (show y.bmap.at_=a from ha.symm)];rfl
  ·rw[if_neg (fun h=>ha h.1),if_neg (fun e=>ha (show y.bmap.at_=a from e).symm)]
theorem zbp {l:List Rec}{a:Int}{k:Nat}(hk:k<l.length)(h:∀r∈l.take k,r.at_≠a)(he:l[k].at_=a):z0Y l a=some l[k]:=by
 unfold z0Y;rw[List.find?_eq_some_iff_getElem];refine⟨by simpa using he,k,hk,rfl,fun j hj=>?_⟩
 have:=h l[j] (List.mem_take_iff_getElem.2 ⟨j,by omega,rfl⟩)
 simpa using this
def z2t (r:Int × ByteArray × Int)(w:World)(e:Ending)(w':World):Prop:=
 e=.returned (.tuple #[.int .i64 r.1,.string r.2.1,.int .i64 r.2.2])∧Below w.heap.size w w'
theorem zgk {w:World}{P:Nat→Prop}{x:DevS}{y:TxS}{tv:Array Value}(hq:RTx w P x y tv)(hcalm:x.Calm)(ok:y.Ok)(hc:y.Clean)(a:Int):
  Calls prog 66 #[.agg tv,.int .i64 a] w (z2t (y.read x a) w):=by
 obtain⟨w0,hw0⟩:∃w0,w0=w.alloc (.cells tv 50):=⟨_,rfl⟩;have bT:Blk w0 w.heap.size 50 tv:=by rw[hw0];exact Blk.new _ _ _
 have B0:Below w.heap.size w w0:=by rw[hw0];(repeat' (first|with_reducible (first|exact zho _ _|assumption|refine zhp ?_ ?_ _|refine zhq ?_|refine z00 ?_ _|refine zhr ?_ ?_ _|exact zhT _)|omega|(simp;done)|(simp;omega)))
 have hsz:=hq.size;have hst0:=z2R (hq.below B0);have HQ:=zhs hq;have n5:=hq.nums.1;have HR:Hid (y.read x a=if y.stateE≠0 then (0,⟨#[]⟩,y.stateE)else if a<0∨y.s≤a then (0,⟨#[]⟩,7)else y.readR x a):=zhs rfl
 have hrl:y.recs.length≤81:=by have:=z5G hc (i:=y.writes.length+1) (d:=true) (out:=y.recs) (.inl ⟨rfl,rfl⟩);have:=ok.len;unfold TxS.left TxS.most at this;split at this<;>omega
 clear hq;go_enter func66,ntmps66
 go_upto_region 1 with fail
 rw[←hw0];clear hw0;have l0:=z0n bT hsz;go_wp2_with (refine z02 (by rfl) _ _ rfl (.agg tv) (.pointer (some ⟨w.heap.size,0,none⟩)) rfl l0 ?_)
 refine hst0.mono ?_;rintro e w1 ⟨rfl,hb1⟩;have bT1:=bT.belowAll hb1;have B1:=B0.trans (hb1.mono B0.size);clear hst0 l0 bT B0 hb1;by_cases hE:y.stateE=0
 rotate_left
 ·as_aux_lemma=>
  have HH:Hid (y.read x a=(0,⟨#[]⟩,y.stateE)):=zhs (by rw[HR.out,if_pos hE])
  unfold z2t;generalize y.stateE=E at *;have hE':(E != 0)=true:=by simpa using hE
  have hE2:(E==0)=false:=by simpa using hE
  clear hE HR;go_wp2_with fail
  refine bodyPost_ret (v:=.tuple #[.int .i64 0,.string ⟨#[]⟩,.int .i64 E]) (by simp[results,results66,go_sem]) rfl ?_
  rw[HH.out];exact⟨rfl,B1⟩
 have HR1:Hid (y.read x a=if a<0∨y.s≤a then (0,⟨#[]⟩,7)else y.readR x a):=zhs (by rw[HR.out,if_neg (by rw[hE];simp)])
 rw[hE];clear hE HR;have c5:=(bT1.cells 5).trans n5;have lT:=bT1.lt;by_cases ha:a<0∨y.s≤a
 ·as_aux_lemma=>
  have HH:Hid (y.read x a=(0,⟨#[]⟩,7)):=zhs (by rw[HR1.out,if_pos ha])
  have hd:a<0∨(¬a<0∧y.s≤a):=by omega
  clear ha HR1;rcases hd with hd|⟨hd,hd2⟩
  all_goals
   go_wp2_with fail
   refine bodyPost_ret (v:=.tuple #[.int .i64 0,.string ⟨#[]⟩,.int .i64 7]) (by simp[results,results66,go_sem]) rfl ?_
   rw[HH.out];exact⟨rfl,B1⟩
 have HR2:Hid (y.read x a=match z0Y y.recs a with|some r=>(r.kind,r.data,0)|none=>((x.fr a).kind,(x.fr a).data,x.ge a)):=zhs (by
  rw[HR1.out,if_neg ha];unfold TxS.readR;rw[zdB hc];cases z0Y y.recs a<;>rfl)
 have hd1:¬a<0:=by omega
 have hd2:¬y.s≤a:=by omega
 clear ha HR1;have l1:=z0n bT1 hsz;have hrec:=z3M (HQ.out.below B1) ok hc;go_wp2_with (refine z02 (by rfl) _ _ rfl (.agg tv) (.pointer (some ⟨w.heap.size,0,none⟩)) rfl l1 ?_)
 refine hrec.mono ?_;rintro e w2 ⟨A,c,rfl,ho,hb2⟩;have bT2:=bT1.belowAll hb2;have B2:=B1.trans (hb2.mono B1.size);have HRR:=zhs (show RunAt w2 A y.recs from z1z ho (z2F _))
 clear hrec l1 bT1 hb2 ho c5 lT;go_wp2_with fail
 go_loopw [9] (fun q wr=>∃k:Nat,k≤y.recs.length∧q=.int .i64 k∧(∀r∈y.recs.take k,r.at_≠a)∧wr=w2) (fun q _=>y.recs.length - (RowKit.intOf q).toNat)
 case atStart=>exact⟨0,zi9 _,rfl,fun r hr=>by simp at hr,rfl⟩
 case round=>
  obtain⟨k,hk,rfl,hne,hw⟩:=hrel;replace hw:=hw.symm;subst hw;by_cases hlt:k<y.recs.length
  ·obtain⟨b,off,rfl,hbl,e0,e1,e2⟩:=RunAt.at_ HRR.out hlt;have hlt':(k:Int)<y.recs.length:=by omega
   have hk0:(0:Int)≤k:=by omega
   by_cases hat:y.recs[k].at_=a
   ·as_aux_lemma=>
    have HH:Hid (y.read x a=(y.recs[k].kind,y.recs[k].data,0)):=zhs (by rw[HR2.out,zbp hlt hne hat])
    have hat':(y.recs[k].at_==a)=true:=by simpa using hat
    clear hat hne HR2;generalize y.recs[k]=r at *;obtain⟨ra,rk,rd⟩:=r;simp only at e0 e1 e2 hat' HH
    go_upto_region 11 with fail
    refine z06 [.take 0,.take 1,.take 2,.take 3,.take 4,.take 5,.take 6,.take 7,.take 8,.take 9,.one 10,.one 11,.one 12] 13 (fun W=>W.cell? ⟨b,off+k*3+1,none⟩=some (.int .i64 rk)∧W.cell? ⟨b,off+k*3+2,none⟩=some (.string rd)) (by kernel_rfl) (by kernel_rfl) (fun _ _ _ _ _ h=>h) ⟨e1,e2⟩ ?_
    simp only[zhY,zhZ,Ms.fill,zhy,zhz];iterate 10 (refine z04 (by rfl) ?_ (fun w' hw'=>?_) ?_;rotate_left;(focus (go_simp;(try with_reducible rfl)));(try simp only[Act.put,zht,zhu,zhv]))
    iterate 3 (refine z05 (by rfl) fun K hK=>?_;go_simp;refine hK _ _ (fun _=>⟨e1,e2⟩) ?_;clear hK K)
    refine z0f ?_;go_wp2_with fail
    refine bodyPost_ret (v:=.tuple #[.int .i64 rk,.string rd,.int .i64 0]) (by simp[results,results66,go_sem]) rfl ?_
    unfold z2t;rw[HH.out];exact⟨rfl,B2.drew⟩
   ·as_aux_lemma=>
    have hat':(y.recs[k].at_==a)=false:=by simpa using hat
    have HS:Hid (∀r∈y.recs.take (k+1),r.at_≠a):=zhs fun r hr=>by
     rw[zhE hlt]at hr;rcases zi0.1 hr with hr|hr
     ·exact hne r hr
     ·have e:r=y.recs[k]:=by simpa using hr
      rw[e];exact hat
    clear hat hne;generalize y.recs[k].at_=ra at *;go_wp2_with fail
    go_roundw
    case rel=>exact⟨k+1,by omega,by go_num,HS.out,by first|trivial|rfl⟩
    case measure=>simp[RowKit.intOf];omega
  ·as_aux_lemma=>
   obtain rfl:k=y.recs.length:=by omega
   rw[zia]at hne;have HH:Hid (y.read x a=((x.fr a).kind,(x.fr a).data,x.ge a)):=zhs (by
    have:z0Y y.recs a=none:=by
     unfold z0Y;rw[List.find?_eq_none];intro r hr;simpa using hne r hr
    rw[HR2.out,this])
   have hfz:x.ge a≠0→(x.fr a)=noFr:=fun h=>by unfold DevS.fr;rw[if_neg h]
   have hg:=zeH ((HQ.out.below B2).sv) hcalm a;unfold z2h frV at hg;have lT:=bT2.lt;have l2:=zay bT2 hsz;clear hne HR2;generalize x.ge a=E at *;generalize x.fr a=f at *;go_wp2_with (refine z02 (by rfl) _ _ rfl (.agg (tv.toList.take 5).toArray) (.pointer (some ⟨w.heap.size,0,none⟩)) rfl l2 ?_)
   refine hg.mono ?_;rintro e w3 ⟨rfl,hb3⟩;have B3:=B2.trans (hb3.mono B2.size);obtain⟨fk,fs,fd⟩:=f;simp only at HH ⊢
   clear hg l2 bT2 lT;by_cases hE:E=0
   rotate_left
   ·have hz:=hfz hE;simp only[noFr,Fr.mk.injEq]at hz;obtain⟨rfl,rfl,rfl⟩:=hz;have hE':(E != 0)=true:=by simpa using hE
    clear hE hfz;go_wp2_with fail
    refine bodyPost_ret (v:=.tuple #[.int .i64 0,.string ⟨#[]⟩,.int .i64 E]) (by simp[results,results66,go_sem]) rfl ?_
    unfold z2t;rw[HH.out];exact⟨rfl,B3.alloc B3.size _⟩
   subst hE;clear hfz;obtain⟨w4,hw4⟩:∃w4,w4=w3.alloc (.cells #[.int .i64 fk,.int .u32 fs,.string fd] 190):=⟨_,rfl⟩;have bF:Blk w4 w3.heap.size 190 #[.int .i64 fk,.int .u32 fs,.string fd]:=by rw[hw4];exact Blk.new _ _ _
   have B4:Below w.heap.size w w4:=by rw[hw4];exact B3.alloc B3.size _
   go_upto_region 15 with fail
   rw[←hw4];clear hw4;have s0:w4.drew.cell? ⟨w3.heap.size,0,none⟩=some (.int .i64 fk)∧w4.drew.cell? ⟨w3.heap.size,2,none⟩=some (.string fd):=⟨(bF.cells 0).trans rfl,(bF.cells 2).trans rfl⟩;refine z06 [.take 0,.take 1,.take 2,.take 3,.one 4,.one 5,.one 6] 7 (fun W=>W.cell? ⟨w3.heap.size,0,none⟩=some (.int .i64 fk)∧W.cell? ⟨w3.heap.size,2,none⟩=some (.string fd)) (by kernel_rfl) (by kernel_rfl) (fun _ _ _ _ _ h=>h) s0 ?_
   simp only[zhY,zhZ,Ms.fill,zhy,zhz];iterate 4 (refine z04 (by rfl) ?_ (fun w' hw'=>?_) ?_;rotate_left;(focus (go_simp;(try with_reducible rfl)));(try simp only[Act.put,zht,zhu,zhv]))
   iterate 3 (refine z05 (by rfl) fun K hK=>?_;go_simp;refine hK _ _ (fun _=>s0) ?_;clear hK K)
   refine z0f ?_;go_wp2_with fail
   refine bodyPost_ret (v:=.tuple #[.int .i64 fk,.string fd,.int .i64 0]) (by simp[results,results66,go_sem]) rfl ?_
   unfold z2t;rw[HH.out];exact⟨rfl,B4.drew⟩
theorem zaq {l:List Rec}{b r:Rec}(h:∀r∈l,r.at_<b.at_)(hr:r.at_=b.at_):z0s (l++[r]) b=l++[b]:=by
 induction l with
 | nil=>
  show z0s [r] b=_
  unfold z0s;rw[if_neg (by omega),if_pos hr.symm]
  rfl
 | cons x t ih=>
  have hx:=h x (zhK ..);show z0s (x::(t++[r])) b=_
  unfold z0s;rw[if_neg (by omega),if_neg (by omega),ih fun r hr=>h r (zhJ _ hr)]
  rfl
theorem z6S (l:List Rec)(r:Rec)(a:Int):z0Y (l++[r]) a=match z0Y l a with|some z=>some z|none=>if r.at_=a then some r else none:=by
 unfold z0Y;rw[List.find?_append];cases l.find? (fun r=>r.at_==a)with
 | some z=>rfl
 | none=>
  by_cases h:r.at_=a
  ·simp[h]
  ·simp[h]
theorem z7T {l:List Rec}{a:Int}(h:∀r∈l,r.at_≠a):z0Y l a=none:=by
 unfold z0Y;rw[List.find?_eq_none];intro r hr;simpa using h r hr
def WrS (L:List Rec)(b:Rec)(i:Nat)(put:Bool)(more:Int)(out:List Rec):Prop:=
 (put=false∧more=1∧out=L.take i∧∀r∈L.take i,r.at_<b.at_)∨(put=true∧out=z0s (L.take i) b∧(∃r∈L.take i,b.at_≤r.at_)∧more=(if (z0Y (L.take i) b.at_).isSome then 0 else 1))
section
variable {L:List Rec}{b:Rec}{i:Nat}{put:Bool}{more:Int}{out:List Rec}
theorem zgX (hl:i<L.length)(hS:WrS L b i false more out)(he:L[i].at_=b.at_):WrS L b (i+1) true 0 (out++[b]):=by
 rcases hS with ⟨-,-,h3,h4⟩|⟨h,-⟩
 ·subst h3;refine .inr ⟨rfl,?_,⟨L[i],?_,by omega⟩,?_⟩
  ·rw[zhE hl,zaq h4 he]
  ·rw[zhE hl];exact zhI _ (zi4.2 rfl)
  ·rw[zhE hl,z6S,z7T (fun r hr=>by have:=h4 r hr;omega)]
   simp[he]
 ·cases h
theorem zh7 (hA:Asc L)(hl:i<L.length)(hS:WrS L b i true more out):L[i].at_≠b.at_:=by
 rcases hS with ⟨h,-⟩|⟨-,-,⟨r,hr,hb⟩,-⟩
 ·cases h
 ·obtain⟨j,hj,e⟩:=List.mem_take_iff_getElem.1 hr;have:=List.pairwise_iff_getElem.1 hA j i (by omega) hl (by omega)
  rw[e]at this;omega
theorem zgH (hl:i<L.length)(hS:WrS L b i false more out)(hg:b.at_<L[i].at_):more=1∧WrS L b (i+1) true 1 (out++[b]++[L[i]]):=by
 rcases hS with ⟨-,h2,h3,h4⟩|⟨h,-⟩
 ·subst h3;refine⟨h2,.inr ⟨rfl,?_,⟨L[i],?_,by omega⟩,?_⟩⟩
  ·rw[zhE hl,z7p h4 hg]
  ·rw[zhE hl];exact zhI _ (zi4.2 rfl)
  ·rw[zhE hl,z6S,z7T (fun r hr=>by have:=h4 r hr;omega)]
   have:¬L[i].at_=b.at_:=by omega
   simp[this]
 ·cases h
theorem zf5 (hl:i<L.length)(hS:WrS L b i put more out)(hn:L[i].at_≠b.at_)(hg:put=true∨¬b.at_<L[i].at_):WrS L b (i+1) put more (out++[L[i]]):=by
 rcases hS with ⟨h1,h2,h3,h4⟩|⟨h1,h2,⟨r,hr,hb⟩,h4⟩
 ·subst h3;refine .inl ⟨h1,h2,?_,?_⟩
  ·rw[zhE hl]
  ·intro r hr;rw[zhE hl]at hr;rcases zi0.1 hr with hr|hr
   ·exact h4 r hr
   ·have e:r=L[i]:=by simpa using hr
    rw[e];rcases hg with hg|hg
    ·rw[h1]at hg;cases hg
    ·omega
 ·subst h2;refine .inr ⟨h1,?_,⟨r,?_,hb⟩,?_⟩
  ·rw[zhE hl,z6n ⟨r,hr,hb⟩]
  ·rw[zhE hl];exact zhH _ hr
  ·rw[h4,zhE hl,z6S];cases z0Y (L.take i) b.at_ with
   | some z=>rfl
   | none=>simp[hn]
theorem zgn (hS:WrS L b L.length put more out):(if put then out else out++[b])=z0s L b∧more=(if (z0Y L b.at_).isSome then 0 else 1):=by
 rcases hS with ⟨rfl,h2,h3,h4⟩|⟨rfl,h2,-,h4⟩
 ·rw[zia]at h3 h4;subst h3;refine⟨(z6W h4).symm,?_⟩
  rw[h2,z7T (fun r hr=>by have:=h4 r hr;omega)]
  rfl
 ·rw[zia]at h2 h4;exact⟨h2,h4⟩
theorem zfu (hA:Asc L)(hS:WrS L b i put more out):out.length≤L.length+1:=by
 rcases hS with ⟨-,-,rfl,-⟩|⟨-,rfl,-,-⟩
 ·rw[zi6];omega
 ·have:Asc (L.take i):=List.Pairwise.sublist (List.take_sublist _ _) hA
  rw[z2r this];split<;>(rw[zi6];omega)
end
theorem RTx.setRun {w:World}{P:Nat→Prop}{x:DevS}{y:TxS}{tv:Array Value}{A:Option Addr}{c:Nat}{l:List Rec}{base:Nat}(h:RTx w P x y tv)(ho:w.ownsRow base 118 3 (.slice A l.length c) l.length (l.flatMap recV))(hP:∀b,base≤b→P b):
  RTx w P x { y with writes:=l } (tv.setIfInBounds 21 (.slice A l.length c)):=by
 obtain⟨p,rfl,h⟩:=h;exact⟨{ p with L:=A,lc:=c },rfl,h.dev,h.was,h.now,z1z ho (z2F l),h.lw,h.ln,.inr (z2m ho hP),h.nc,z5H ho⟩
theorem z82 {w:World}{P:Nat→Prop}{x:DevS}{y:TxS}{tv:Array Value}(hq:RTx w P x y tv)(hP:∀b,w.heap.size≤b→P b)(ok:y.Ok)(hc:y.Clean)(a k:Int)(d:ByteArray)(hdl:d.size≤maxLen):
  Calls prog 65 #[.agg tv,.int .i64 a,.int .i64 k,.string d] w (RTgot w P x (y.write a k d)):=by
 obtain⟨w0,hw0⟩:∃w0,w0=(w.alloc (.cells tv 50)).alloc (.cells txZ 50):=⟨_,rfl⟩;have bT:Blk w0 w.heap.size 50 tv:=by rw[hw0];exact(Blk.new _ _ _).alloc _
 have bR:Blk w0 (w.heap.size+1) 50 txZ:=by rw[hw0];exact Blk.new' (by simp)
 have B0:Below w.heap.size w w0:=by rw[hw0];(repeat' (first|with_reducible (first|exact zho _ _|assumption|refine zhp ?_ ?_ _|refine zhq ?_|refine z00 ?_ _|refine zhr ?_ ?_ _|exact zhT _)|omega|(simp;done)|(simp;omega)))
 have hQ0:=hq.apt B0 w0.heap.size;have HN:=zhs (Apt_.new hP B0.size);have hsz:=hq.size;have hone:=hq.one;have zR:=zhs bR.lt;have hst0:=z2R hQ0;have HQ:=zhs hQ0;have hbd:=z10 ok.rg;have hlen:y.writes.length≤80:=by have:=ok.len;unfold TxS.left TxS.most at this;split at this<;>omega
 obtain⟨n5,n6,n7,n8,n9⟩:=hq.nums;have HW:Hid (y.write a k d=if y.stateE≠0 then (y.stateE,y)else if y.writeE a k d.size≠0 then (y.writeE a k d.size,y.brk)else (0,{ y with writes:=z0s y.writes ⟨a,k,d⟩ })):=zhs rfl
 have HWE:Hid (y.writeE a k d.size=if (1≤a∧a<1+y.j)∨a=1+y.j then 2 else if (a<0∨y.s≤a)∨k<1∨255<k then 7 else if 96<d.size then 3 else if (z0Y y.writes a).isNone=true∧y.left<1 then 12 else 0):=zhs rfl
 unfold maxLen at hdl;clear hq hQ0 hP;unfold txZ txR at hw0;go_enter func65,ntmps65
 go_upto_region 1 with fail
 rw[←hw0];clear hw0;have l0:=z0n bT hsz;go_wp2_with (refine z02 (by rfl) _ _ rfl (.agg tv) (.pointer (some ⟨w.heap.size,0,none⟩)) rfl l0 ?_)
 refine hst0.mono ?_;rintro e w1 ⟨rfl,hb1⟩;have bT1:=bT.belowAll hb1;have bR1:=bR.belowAll hb1;have B1:=B0.trans (hb1.mono B0.size);have hQ1:=HQ.out.below hb1;have HZ1:=zhs hb1.size;clear hst0 l0 bT bR B0 hb1;by_cases hE:y.stateE=0
 rotate_left
 ·as_aux_lemma=>
  have HH:Hid (y.write a k d=(y.stateE,y)):=zhs (by rw[HW.out,if_pos hE])
  clear HW HWE;generalize y.stateE=E at *;have hE':(E != 0)=true:=by simpa using hE
  have l1:=z0n bT1 hsz;have hst:=z0v bR1 rfl hsz hone;have bR2:=bR1.setRow (cs':=tv);have hfin:=RTgot.mk (R:=w.heap.size+1) E hQ1 B1 (by omega) zR.out
  clear hE;go_wp2_with (first|(refine z02 (by rfl) _ _ rfl (.agg tv) (.pointer (some ⟨w.heap.size,0,none⟩)) rfl l1 ?_)|(refine z01 rfl _ _ _ rfl _ _ rfl rfl hst ?_))
  refine bodyPost_ret (z08 (cs:=tv) rfl rfl rfl bR2 underlying50 (by rw[hsz];kernel_rfl)) rfl ?_
  rw[HH.out];exact hfin
 have HW1:Hid (y.write a k d=if y.writeE a k d.size≠0 then (y.writeE a k d.size,y.brk)else (0,{ y with writes:=z0s y.writes ⟨a,k,d⟩ })):=zhs (by rw[HW.out,if_neg (by rw[hE];simp)])
 rw[hE];clear hE HW;have c5:=(bT1.cells 5).trans n5;have c6:=(bT1.cells 6).trans n6;have c8:=(bT1.cells 8).trans n8;have c9:=(bT1.cells 9).trans n9;have lT:=bT1.lt;by_cases h1:(1≤a∧a<1+y.j)∨a=1+y.j
 ·as_aux_lemma=>
  have HH:Hid (y.write a k d=(2,y.brk)):=zhs (by
   have e:y.writeE a k d.size=2:=by rw[HWE.out,if_pos h1]
   rw[HW1.out,e];rfl)
  have hd:(1≤a∧a<1+y.j)∨(1≤a∧¬a<1+y.j∧(a==1+y.j)=true):=by
   rcases h1 with h1|h1
   ·exact .inl h1
   ·exact .inr ⟨by omega,by omega,by simpa using h1⟩
  clear h1 HW1 HWE;rcases hd with ⟨hd,hd2⟩|⟨hd,hd2,hd3⟩
  all_goals
   have hbr:=z2y hQ1 2;have l1:=z0n bT1 hsz;go_wp2_with (refine z02 (by rfl) _ _ rfl (.agg tv) (.pointer (some ⟨w.heap.size,0,none⟩)) rfl l1 ?_)
   refine hbr.mono ?_;rintro e w2 ⟨tv2,rfl,hq2,hb2⟩;have hsz2:=hq2.size;have hst:=z0v (bR1.belowAll hb2) rfl hsz2 hq2.one;have bR3:=(bR1.belowAll hb2).setRow (cs':=tv2);have hfin:=RTgot.mk (R:=w.heap.size+1) 2 hq2 (B1.trans (hb2.mono B1.size)) (by omega) zR.out
   clear hbr l1;go_wp2_with (refine z01 rfl _ _ _ rfl _ _ rfl rfl hst ?_)
   refine bodyPost_ret (z08 (cs:=tv2) rfl rfl rfl bR3 underlying50 (by rw[hsz2];kernel_rfl)) rfl ?_
   rw[HH.out];exact hfin
 have hn1:(¬1≤a∧(a==1+y.j)=false)∨(1≤a∧¬a<1+y.j∧(a==1+y.j)=false):=by
  have e:(a==1+y.j)=false:=by rw[beq_eq_false_iff_ne];exact fun e=>h1 (.inr e)
  by_cases h:1≤a
  ·exact .inr ⟨h,fun h2=>h1 (.inl ⟨h,h2⟩),e⟩
  ·exact .inl ⟨h,e⟩
 have HWE2:Hid (y.writeE a k d.size=if (a<0∨y.s≤a)∨k<1∨255<k then 7 else if 96<d.size then 3 else if (z0Y y.writes a).isNone=true∧y.left<1 then 12 else 0):=zhs (by rw[HWE.out,if_neg h1])
 have HN1:=zhs hn1;clear HWE h1 hn1;go_upto_region 4 with fail
 go_cut [44]from 22 to 43 (fun s44 wx=>s44=.bool false∧wx=w1)
 case first=>
  as_aux_lemma=>
  rcases HN1.out with ⟨h1,h2⟩|⟨h1,h2,h3⟩
  all_goals
   go_wp2_with fail
   go_meet
   case rel=>first|exact⟨rfl,rfl⟩|exact⟨by rw[decide_eq_false (by omega)],rfl⟩
 case rest=>
 obtain⟨rfl,hwc⟩:=hcut;replace hwc:=hwc.symm;subst hwc;by_cases h2:(a<0∨y.s≤a)∨k<1∨255<k
 ·as_aux_lemma=>
  have HH:Hid (y.write a k d=(7,y.brk)):=zhs (by
   have e:y.writeE a k d.size=7:=by rw[HWE2.out,if_pos h2]
   rw[HW1.out,e];rfl)
  have hd:a<0∨(¬a<0∧y.s≤a)∨(¬a<0∧¬y.s≤a∧k<1)∨(¬a<0∧¬y.s≤a∧¬k<1∧255<k):=by omega
  clear h2 HW1 HWE2;rcases hd with hd|⟨hd,hd2⟩|⟨hd,hd2,hd3⟩|⟨hd,hd2,hd3,hd4⟩
  all_goals
   have hbr:=z2y hQ1 7;have l1:=z0n bT1 hsz;go_wp2_with (refine z02 (by rfl) _ _ rfl (.agg tv) (.pointer (some ⟨w.heap.size,0,none⟩)) rfl l1 ?_)
   refine hbr.mono ?_;rintro e w9 ⟨tv9,rfl,hq9,hb9⟩;have hsz9:=hq9.size;have hst:=z0v (bR1.belowAll hb9) rfl hsz9 hq9.one;have bR9:=(bR1.belowAll hb9).setRow (cs':=tv9);have hfin:=RTgot.mk (R:=w.heap.size+1) 7 hq9 (B1.trans (hb9.mono B1.size)) (by omega) zR.out
   clear hbr l1;go_wp2_with (refine z01 rfl _ _ _ rfl _ _ rfl rfl hst ?_)
   refine bodyPost_ret (z08 (cs:=tv9) rfl rfl rfl bR9 underlying50 (by rw[hsz9];kernel_rfl)) rfl ?_
   rw[HH.out];exact hfin
 have HWE3:Hid (y.writeE a k d.size=if 96<d.size then 3 else if (z0Y y.writes a).isNone=true∧y.left<1 then 12 else 0):=zhs (by rw[HWE2.out,if_neg h2])
 have g1:¬a<0:=by omega
 have g2:¬y.s≤a:=by omega
 have g3:¬k<1:=by omega
 have g4:¬255<k:=by omega
 clear HWE2 h2;by_cases h3:96<d.size
 ·as_aux_lemma=>
  have HH:Hid (y.write a k d=(3,y.brk)):=zhs (by
   have e:y.writeE a k d.size=3:=by rw[HWE3.out,if_pos h3]
   rw[HW1.out,e];rfl)
  have hd:(96:Int)<d.size:=by omega
  clear h3 HW1 HWE3;have hbr:=z2y hQ1 3;have l1:=z0n bT1 hsz;go_wp2_with (refine z02 (by rfl) _ _ rfl (.agg tv) (.pointer (some ⟨w.heap.size,0,none⟩)) rfl l1 ?_)
  refine hbr.mono ?_;rintro e w9 ⟨tv9,rfl,hq9,hb9⟩;have hsz9:=hq9.size;have hst:=z0v (bR1.belowAll hb9) rfl hsz9 hq9.one;have bR9:=(bR1.belowAll hb9).setRow (cs':=tv9);have hfin:=RTgot.mk (R:=w.heap.size+1) 3 hq9 (B1.trans (hb9.mono B1.size)) (by omega) zR.out
  clear hbr l1;go_wp2_with (refine z01 rfl _ _ _ rfl _ _ rfl rfl hst ?_)
  refine bodyPost_ret (z08 (cs:=tv9) rfl rfl rfl bR9 underlying50 (by rw[hsz9];kernel_rfl)) rfl ?_
  rw[HH.out];exact hfin
 have HWE4:Hid (y.writeE a k d.size=if (z0Y y.writes a).isNone=true∧y.left<1 then 12 else 0):=zhs (by rw[HWE3.out,if_neg h3])
 have hd3:¬(96:Int)<d.size:=by omega
 clear HWE3 h3;obtain⟨XB,hXB⟩:∃XB,XB=w1.heap.size:=⟨_,rfl⟩;obtain⟨w2,hw2⟩:∃w2,w2=w1.alloc (.cells #[.int .i64 a,.int .i64 k,.string d] 118):=⟨_,rfl⟩;have bX2:Blk w2 XB 118 #[.int .i64 a,.int .i64 k,.string d]:=by rw[hw2,hXB];exact Blk.new _ _ _
 have b12:Below w1.heap.size w1 w2:=by rw[hw2];exact(zho _ _).alloc (zhT _) _
 go_upto_region 6 with fail
 go_upto_region 8 with fail
 go_upto_region 10 with fail
 go_upto_region 11 with fail
 rw[←hw2,←hXB];have hXl:w0.heap.size≤XB:=by rw[hXB];exact HZ1.out
 have hXl2:w.heap.size+1<XB:=by have:=zR.out;omega
 have bT2:=bT1.belowAll b12;have bR2:=bR1.belowAll b12;have B2:=B1.trans (b12.mono B1.size);have hQ2:=hQ1.below b12;have hX3:XB<w2.heap.size:=bX2.lt;clear hw2 hXB b12 bT1 bR1 B1 hQ1 c5 c6 c8 c9 lT HZ1;obtain⟨p,htv,hp⟩:=hQ2;have hc21:tv[21]?=some (.slice p.L y.writes.length p.lc):=by rw[htv];rfl
 have hrun:=hp.run;have hQ2:RTx w2 (Apt_ P w.heap.size w0.heap.size) x y tv:=⟨p,htv,hp⟩;clear hp htv;have HQ2:=zhs hQ2;have HT2:=zhs bT2;have HX2:=zhs bX2;have HR2:=zhs (And.intro bR2 B2);have HC21:=zhs hc21;have HRUN:=zhs hrun;have HSZ:=zhs (And.intro hXl (And.intro hXl2 hX3));have HHS:=zhs (And.intro hsz hone);clear hQ2 bT2 bX2 bR2 B2 hc21 hrun hXl hXl2 hX3 n5 n6 n7 n8 n9 g1 g2 g3 g4 hd3 hsz hone hbd;go_wp2_with fail
 go_loopw [12,13,14,15] (fun v12 v13 v14 v15 wr=>∃(i:Nat) (put:Bool) (more:Int) (A:Option Addr) (c:Nat) (out:List Rec),i≤y.writes.length∧v15=.int .i64 i∧v14=.int .i64 more∧v13=.bool put∧v12=.slice A out.length c∧WrS y.writes ⟨a,k,d⟩ i put more out∧wr.ownsRow w2.heap.size 118 3 (.slice A out.length c) out.length (out.flatMap recV)∧Below w2.heap.size w2 wr) (fun _ _ _ v15 _=>y.writes.length - (RowKit.intOf v15).toNat)
 case atStart=>exact⟨0,false,1,none,0,[],zi9 _,rfl,rfl,rfl,rfl,.inl ⟨rfl,rfl,rfl,fun r hr=>by simp at hr⟩,World.ownsRow_nil _ _ _ _,zho _ _⟩
 case round=>
  obtain⟨i,put,more,A,c,out,hi,rfl,rfl,rfl,rfl,hws,hown,hB⟩:=hrel;have HO:=zhs hown;have HS:=zhs hws;have hos:=zfu hc.asc hws;have c21:=((HT2.out.belowAll hB).cells 21).trans HC21.out;have lT:=(HT2.out.belowAll hB).lt;have x0:wr.cell? ⟨XB,0,none⟩=some (.int .i64 a):=((HX2.out.belowAll hB).cells 0).trans rfl;have x1:wr.cell? ⟨XB,1,none⟩=some (.int .i64 k):=((HX2.out.belowAll hB).cells 1).trans rfl;have x2:wr.cell? ⟨XB,2,none⟩=some (.string d):=((HX2.out.belowAll hB).cells 2).trans rfl;have lX:=(HX2.out.belowAll hB).lt;clear hown hws;by_cases hlt:i<y.writes.length
  ·obtain⟨b,off,hpL,hbl,e0,e1,e2⟩:=RunAt.at_ (Reads.below HRUN.out hB) hlt;have HPL:=zhs hpL;rw[hpL]at c21;have hbl2:b<w2.heap.size:=by
    rcases HRUN.out with h|⟨b',off',e',hl',-⟩
    ·exact absurd h (zfC (fun e=>by rw[e]at hlt;simp at hlt))
    ·rw[hpL]at e';cases e';exact hl'
   have hlt':(i:Int)<y.writes.length:=by omega
   by_cases hat:y.writes[i].at_=a
   ·as_aux_lemma=>
    cases put;rotate_left
    ·exact absurd hat (zh7 hc.asc hlt HS.out)
    have HS2:=zhs (zgX hlt HS.out hat);have hat':(y.writes[i].at_==a)=true:=by simpa using hat
    clear hat HS hpL;generalize y.writes[i].at_=ra at *;obtain⟨A3,c3,w3,hr3,ho3,hb3⟩:=z3a HO.out hB.size (by omega) ⟨a,k,d⟩
    have HF:=zhs (And.intro ho3 (hB.trans hb3));clear ho3 hb3;simp only at hr3
    go_wp2_with (refine z0m rfl _ _ _ rfl (.slice A out.length c) (.slice (some ⟨wr.heap.size,0,none⟩) 1 1) (.slice A3 (out.length+1) c3) rfl rfl hr3 ?_)
    go_roundw
    case rel=>exact⟨i+1,true,0,A3,c3,out++[⟨a,k,d⟩],by omega,by go_num,rfl,rfl,by rw[zhF];rfl,HS2.out,HF.out.1,HF.out.2⟩
    case measure=>simp[RowKit.intOf]<;>omega
   have hat':(y.writes[i].at_==a)=false:=by simpa using hat
   by_cases hgt:put=false∧a<y.writes[i].at_
   ·as_aux_lemma=>
    obtain⟨rfl,hgt⟩:=hgt;obtain⟨hm1,hws2⟩:=zgH hlt HS.out hgt;have HS2:=zhs hws2;have HM:=zhs hm1;clear hat HS hpL hws2 hm1;generalize y.writes[i]=r at *;obtain⟨ra,rk,rd⟩:=r;simp only at e0 e1 e2 hat' hgt
    obtain⟨A3,c3,w3,hr3,ho3,hb3⟩:=z3a HO.out hB.size (by omega) ⟨a,k,d⟩
    have hB3:=hB.trans hb3;have e1':(out++[(⟨a,k,d⟩:Rec)]).length=out.length+1:=by rw[zhF];rfl
    obtain⟨A4,c4,w4,hr4,ho4,hb4⟩:=z3a ho3 hB3.size (by rw[e1'];omega) ⟨ra,rk,rd⟩
    have HF:=zhs (And.intro ho4 (hB3.trans hb4));rw[e1']at hr4;have bT3:=HT2.out.belowAll hB3;have d21:=(bT3.cells 21).trans HC21.out;rw[HPL.out]at d21;have lT3:=bT3.lt;have f0:=(hB3.cell (p:=⟨b,off+i*3,none⟩) hbl2).trans ((hB.cell (p:=⟨b,off+i*3,none⟩) hbl2).symm.trans e0);have f1:=(hB3.cell (p:=⟨b,off+i*3+1,none⟩) hbl2).trans ((hB.cell (p:=⟨b,off+i*3+1,none⟩) hbl2).symm.trans e1);have f2:=(hB3.cell (p:=⟨b,off+i*3+2,none⟩) hbl2).trans ((hB.cell (p:=⟨b,off+i*3+2,none⟩) hbl2).symm.trans e2);have hbl3:b<w3.heap.size:=zhR hbl2 hB3.size;clear ho3 hb3 ho4 hb4 e1';simp only at hr3 hr4
    go_upto_region 17 with fail
    go_upto_region 21 with fail
    go_upto_region 22 with fail
    go_upto_region 23 with (refine z0m rfl _ _ _ rfl (.slice A out.length c) (.slice (some ⟨wr.heap.size,0,none⟩) 1 1) (.slice A3 (out.length+1) c3) rfl rfl hr3 ?_)
    go_upto_region 24 with fail
    go_wp2_with (first|(refine z0m rfl _ _ _ rfl (.slice A out.length c) (.slice (some ⟨wr.heap.size,0,none⟩) 1 1) (.slice A3 (out.length+1) c3) rfl rfl hr3 ?_)|(refine z0m rfl _ _ _ rfl (.slice A3 (out.length+1) c3) (.slice (some ⟨w3.heap.size,0,none⟩) 1 1) (.slice A4 (out.length+1+1) c4) rfl rfl hr4 ?_))
    go_roundw
    case rel=>exact⟨i+1,true,1,A4,c4,out++[⟨a,k,d⟩]++[⟨ra,rk,rd⟩],by omega,by go_num,by rw[HM.out],rfl,by rw[zhF,zhF];rfl,HS2.out,HF.out.1,HF.out.2⟩
    case measure=>simp[RowKit.intOf]<;>omega
   ·as_aux_lemma=>
    have hgt2:put=true∨¬a<y.writes[i].at_:=by
     cases put
     ·exact .inr fun h=>hgt ⟨rfl,h⟩
     ·exact .inl rfl
    have HS2:=zhs (zf5 hlt HS.out hat hgt2);clear hat HS hpL hgt;generalize y.writes[i]=r at *;obtain⟨ra,rk,rd⟩:=r;simp only at e0 e1 e2 hat' hgt2
    obtain⟨A3,c3,w3,hr3,ho3,hb3⟩:=z3a HO.out hB.size (by omega) ⟨ra,rk,rd⟩
    have HF:=zhs (And.intro ho3 (hB.trans hb3));clear ho3 hb3;simp only at hr3
    cases put
    ·have hgt3:¬a<ra:=hgt2.resolve_left (by simp)
     clear hgt2;go_upto_region 17 with fail
     go_upto_region 21 with fail
     go_upto_region 24 with fail
     go_wp2_with (refine z0m rfl _ _ _ rfl (.slice A out.length c) (.slice (some ⟨wr.heap.size,0,none⟩) 1 1) (.slice A3 (out.length+1) c3) rfl rfl hr3 ?_)
     go_roundw
     case rel=>exact⟨i+1,false,more,A3,c3,out++[⟨ra,rk,rd⟩],by omega,by go_num,rfl,rfl,by rw[zhF];rfl,HS2.out,HF.out.1,HF.out.2⟩
     case measure=>simp[RowKit.intOf]<;>omega
    ·clear hgt2;go_upto_region 17 with fail
     go_upto_region 21 with fail
     go_upto_region 24 with fail
     go_wp2_with (refine z0m rfl _ _ _ rfl (.slice A out.length c) (.slice (some ⟨wr.heap.size,0,none⟩) 1 1) (.slice A3 (out.length+1) c3) rfl rfl hr3 ?_)
     go_roundw
     case rel=>exact⟨i+1,true,more,A3,c3,out++[⟨ra,rk,rd⟩],by omega,by go_num,rfl,rfl,by rw[zhF];rfl,HS2.out,HF.out.1,HF.out.2⟩
     case measure=>simp[RowKit.intOf]<;>omega
  ·obtain rfl:i=y.writes.length:=by omega
   obtain⟨hend,hmore⟩:=zgn HS.out;have HEND:=zhs hend;have HMO:=zhs hmore;have hd9:¬((y.writes.length:Int)<y.writes.length):=by omega
   clear HS hend hmore;go_upto_if 125 with fail
   go_cut [12]from 124 to 129 (fun s12 wx=>∃(A2:Option Addr) (c2:Nat),s12=.slice A2 (z0s y.writes ⟨a,k,d⟩).length c2∧wx.ownsRow w2.heap.size 118 3 (.slice A2 (z0s y.writes ⟨a,k,d⟩).length c2) (z0s y.writes ⟨a,k,d⟩).length ((z0s y.writes ⟨a,k,d⟩).flatMap recV)∧Below w2.heap.size w2 wx)
   case first=>
    as_aux_lemma=>
    cases put
    ·obtain⟨A3,c3,w3,hr3,ho3,hb3⟩:=z3a HO.out hB.size (by omega) ⟨a,k,d⟩
     have e:out++[(⟨a,k,d⟩:Rec)]=z0s y.writes ⟨a,k,d⟩:=HEND.out;have e1:(z0s y.writes ⟨a,k,d⟩).length=out.length+1:=by rw[←e,zhF];rfl
     rw[e]at ho3;have HF:=zhs (And.intro ho3 (hB.trans hb3));have HE1:=zhs e1;clear ho3 hb3 e e1;simp only at hr3
     go_wp2_with (refine z0m rfl _ _ _ rfl (.slice A out.length c) (.slice (some ⟨wr.heap.size,0,none⟩) 1 1) (.slice A3 (out.length+1) c3) rfl rfl hr3 ?_)
     go_meet
     case rel=>exact⟨A3,c3,by rw[HE1.out],HF.out.1,HF.out.2⟩
    ·have e:out=z0s y.writes ⟨a,k,d⟩:=HEND.out;have HF:=zhs (And.intro HO.out hB);go_wp2_with fail
     go_meet
     case rel=>exact⟨A,c,by rw[←e],by rw[←e];exact HF.out.1,HF.out.2⟩
   case rest=>
    as_aux_lemma=>
    obtain⟨A2,c2,rfl,ho2,hB2⟩:=hcut;clear HEND HO hos c21 lT x0 x1 x2 lX hB;have bT5:=HT2.out.belowAll hB2;have bR5:=HR2.out.1.belowAll hB2;have B5:=HR2.out.2.trans (hB2.mono HR2.out.2.size);have hQ5:=HQ2.out.below hB2;have hl0:=ok.len;have hsz:=HHS.out.1;have hl5:=z9P hQ5 ok hc;have l5:=z0n bT5 hsz;have HO2:=zhs ho2;have HB2:=zhs hB2.size;clear ho2 hB2;go_wp2_with (refine z02 (by rfl) _ _ rfl (.agg tv) (.pointer (some ⟨w.heap.size,0,none⟩)) rfl l5 ?_)
    refine hl5.mono ?_;rintro e w5 ⟨rfl,hb5⟩;clear hl5 l5;have hmore:=HMO.out;by_cases hlm:y.left<more
    ·as_aux_lemma=>
     have HH:Hid (y.write a k d=(12,y.brk)):=zhs (by
      have e:y.writeE a k d.size=12:=by
       rw[HWE4.out,if_pos];cases h:z0Y y.writes a with
       | none=>rw[h]at hmore;exact⟨rfl,by simp at hmore;omega⟩
       | some z=>rw[h]at hmore;simp at hmore;omega
      rw[HW1.out,e];rfl)
     clear HW1 HWE4 hmore hl0;have bT6:=bT5.belowAll hb5;have bR6:=bR5.belowAll hb5;have B6:=B5.trans (hb5.mono B5.size);have hQ6:=hQ5.below hb5;have hbr:=z2y hQ6 12;have l1:=z0n bT6 hsz;clear bT5 bR5 B5 hQ5;go_wp2_with (refine z02 (by rfl) _ _ rfl (.agg tv) (.pointer (some ⟨w.heap.size,0,none⟩)) rfl l1 ?_)
     refine hbr.mono ?_;rintro e w9 ⟨tv9,rfl,hq9,hb9⟩;have hsz9:=hq9.size;have hst:=z0v (bR6.belowAll hb9) rfl hsz9 hq9.one;have bR9:=(bR6.belowAll hb9).setRow (cs':=tv9);have hfin:=RTgot.mk (R:=w.heap.size+1) 12 hq9 (B6.trans (hb9.mono B6.size)) (by omega) zR.out
     clear hbr l1;go_wp2_with (refine z01 rfl _ _ _ rfl _ _ rfl rfl hst ?_)
     refine bodyPost_ret (z08 (cs:=tv9) rfl rfl rfl bR9 underlying50 (by rw[hsz9];kernel_rfl)) rfl ?_
     rw[HH.out];exact hfin
    ·as_aux_lemma=>
     have HH:Hid (y.write a k d=(0,{ y with writes:=z0s y.writes ⟨a,k,d⟩ })):=zhs (by
      have e:y.writeE a k d.size=0:=by
       rw[HWE4.out,if_neg];rintro ⟨h1,h2⟩;cases h:z0Y y.writes a with
       | none=>rw[h]at hmore;simp at hmore;omega
       | some z=>rw[h]at h1;simp at h1
      rw[HW1.out,e];rfl)
     clear HW1 HWE4 hmore hl0;have bT6:=bT5.belowAll hb5;have bR6:=bR5.belowAll hb5;have B6:=B5.trans (hb5.mono B5.size);have ho6:=z0a HO2.out hb5;have hz:w2.heap.size≤w5.heap.size:=zhS HB2.out hb5.size;have hQ6:=(hQ5.below hb5).setRun ho6 (fun b hb=>HN.out b (by have:=HSZ.out;omega))
     clear bT5 bR5 B5 hQ5 ho6;have lT:=bT6.lt;have fT:=bT6.free;have bT7:=bT6.set_ 21 (.slice A2 (z0s y.writes ⟨a,k,d⟩).length c2);have bR7:Blk (w5.setCell ⟨w.heap.size,21,none⟩ (.slice A2 (z0s y.writes ⟨a,k,d⟩).length c2)) (w.heap.size+1) 50 txZ:=(Below.heap_setCell w5 _ _ _ (by show w.heap.size+1≠w.heap.size;omega)).trans bR6
     have B7:Below w.heap.size w (w5.setCell ⟨w.heap.size,21,none⟩ (.slice A2 (z0s y.writes ⟨a,k,d⟩).length c2)):=zhr B6 (zhT _) _;have hQ7:=hQ6.cell (q:=⟨w.heap.size,21,none⟩) (Apt_.ne (zhT _) (by have:=zR.out;show w.heap.size<w0.heap.size;omega)) (.slice A2 (z0s y.writes ⟨a,k,d⟩).length c2)
     have hold:=(bT6.cells 21);have hold2:=HC21.out;clear bT6 bR6 B6 hQ6;generalize (z0s y.writes ⟨a,k,d⟩).length=N2 at *;go_upto_region 30 with fail
     generalize w5.setCell ⟨w.heap.size,21,none⟩ (.slice A2 N2 c2)=W1 at *;generalize tv.setIfInBounds 21 (.slice A2 N2 c2)=tv1 at *;have hsz1:=hQ7.size;have l1:=z0n bT7 hsz1;have hst:=z0v bR7 rfl hsz1 hQ7.one;have bR8:=bR7.setRow (cs':=tv1);have hfin:=RTgot.mk (R:=w.heap.size+1) 0 hQ7 B7 (by omega) zR.out
     clear hold lT fT bT7 bR7 B7;go_wp2_with (first|(refine z02 (by rfl) _ _ rfl (.agg tv1) (.pointer (some ⟨w.heap.size,0,none⟩)) rfl l1 ?_)|(refine z01 rfl _ _ _ rfl _ _ rfl rfl hst ?_))
     refine bodyPost_ret (z08 (cs:=tv1) rfl rfl rfl bR8 underlying50 (by rw[hsz1];kernel_rfl)) rfl ?_
     rw[HH.out];exact hfin
end Go.Proofs.YtejmknghkbobnaaGreatDoor
