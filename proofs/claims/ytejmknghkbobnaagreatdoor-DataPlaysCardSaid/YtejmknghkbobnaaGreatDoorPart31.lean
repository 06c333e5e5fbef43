import Derived.Test.YtejmknghkbobnaaGreatDoorPart30
set_option linter.all false
set_option maxRecDepth 100000
set_option maxHeartbeats 0
namespace Go.Proofs.YtejmknghkbobnaaGreatDoor
open Go.Proofs.Tryz
open Go.RowKit Go.Maps
theorem z8T {y:TxS}(A:y.Clean)(a:Int):y.look a=bf y.recs a:=by
 unfold TxS.look TxS.recs;cases h:y.changed
 ·rw[if_neg (by simp),if_neg (by simp)]
 ·rw[if_pos rfl,z19];by_cases c:a=1+y.j
  ·rw[if_pos ⟨c,rfl⟩,if_pos (show y.oh.at_=a from c.symm)];rfl
  ·rw[if_neg (fun h=>c h.1),if_neg (fun e=>c (show y.oh.at_=a from e).symm)]
theorem z6s {l:List Rec}{a:Int}{k:Nat}(A:k<l.length)(h:∀r∈l.take k,r.at_≠a)(c:l[k].at_=a):bf l a=some l[k]:=by
 unfold bf;rw[List.find?_eq_some_iff_getElem];refine⟨by simpa using c,k,A,rfl,fun j D=>?_⟩
 have:=h l[j] (List.mem_take_iff_getElem.2 ⟨j,by omega,rfl⟩)
 simpa using this
def fY (r:Int × ByteArray × Int)(w:World)(e:Ending)(w':World):Prop:=
 e=.returned (.tuple #[.int .i64 r.1,.string r.2.1,.int .i64 r.2.2])/\Zr w w'
theorem zc1 {w:World}{P:Nat->Prop}{x:DevS}{y:TxS}{tv:Array Value}(hq:RTx w P x y tv)(a1:x.Calm)(ok:y.Ok)(hc:y.Clean)(a:Int):
  Calls prog 66 #[.agg tv,.int .i64 a] w (fY (y.read x a) w):=by
 obtain⟨w0,V⟩:=zex (w.alloc (.cells tv 50));have bT:Blk w0 w.heap.size 50 tv:=by rw[V];exact zbn
 have B0:Zr w w0:=by rw[V];exact zgr
 have a7:=hq.size;have an:=iH (hq.below B0);have HQ:=kD hq;have n5:=hq.nums.1;have HR:Hid (y.read x a=if y.mF≠0 then (0,⟨#[]⟩,y.mF)else if a<0\/y.s<=a then (0,⟨#[]⟩,7)else y.ou x a):=kD rfl
 have bt:y.recs.length<=81:=by have:=z0C hc (i:=y.writes.length+1) (d:=true) (out:=y.recs) (.inl ⟨rfl,rfl⟩);have:=ok.len;unfold TxS.left TxS.most at this;split at this<;>omega
 clear hq;go_enter func66,ntmps66
 go_upto_region 1 with fail
 rw[<-V];clear V;have l0:=aN bT a7;go_wp2_with (refine zlw l0 ?_)
 refine an.mono ?_;rintro e w1 ⟨rfl,av⟩;have M:=bT.mD av;have B1:=B0.trans (av.mono B0.size);clear an l0 bT B0 av;by_cases J:y.mF=0
 rotate_left
 ·as_aux_lemma=>
  have O:Hid (y.read x a=(0,⟨#[]⟩,y.mF)):=kD (by rw[HR.out,if_pos J])
  unfold fY;generalize y.mF=E at *;have ba:(E != 0)=true:=by simpa using J
  have bn:(E==0)=false:=by simpa using J
  clear J HR;go_wp2_with fail
  refine bodyPost_ret (v:=.tuple #[.int .i64 0,.string ⟨#[]⟩,.int .i64 E]) (by simp[results,results66,go_sem]) rfl ?_
  rw[O.out];exact⟨rfl,B1⟩
 have T:Hid (y.read x a=if a<0\/y.s<=a then (0,⟨#[]⟩,7)else y.ou x a):=kD (by rw[HR.out,if_neg (by rw[J];simp)])
 rw[J];clear J HR;have c5:=(M.cells 5).trans n5;have lT:=M.lt;by_cases ha:a<0\/y.s<=a
 ·as_aux_lemma=>
  have O:Hid (y.read x a=(0,⟨#[]⟩,7)):=kD (by rw[T.out,if_pos ha])
  have hd:a<0\/(¬a<0/\y.s<=a):=by omega
  clear ha T;rcases hd with hd|⟨hd,bc⟩
  all_goals
   go_wp2_with fail
   refine bodyPost_ret (v:=.tuple #[.int .i64 0,.string ⟨#[]⟩,.int .i64 7]) (by simp[results,results66,go_sem]) rfl ?_
   rw[O.out];exact⟨rfl,B1⟩
 have U:Hid (y.read x a=match bf y.recs a with|some r=>(r.kind,r.data,0)|none=>((x.fr a).kind,(x.fr a).data,x.ge a)):=kD (by
  rw[T.out,if_neg ha];unfold TxS.ou;rw[z8T hc];cases bf y.recs a<;>rfl)
 have bq:¬a<0:=by omega
 have bc:¬y.s<=a:=by omega
 clear ha T;have l1:=aN M a7;have ac:=z03 (HQ.out.below B1) ok hc;go_wp2_with (refine zlw l1 ?_)
 refine ac.mono ?_;rintro e w2 ⟨A,c,rfl,ho,aL⟩;have ao:=M.mD aL;have B2:=B1.trans (aL.mono B1.size);have a8:=kD (show RunAt w2 A y.recs from eU ho (gO _))
 clear ac l1 M aL ho c5 lT;go_wp2_with fail
 go_loopw [9] (fun q wr=>∃k:Nat,k<=y.recs.length/\q=.int .i64 k/\(∀r∈y.recs.take k,r.at_≠a)/\wr=w2) (fun q _=>y.recs.length - (RowKit.intOf q).toNat)
 case atStart=>exact⟨0,kP _,rfl,fun r S=>by simp at S,rfl⟩
 case round=>
  obtain⟨k,hk,rfl,D,hw⟩:=hrel;replace hw:=hw.symm;subst hw;by_cases a6:k<y.recs.length
  ·obtain⟨b,off,rfl,bp,e0,e1,e2⟩:=RunAt.at_ a8.out a6;have bk:(k:Int)<y.recs.length:=by omega
   have br:(0:Int)<=k:=by omega
   by_cases I:y.recs[k].at_=a
   ·as_aux_lemma=>
    have O:Hid (y.read x a=(y.recs[k].kind,y.recs[k].data,0)):=kD (by rw[U.out,z6s a6 D I])
    have ab:(y.recs[k].at_==a)=true:=by simpa using I
    clear I D U;generalize y.recs[k]=r at *;obtain⟨ra,rk,rd⟩:=r;simp only at e0 e1 e2 ab O
    go_upto_region 11 with fail
    refine zrm [.take 0,.take 1,.take 2,.take 3,.take 4,.take 5,.take 6,.take 7,.take 8,.take 9,.one 10,.one 11,.one 12] 13 (fun W=>W.cell? ⟨b,off+k*3+1,none⟩=some (.int .i64 rk)/\W.cell? ⟨b,off+k*3+2,none⟩=some (.string rd)) ⟨e1,e2⟩ ?_
    simp only[kR,kS,Ms.fill,kT,kV];iterate 10 refine ztk ?_
    iterate 3 (refine ah (by rfl) fun K hK=>?_;go_simp;refine hK _ _ (fun _=>⟨e1,e2⟩) ?_;clear hK K)
    refine ax ?_;go_wp2_with fail
    refine bodyPost_ret (v:=.tuple #[.int .i64 rk,.string rd,.int .i64 0]) (by simp[results,results66,go_sem]) rfl ?_
    unfold fY;rw[O.out];exact⟨rfl,B2.drew⟩
   ·as_aux_lemma=>
    have ab:(y.recs[k].at_==a)=false:=by simpa using I
    have HS:Hid (∀r∈y.recs.take (k+1),r.at_≠a):=kD fun r S=>by
     rw[kZ a6]at S;rcases lE.1 S with S|S
     ·exact D r S
     ·have e:r=y.recs[k]:=by simpa using S
      rw[e];exact I
    clear I D;generalize y.recs[k].at_=ra at *;go_wp2_with fail
    go_roundw
    case rel=>exact⟨k+1,by omega,by go_num,HS.out,by first|trivial|rfl⟩
    case measure=>simp[RowKit.intOf];omega
  ·as_aux_lemma=>
   obtain rfl:k=y.recs.length:=by omega
   rw[lj]at D;have O:Hid (y.read x a=((x.fr a).kind,(x.fr a).data,x.ge a)):=kD (by
    have:bf y.recs a=none:=by
     unfold bf;rw[List.find?_eq_none];intro r S;simpa using D r S
    rw[U.out,this])
   have a2:x.ge a≠0->(x.fr a)=noFr:=fun h=>by unfold DevS.fr;rw[if_neg h]
   have hg:=zbX ((HQ.out.below B2).sv) a1 a;unfold gj frV at hg;have lT:=ao.lt;have l2:=zaU ao a7;clear D U;generalize x.ge a=E at *;generalize x.fr a=f at *;go_wp2_with (refine zlw l2 ?_)
   refine hg.mono ?_;rintro e w3 ⟨rfl,bb⟩;have B3:=B2.trans (bb.mono B2.size);obtain⟨fk,fs,fd⟩:=f;simp only at O |-
   clear hg l2 ao lT;by_cases J:E=0
   rotate_left
   ·have hz:=a2 J;simp only[noFr,Fr.mk.injEq]at hz;obtain⟨rfl,rfl,rfl⟩:=hz;have ba:(E != 0)=true:=by simpa using J
    clear J a2;go_wp2_with fail
    refine bodyPost_ret (v:=.tuple #[.int .i64 0,.string ⟨#[]⟩,.int .i64 E]) (by simp[results,results66,go_sem]) rfl ?_
    unfold fY;rw[O.out];exact⟨rfl,B3.alloc B3.size _⟩
   subst J;clear a2;obtain⟨w4,Y⟩:=zex (w3.alloc (.cells #[.int .i64 fk,.int .u32 fs,.string fd] 190));have bF:Blk w4 w3.heap.size 190 #[.int .i64 fk,.int .u32 fs,.string fd]:=by rw[Y];exact zbn
   have B4:Zr w w4:=by rw[Y];exact B3.alloc B3.size _
   go_upto_region 15 with fail
   rw[<-Y];clear Y;have s0:w4.drew.cell? ⟨w3.heap.size,0,none⟩=some (.int .i64 fk)/\w4.drew.cell? ⟨w3.heap.size,2,none⟩=some (.string fd):=⟨(bF.cells 0).trans rfl,(bF.cells 2).trans rfl⟩;refine zrm [.take 0,.take 1,.take 2,.take 3,.one 4,.one 5,.one 6] 7 (fun W=>W.cell? ⟨w3.heap.size,0,none⟩=some (.int .i64 fk)/\W.cell? ⟨w3.heap.size,2,none⟩=some (.string fd)) s0 ?_
   simp only[kR,kS,Ms.fill,kT,kV];iterate 4 refine ztk ?_
   iterate 3 (refine ah (by rfl) fun K hK=>?_;go_simp;refine hK _ _ (fun _=>s0) ?_;clear hK K)
   refine ax ?_;go_wp2_with fail
   refine bodyPost_ret (v:=.tuple #[.int .i64 fk,.string fd,.int .i64 0]) (by simp[results,results66,go_sem]) rfl ?_
   unfold fY;rw[O.out];exact⟨rfl,B4.drew⟩
theorem z4W {l:List Rec}{b r:Rec}(h:∀r∈l,r.at_<b.at_)(c:r.at_=b.at_):aJ (l++[r]) b=l++[b]:=by
 induction l with
 | nil=>
  show aJ [r] b=_
  unfold aJ;rw[if_neg (by omega),if_pos c.symm]
  rfl
 | cons x t ih=>
  have A:=h x (me ..);show aJ (x::(t++[r])) b=_
  unfold aJ;rw[if_neg (by omega),if_neg (by omega),ih fun r c=>h r (ly _ c)]
  rfl
theorem z0M (l:List Rec)(r:Rec)(a:Int):bf (l++[r]) a=match bf l a with|some z=>some z|none=>if r.at_=a then some r else none:=by
 unfold bf;rw[List.find?_append];cases l.find? (fun r=>r.at_==a)with
 | some z=>rfl
 | none=>
  by_cases h:r.at_=a
  ·simp[h]
  ·simp[h]
theorem z2p {l:List Rec}{a:Int}(h:∀r∈l,r.at_≠a):bf l a=none:=by
 unfold bf;rw[List.find?_eq_none];intro r c;simpa using h r c
def WrS (L:List Rec)(b:Rec)(i:Nat)(put:Bool)(more:Int)(out:List Rec):Prop:=
 (put=false/\more=1/\out=L.take i/\∀r∈L.take i,r.at_<b.at_)\/(put=true/\out=aJ (L.take i) b/\(∃r∈L.take i,b.at_<=r.at_)/\more=(if (bf (L.take i) b.at_).isSome then 0 else 1))
section
variable {L:List Rec}{b:Rec}{i:Nat}{put:Bool}{more:Int}{out:List Rec}
theorem zcR (c:i<L.length)(J:WrS L b i false more out)(D:L[i].at_=b.at_):WrS L b (i+1) true 0 (out++[b]):=by
 rcases J with ⟨-,-,I,A⟩|⟨h,-⟩
 ·subst I;refine .inr ⟨rfl,?_,⟨L[i],?_,by omega⟩,?_⟩
  ·rw[kZ c,z4W A D]
  ·rw[kZ c];exact mu _ (mg.2 rfl)
  ·rw[kZ c,z0M,z2p (fun r K=>by have:=A r K;omega)]
   simp[D]
 ·cases h
theorem zcT (c:Asc L)(D:i<L.length)(A:WrS L b i true more out):L[i].at_≠b.at_:=by
 rcases A with ⟨h,-⟩|⟨-,-,⟨r,I,J⟩,-⟩
 ·cases h
 ·obtain⟨j,K,e⟩:=List.mem_take_iff_getElem.1 I;have:=List.pairwise_iff_getElem.1 c j i (by omega) D (by omega)
  rw[e]at this;omega
theorem zcS (c:i<L.length)(J:WrS L b i false more out)(K:b.at_<L[i].at_):more=1/\WrS L b (i+1) true 1 (out++[b]++[L[i]]):=by
 rcases J with ⟨-,D,I,A⟩|⟨h,-⟩
 ·subst I;refine⟨D,.inr ⟨rfl,?_,⟨L[i],?_,by omega⟩,?_⟩⟩
  ·rw[kZ c,z1Y A K]
  ·rw[kZ c];exact mu _ (mg.2 rfl)
  ·rw[kZ c,z0M,z2p (fun r M=>by have:=A r M;omega)]
   have:¬L[i].at_=b.at_:=by omega
   simp[this]
 ·cases h
theorem zaW (D:i<L.length)(S:WrS L b i put more out)(T:L[i].at_≠b.at_)(A:put=true\/¬b.at_<L[i].at_):WrS L b (i+1) put more (out++[L[i]]):=by
 rcases S with ⟨I,J,O,K⟩|⟨I,J,⟨r,c,M⟩,K⟩
 ·subst O;refine .inl ⟨I,J,?_,?_⟩
  ·rw[kZ D]
  ·intro r c;rw[kZ D]at c;rcases lE.1 c with c|c
   ·exact K r c
   ·have e:r=L[i]:=by simpa using c
    rw[e];rcases A with A|A
    ·rw[I]at A;cases A
    ·omega
 ·subst J;refine .inr ⟨I,?_,⟨r,?_,M⟩,?_⟩
  ·rw[kZ D,z1b ⟨r,c,M⟩]
  ·rw[kZ D];exact mt _ c
  ·rw[K,kZ D,z0M];cases bf (L.take i) b.at_ with
   | some z=>rfl
   | none=>simp[T]
theorem zcb (I:WrS L b L.length put more out):(if put then out else out++[b])=aJ L b/\more=(if (bf L b.at_).isSome then 0 else 1):=by
 rcases I with ⟨rfl,A,D,c⟩|⟨rfl,A,-,c⟩
 ·rw[lj]at D c;subst D;refine⟨(z1a c).symm,?_⟩
  rw[A,z2p (fun r J=>by have:=c r J;omega)]
  rfl
 ·rw[lj]at A c;exact⟨A,c⟩
theorem zaX (c:Asc L)(A:WrS L b i put more out):out.length<=L.length+1:=by
 rcases A with ⟨-,-,rfl,-⟩|⟨-,rfl,-,-⟩
 ·rw[kX];omega
 ·have:Asc (L.take i):=List.Pairwise.sublist (List.take_sublist _ _) c
  rw[f9 this];split<;>(rw[kX];omega)
end
theorem RTx.qK {w:World}{P:Nat->Prop}{x:DevS}{y:TxS}{I:Array Value}{A:Option Addr}{c:Nat}{l:List Rec}{base:Nat}(h:RTx w P x y I)(D:w.ownsRow base 118 3 (.slice A l.length c) l.length (l.flatMap bE))(J:∀b,base<=b->P b):
  RTx w P x { y with writes:=l } (I.setIfInBounds 21 (.slice A l.length c)):=by
 obtain⟨p,rfl,h⟩:=h;exact⟨{ p with L:=A,lc:=c },rfl,h.dev,h.was,h.now,eU D (gO l),h.lw,h.ln,.inr (gl D J),h.nc,z2U D⟩
theorem zaI {w:World}{P:Nat->Prop}{x:DevS}{y:TxS}{tv:Array Value}(hq:RTx w P x y tv)(hP:∀b,w.heap.size<=b->P b)(ok:y.Ok)(hc:y.Clean)(a k:Int)(d:ByteArray)(d8:d.size<=maxLen):
  Calls prog 65 #[.agg tv,.int .i64 a,.int .i64 k,.string d] w (RTgot w P x (y.write a k d)):=by
 obtain⟨w0,bt⟩:=zex ((w.alloc (.cells tv 50)).alloc (.cells txZ 50));have bT:Blk w0 w.heap.size 50 tv:=by rw[bt];exact zbn
 have bR:Blk w0 (w.heap.size+1) 50 txZ:=by rw[bt];exact zbn
 have B0:Zr w w0:=by rw[bt];exact zgr
 have cg:=hq.apt B0 w0.heap.size;have HN:=kD (Apt_.new hP B0.size);have O:=hq.size;have bK:=hq.one;have zR:=kD bR.lt;have b6:=iH cg;have HQ:=kD cg;have d7:=de ok.rg;have ez:y.writes.length<=80:=by have:=ok.len;unfold TxS.left TxS.most at this;split at this<;>omega
 obtain⟨n5,n6,n7,n8,n9⟩:=hq.nums;have HW:Hid (y.write a k d=if y.mF≠0 then (y.mF,y)else if y.nD a k d.size≠0 then (y.nD a k d.size,y.brk)else (0,{ y with writes:=aJ y.writes ⟨a,k,d⟩ })):=kD rfl
 have bA:Hid (y.nD a k d.size=if (1<=a/\a<1+y.j)\/a=1+y.j then 2 else if (a<0\/y.s<=a)\/k<1\/255<k then 7 else if 96<d.size then 3 else if (bf y.writes a).isNone=true/\y.left<1 then 12 else 0):=kD rfl
 unfold maxLen at d8;clear hq cg hP;unfold txZ txR at bt;go_enter func65,ntmps65
 go_upto_region 1 with fail
 rw[<-bt];clear bt;have l0:=aN bT O;go_wp2_with (refine zlw l0 ?_)
 refine b6.mono ?_;rintro e w1 ⟨rfl,bq⟩;have S:=bT.mD bq;have ao:=bR.mD bq;have B1:=B0.trans (bq.mono B0.size);have bp:=HQ.out.below bq;have cw:=kD bq.size;clear b6 l0 bT bR B0 bq;by_cases hE:y.mF=0
 rotate_left
 ·as_aux_lemma=>
  have HH:Hid (y.write a k d=(y.mF,y)):=kD (by rw[HW.out,if_pos hE])
  clear HW bA;generalize y.mF=E at *;have e3:(E != 0)=true:=by simpa using hE
  have l1:=aN S O;have ac:=aR ao rfl O bK;have bO:=ao.setRow (cs':=tv);have I:=RTgot.mk (R:=w.heap.size+1) E bp B1 (by omega) zR.out
  clear hE;go_wp2_with (first|(refine zlw l1 ?_)|(refine zsb ac ?_))
  refine bodyPost_ret (au (cs:=tv) rfl rfl rfl bO underlying50 (by rw[O];kernel_rfl)) rfl ?_
  rw[HH.out];exact I
 have an:Hid (y.write a k d=if y.nD a k d.size≠0 then (y.nD a k d.size,y.brk)else (0,{ y with writes:=aJ y.writes ⟨a,k,d⟩ })):=kD (by rw[HW.out,if_neg (by rw[hE];simp)])
 rw[hE];clear hE HW;have c5:=(S.cells 5).trans n5;have c6:=(S.cells 6).trans n6;have c8:=(S.cells 8).trans n8;have c9:=(S.cells 9).trans n9;have lT:=S.lt;by_cases h1:(1<=a/\a<1+y.j)\/a=1+y.j
 ·as_aux_lemma=>
  have HH:Hid (y.write a k d=(2,y.brk)):=kD (by
   have e:y.nD a k d.size=2:=by rw[bA.out,if_pos h1]
   rw[an.out,e];rfl)
  have hd:(1<=a/\a<1+y.j)\/(1<=a/\¬a<1+y.j/\(a==1+y.j)=true):=by
   rcases h1 with h1|h1
   ·exact .inl h1
   ·exact .inr ⟨by omega,by omega,by simpa using h1⟩
  clear h1 an bA;rcases hd with ⟨hd,bW⟩|⟨hd,bW,bX⟩
  all_goals
   have Y:=gc bp 2;have l1:=aN S O;go_wp2_with (refine zlw l1 ?_)
   refine Y.mono ?_;rintro e w2 ⟨cU,rfl,cl,ck⟩;have b7:=cl.size;have ac:=aR (ao.mD ck) rfl b7 cl.one;have d4:=(ao.mD ck).setRow (cs':=cU);have I:=RTgot.mk (R:=w.heap.size+1) 2 cl (B1.trans (ck.mono B1.size)) (by omega) zR.out
   clear Y l1;go_wp2_with (refine zsb ac ?_)
   refine bodyPost_ret (au (cs:=cU) rfl rfl rfl d4 underlying50 (by rw[b7];kernel_rfl)) rfl ?_
   rw[HH.out];exact I
 have cN:(¬1<=a/\(a==1+y.j)=false)\/(1<=a/\¬a<1+y.j/\(a==1+y.j)=false):=by
  have e:(a==1+y.j)=false:=by rw[beq_eq_false_iff_ne];exact fun e=>h1 (.inr e)
  by_cases h:1<=a
  ·exact .inr ⟨h,fun h2=>h1 (.inl ⟨h,h2⟩),e⟩
  ·exact .inl ⟨h,e⟩
 have ba:Hid (y.nD a k d.size=if (a<0\/y.s<=a)\/k<1\/255<k then 7 else if 96<d.size then 3 else if (bf y.writes a).isNone=true/\y.left<1 then 12 else 0):=kD (by rw[bA.out,if_neg h1])
 have dv:=kD cN;clear bA h1 cN;go_upto_region 4 with fail
 go_cut [44]from 22 to 43 (fun s44 wx=>s44=.bool false/\wx=w1)
 case first=>
  as_aux_lemma=>
  rcases dv.out with ⟨h1,h2⟩|⟨h1,h2,h3⟩
  all_goals
   go_wp2_with fail
   go_meet
   case rel=>first|exact⟨rfl,rfl⟩|exact⟨by rw[decide_eq_false (by omega)],rfl⟩
 case rest=>
 obtain⟨rfl,hwc⟩:=hcut;replace hwc:=hwc.symm;subst hwc;by_cases h2:(a<0\/y.s<=a)\/k<1\/255<k
 ·as_aux_lemma=>
  have HH:Hid (y.write a k d=(7,y.brk)):=kD (by
   have e:y.nD a k d.size=7:=by rw[ba.out,if_pos h2]
   rw[an.out,e];rfl)
  have hd:a<0\/(¬a<0/\y.s<=a)\/(¬a<0/\¬y.s<=a/\k<1)\/(¬a<0/\¬y.s<=a/\¬k<1/\255<k):=by omega
  clear h2 an ba;rcases hd with hd|⟨hd,bW⟩|⟨hd,bW,bX⟩|⟨hd,bW,bX,e5⟩
  all_goals
   have Y:=gc bp 7;have l1:=aN S O;go_wp2_with (refine zlw l1 ?_)
   refine Y.mono ?_;rintro e w9 ⟨a2,rfl,ab,U⟩;have K:=ab.size;have ac:=aR (ao.mD U) rfl K ab.one;have bD:=(ao.mD U).setRow (cs':=a2);have I:=RTgot.mk (R:=w.heap.size+1) 7 ab (B1.trans (U.mono B1.size)) (by omega) zR.out
   clear Y l1;go_wp2_with (refine zsb ac ?_)
   refine bodyPost_ret (au (cs:=a2) rfl rfl rfl bD underlying50 (by rw[K];kernel_rfl)) rfl ?_
   rw[HH.out];exact I
 have bb:Hid (y.nD a k d.size=if 96<d.size then 3 else if (bf y.writes a).isNone=true/\y.left<1 then 12 else 0):=kD (by rw[ba.out,if_neg h2])
 have g1:¬a<0:=by omega
 have g2:¬y.s<=a:=by omega
 have g3:¬k<1:=by omega
 have g4:¬255<k:=by omega
 clear ba h2;by_cases h3:96<d.size
 ·as_aux_lemma=>
  have HH:Hid (y.write a k d=(3,y.brk)):=kD (by
   have e:y.nD a k d.size=3:=by rw[bb.out,if_pos h3]
   rw[an.out,e];rfl)
  have hd:(96:Int)<d.size:=by omega
  clear h3 an bb;have Y:=gc bp 3;have l1:=aN S O;go_wp2_with (refine zlw l1 ?_)
  refine Y.mono ?_;rintro e w9 ⟨a2,rfl,ab,U⟩;have K:=ab.size;have ac:=aR (ao.mD U) rfl K ab.one;have bD:=(ao.mD U).setRow (cs':=a2);have I:=RTgot.mk (R:=w.heap.size+1) 3 ab (B1.trans (U.mono B1.size)) (by omega) zR.out
  clear Y l1;go_wp2_with (refine zsb ac ?_)
  refine bodyPost_ret (au (cs:=a2) rfl rfl rfl bD underlying50 (by rw[K];kernel_rfl)) rfl ?_
  rw[HH.out];exact I
 have bc:Hid (y.nD a k d.size=if (bf y.writes a).isNone=true/\y.left<1 then 12 else 0):=kD (by rw[bb.out,if_neg h3])
 have bX:¬(96:Int)<d.size:=by omega
 clear bb h3;obtain⟨XB,bU⟩:=zex w1.heap.size;obtain⟨w2,bZ⟩:=zex (w1.alloc (.cells #[.int .i64 a,.int .i64 k,.string d] 118));have cb:Blk w2 XB 118 #[.int .i64 a,.int .i64 k,.string d]:=by rw[bZ,bU];exact zbn
 have bB:Zr w1 w2:=by rw[bZ];exact(kF _ _).alloc (kE _) _
 go_upto_region 6 with fail
 go_upto_region 8 with fail
 go_upto_region 10 with fail
 go_upto_region 11 with fail
 rw[<-bZ,<-bU];have cF:w0.heap.size<=XB:=by rw[bU];exact cw.out
 have b1:w.heap.size+1<XB:=by have:=zR.out;omega
 have cz:=S.mD bB;have bO:=ao.mD bB;have B2:=B1.trans (bB.mono B1.size);have bQ:=bp.below bB;have cD:XB<w2.heap.size:=cb.lt;clear bZ bU bB S ao B1 bp c5 c6 c8 c9 lT cw;obtain⟨p,cn,hp⟩:=bQ;have b2:tv[21]?=some (.slice p.L y.writes.length p.lc):=by rw[cn];rfl
 have b5:=hp.run;have bQ:RTx w2 (Apt_ P w.heap.size w0.heap.size) x y tv:=⟨p,cn,hp⟩;clear hp cn;have d2:=kD bQ;have bM:=kD cz;have bN:=kD cb;have b9:=kD (And.intro bO B2);have bu:=kD b2;have b0:=kD b5;have d3:=kD (And.intro cF (And.intro b1 cD));have db:=kD (And.intro O bK);clear bQ cz cb bO B2 b2 b5 cF b1 cD n5 n6 n7 n8 n9 g1 g2 g3 g4 bX O bK d7;go_wp2_with fail
 go_loopw [12,13,14,15] (fun en es ev cp wr=>∃(i:Nat) (put:Bool) (more:Int) (A:Option Addr) (c:Nat) (out:List Rec),i<=y.writes.length/\cp=.int .i64 i/\ev=.int .i64 more/\es=.bool put/\en=.slice A out.length c/\WrS y.writes ⟨a,k,d⟩ i put more out/\wr.ownsRow w2.heap.size 118 3 (.slice A out.length c) out.length (out.flatMap bE)/\Zr w2 wr) (fun _ _ _ cp _=>y.writes.length - (RowKit.intOf cp).toNat)
 case atStart=>exact⟨0,false,1,none,0,[],kP _,rfl,rfl,rfl,rfl,.inl ⟨rfl,rfl,rfl,fun r hr=>by simp at hr⟩,World.ownsRow_nil _ _ _ _,kF _ _⟩
 case round=>
  obtain⟨i,put,more,A,c,out,hi,rfl,rfl,rfl,rfl,co,b4,hB⟩:=hrel;have HO:=kD b4;have HS:=kD co;have ej:=zaX hc.asc co;have cC:=((bM.out.mD hB).cells 21).trans bu.out;have lT:=(bM.out.mD hB).lt;have x0:wr.cell? ⟨XB,0,none⟩=some (.int .i64 a):=((bN.out.mD hB).cells 0).trans rfl;have x1:wr.cell? ⟨XB,1,none⟩=some (.int .i64 k):=((bN.out.mD hB).cells 1).trans rfl;have x2:wr.cell? ⟨XB,2,none⟩=some (.string d):=((bN.out.mD hB).cells 2).trans rfl;have lX:=(bN.out.mD hB).lt;clear b4 co;by_cases a8:i<y.writes.length
  ·obtain⟨b,off,hpL,e4,e0,e1,e2⟩:=RunAt.at_ (Reads.below b0.out hB) a8;have d1:=kD hpL;rw[hpL]at cC;have V:b<w2.heap.size:=by
    rcases b0.out with h|⟨b',eW,e',ea,-⟩
    ·exact absurd h (zb7 (fun e=>by rw[e]at a8;simp at a8))
    ·rw[hpL]at e';cases e';exact ea
   have eN:(i:Int)<y.writes.length:=by omega
   by_cases aL:y.writes[i].at_=a
   ·as_aux_lemma=>
    cases put;rotate_left
    ·exact absurd aL (zcT hc.asc a8 HS.out)
    have bk:=kD (zcR a8 HS.out aL);have bJ:(y.writes[i].at_==a)=true:=by simpa using aL
    clear aL HS hpL;generalize y.writes[i].at_=ra at *;obtain⟨A3,c3,w3,J,M,T⟩:=ic HO.out hB.size (by omega) ⟨a,k,d⟩
    have HF:=kD (And.intro M (hB.trans T));clear M T;simp only at J
    go_wp2_with (refine aS rfl _ _ _ rfl (.slice A out.length c) (.slice (some ⟨wr.heap.size,0,none⟩) 1 1) (.slice A3 (out.length+1) c3) rfl rfl J ?_)
    go_roundw
    case rel=>exact⟨i+1,true,0,A3,c3,out++[⟨a,k,d⟩],by omega,by go_num,rfl,rfl,by rw[kY];rfl,bk.out,HF.out.1,HF.out.2⟩
    case measure=>simp[RowKit.intOf]<;>omega
   have bJ:(y.writes[i].at_==a)=false:=by simpa using aL
   by_cases br:put=false/\a<y.writes[i].at_
   ·as_aux_lemma=>
    obtain⟨rfl,br⟩:=br;obtain⟨cM,b8⟩:=zcS a8 HS.out br;have bk:=kD b8;have HM:=kD cM;clear aL HS hpL b8 cM;generalize y.writes[i]=r at *;obtain⟨ra,rk,rd⟩:=r;simp only at e0 e1 e2 bJ br
    obtain⟨A3,c3,w3,J,M,T⟩:=ic HO.out hB.size (by omega) ⟨a,k,d⟩
    have a7:=hB.trans T;have cc:(out++[(⟨a,k,d⟩:Rec)]).length=out.length+1:=by rw[kY];rfl
    obtain⟨A4,c4,w4,cm,cQ,cJ⟩:=ic M a7.size (by rw[cc];omega) ⟨ra,rk,rd⟩
    have HF:=kD (And.intro cQ (a7.trans cJ));rw[cc]at cm;have cA:=bM.out.mD a7;have d6:=(cA.cells 21).trans bu.out;rw[d1.out]at d6;have e8:=cA.lt;have f0:=(a7.cell (p:=⟨b,off+i*3,none⟩) V).trans ((hB.cell (p:=⟨b,off+i*3,none⟩) V).symm.trans e0);have f1:=(a7.cell (p:=⟨b,off+i*3+1,none⟩) V).trans ((hB.cell (p:=⟨b,off+i*3+1,none⟩) V).symm.trans e1);have f2:=(a7.cell (p:=⟨b,off+i*3+2,none⟩) V).trans ((hB.cell (p:=⟨b,off+i*3+2,none⟩) V).symm.trans e2);have ex:b<w3.heap.size:=lh V a7.size;clear M T cQ cJ cc;simp only at J cm
    go_upto_region 17 with fail
    go_upto_region 21 with fail
    go_upto_region 22 with fail
    go_upto_region 23 with (refine aS rfl _ _ _ rfl (.slice A out.length c) (.slice (some ⟨wr.heap.size,0,none⟩) 1 1) (.slice A3 (out.length+1) c3) rfl rfl J ?_)
    go_upto_region 24 with fail
    go_wp2_with (first|(refine aS rfl _ _ _ rfl (.slice A out.length c) (.slice (some ⟨wr.heap.size,0,none⟩) 1 1) (.slice A3 (out.length+1) c3) rfl rfl J ?_)|(refine aS rfl _ _ _ rfl (.slice A3 (out.length+1) c3) (.slice (some ⟨w3.heap.size,0,none⟩) 1 1) (.slice A4 (out.length+1+1) c4) rfl rfl cm ?_))
    go_roundw
    case rel=>exact⟨i+1,true,1,A4,c4,out++[⟨a,k,d⟩]++[⟨ra,rk,rd⟩],by omega,by go_num,by rw[HM.out],rfl,by rw[kY,kY];rfl,bk.out,HF.out.1,HF.out.2⟩
    case measure=>simp[RowKit.intOf]<;>omega
   ·as_aux_lemma=>
    have a1:put=true\/¬a<y.writes[i].at_:=by
     cases put
     ·exact .inr fun h=>br ⟨rfl,h⟩
     ·exact .inl rfl
    have bk:=kD (zaW a8 HS.out aL a1);clear aL HS hpL br;generalize y.writes[i]=r at *;obtain⟨ra,rk,rd⟩:=r;simp only at e0 e1 e2 bJ a1
    obtain⟨A3,c3,w3,J,M,T⟩:=ic HO.out hB.size (by omega) ⟨ra,rk,rd⟩
    have HF:=kD (And.intro M (hB.trans T));clear M T;simp only at J
    cases put
    ·have ey:¬a<ra:=a1.resolve_left (by simp)
     clear a1;go_upto_region 17 with fail
     go_upto_region 21 with fail
     go_upto_region 24 with fail
     go_wp2_with (refine aS rfl _ _ _ rfl (.slice A out.length c) (.slice (some ⟨wr.heap.size,0,none⟩) 1 1) (.slice A3 (out.length+1) c3) rfl rfl J ?_)
     go_roundw
     case rel=>exact⟨i+1,false,more,A3,c3,out++[⟨ra,rk,rd⟩],by omega,by go_num,rfl,rfl,by rw[kY];rfl,bk.out,HF.out.1,HF.out.2⟩
     case measure=>simp[RowKit.intOf]<;>omega
    ·clear a1;go_upto_region 17 with fail
     go_upto_region 21 with fail
     go_upto_region 24 with fail
     go_wp2_with (refine aS rfl _ _ _ rfl (.slice A out.length c) (.slice (some ⟨wr.heap.size,0,none⟩) 1 1) (.slice A3 (out.length+1) c3) rfl rfl J ?_)
     go_roundw
     case rel=>exact⟨i+1,true,more,A3,c3,out++[⟨ra,rk,rd⟩],by omega,by go_num,rfl,rfl,by rw[kY];rfl,bk.out,HF.out.1,HF.out.2⟩
     case measure=>simp[RowKit.intOf]<;>omega
  ·obtain rfl:i=y.writes.length:=by omega
   obtain⟨b3,D⟩:=zcb HS.out;have bw:=kD b3;have ds:=kD D;have e6:¬((y.writes.length:Int)<y.writes.length):=by omega
   clear HS b3 D;go_upto_if 125 with fail
   go_cut [12]from 124 to 129 (fun s12 wx=>∃(A2:Option Addr) (c2:Nat),s12=.slice A2 (aJ y.writes ⟨a,k,d⟩).length c2/\wx.ownsRow w2.heap.size 118 3 (.slice A2 (aJ y.writes ⟨a,k,d⟩).length c2) (aJ y.writes ⟨a,k,d⟩).length ((aJ y.writes ⟨a,k,d⟩).flatMap bE)/\Zr w2 wx)
   case first=>
    as_aux_lemma=>
    cases put
    ·obtain⟨A3,c3,w3,J,M,T⟩:=ic HO.out hB.size (by omega) ⟨a,k,d⟩
     have e:out++[(⟨a,k,d⟩:Rec)]=aJ y.writes ⟨a,k,d⟩:=bw.out;have e1:(aJ y.writes ⟨a,k,d⟩).length=out.length+1:=by rw[<-e,kY];rfl
     rw[e]at M;have HF:=kD (And.intro M (hB.trans T));have cX:=kD e1;clear M T e e1;simp only at J
     go_wp2_with (refine aS rfl _ _ _ rfl (.slice A out.length c) (.slice (some ⟨wr.heap.size,0,none⟩) 1 1) (.slice A3 (out.length+1) c3) rfl rfl J ?_)
     go_meet
     case rel=>exact⟨A3,c3,by rw[cX.out],HF.out.1,HF.out.2⟩
    ·have e:out=aJ y.writes ⟨a,k,d⟩:=bw.out;have HF:=kD (And.intro HO.out hB);go_wp2_with fail
     go_meet
     case rel=>exact⟨A,c,by rw[<-e],by rw[<-e];exact HF.out.1,HF.out.2⟩
   case rest=>
    as_aux_lemma=>
    obtain⟨A2,c2,rfl,cP,bn⟩:=hcut;clear bw HO ej cC lT x0 x1 x2 lX hB;have bF:=bM.out.mD bn;have bP:=b9.out.1.mD bn;have B5:=b9.out.2.trans (bn.mono b9.out.2.size);have bG:=d2.out.below bn;have cK:=ok.len;have O:=db.out.1;have cL:=z9k bG ok hc;have l5:=aN bF O;have dT:=kD cP;have cW:=kD bn.size;clear cP bn;go_wp2_with (refine zlw l5 ?_)
    refine cL.mono ?_;rintro e w5 ⟨rfl,av⟩;clear cL l5;have D:=ds.out;by_cases e7:y.left<more
    ·as_aux_lemma=>
     have HH:Hid (y.write a k d=(12,y.brk)):=kD (by
      have e:y.nD a k d.size=12:=by
       rw[bc.out,if_pos];cases h:bf y.writes a with
       | none=>rw[h]at D;exact⟨rfl,by simp at D;omega⟩
       | some z=>rw[h]at D;simp at D;omega
      rw[an.out,e];rfl)
     clear an bc D cK;have a6:=bF.mD av;have bC:=bP.mD av;have B6:=B5.trans (av.mono B5.size);have bS:=bG.below av;have Y:=gc bS 12;have l1:=aN a6 O;clear bF bP B5 bG;go_wp2_with (refine zlw l1 ?_)
     refine Y.mono ?_;rintro e w9 ⟨a2,rfl,ab,U⟩;have K:=ab.size;have ac:=aR (bC.mD U) rfl K ab.one;have bD:=(bC.mD U).setRow (cs':=a2);have I:=RTgot.mk (R:=w.heap.size+1) 12 ab (B6.trans (U.mono B6.size)) (by omega) zR.out
     clear Y l1;go_wp2_with (refine zsb ac ?_)
     refine bodyPost_ret (au (cs:=a2) rfl rfl rfl bD underlying50 (by rw[K];kernel_rfl)) rfl ?_
     rw[HH.out];exact I
    ·as_aux_lemma=>
     have HH:Hid (y.write a k d=(0,{ y with writes:=aJ y.writes ⟨a,k,d⟩ })):=kD (by
      have e:y.nD a k d.size=0:=by
       rw[bc.out,if_neg];rintro ⟨h1,h2⟩;cases h:bf y.writes a with
       | none=>rw[h]at D;simp at D;omega
       | some z=>rw[h]at h1;simp at h1
      rw[an.out,e];rfl)
     clear an bc D cK;have a6:=bF.mD av;have bC:=bP.mD av;have B6:=B5.trans (av.mono B5.size);have cR:=aq dT.out av;have hz:w2.heap.size<=w5.heap.size:=kO cW.out av.size;have bS:=(bG.below av).qK cR (fun b hb=>HN.out b (by have:=d3.out;omega))
     clear bF bP B5 bG cR;have lT:=a6.lt;have fT:=a6.free;have cB:=a6.mG 21 (.slice A2 (aJ y.writes ⟨a,k,d⟩).length c2);have ca:Blk (w5.setCell ⟨w.heap.size,21,none⟩ (.slice A2 (aJ y.writes ⟨a,k,d⟩).length c2)) (w.heap.size+1) 50 txZ:=(Below.heap_setCell w5 _ _ _ (by show w.heap.size+1≠w.heap.size;omega)).trans bC
     have B7:Zr w (w5.setCell ⟨w.heap.size,21,none⟩ (.slice A2 (aJ y.writes ⟨a,k,d⟩).length c2)):=kG B6 (kE _) _;have ci:=bS.cell (q:=⟨w.heap.size,21,none⟩) (Apt_.ne (kE _) (by have:=zR.out;show w.heap.size<w0.heap.size;omega)) (.slice A2 (aJ y.writes ⟨a,k,d⟩).length c2)
     have cS:=(a6.cells 21);have eg:=bu.out;clear a6 bC B6 bS;generalize (aJ y.writes ⟨a,k,d⟩).length=N2 at *;go_upto_region 30 with fail
     generalize w5.setCell ⟨w.heap.size,21,none⟩ (.slice A2 N2 c2)=W1 at *;generalize tv.setIfInBounds 21 (.slice A2 N2 c2)=cT at *;have bL:=ci.size;have l1:=aN cB bL;have ac:=aR ca rfl bL ci.one;have d5:=ca.setRow (cs':=cT);have I:=RTgot.mk (R:=w.heap.size+1) 0 ci B7 (by omega) zR.out
     clear cS lT fT cB ca B7;go_wp2_with (first|(refine zlw l1 ?_)|(refine zsb ac ?_))
     refine bodyPost_ret (au (cs:=cT) rfl rfl rfl d5 underlying50 (by rw[bL];kernel_rfl)) rfl ?_
     rw[HH.out];exact I
theorem z7j (w:World)(b:Bool):Reads (w.alloc (.cells #[.bool b] 4)) (some ⟨w.heap.size,0,none⟩) [.bool b]:=by
 have:=Blk.new w 4 #[.bool b]
 exact .inr ⟨_,0,rfl,this.lt,fun k u c=>by rw[ld];exact(this.cells k).trans (by simpa using c)⟩
theorem z98 {w:World}{base:Nat}{l:List Bool}{A:Option Addr}{c:Nat}(h:w.ownsRow base 4 1 (.slice A l.length c) l.length (l.map .bool))(O:base<=w.heap.size)(Y:l.length<=900)(r:Bool):
  ∃I J D,(Builtin.append_ #[45,45] 45 #[.slice A l.length c,.slice (some ⟨w.heap.size,0,none⟩) 1 1]).run prog (w.alloc (.cells #[.bool r] 4))=.ok (.slice I (l.length+1) J) D /\
   D.ownsRow base 4 1 (.slice I (l++[r]).length J) (l++[r]).length ((l++[r]).map .bool)/\Below base w D:=by
 have K:Zr w (w.alloc (.cells #[.bool r] 4)):=(kF _ _).alloc (kE _) _;obtain⟨v,D,U,M,V,-⟩:=z9V (aq h K) (kO O K.size) (some ⟨w.heap.size,0,none⟩) 1 1 [.bool r] rfl (by omega) (z7j w r) (by simp[Value.oneCell'])
 obtain⟨I,J,rfl⟩:=aw M;have S:(l++[r]).length=l.length+1:=by rw[kY];rfl
 have T:(l++[r]).map Value.bool=l.map .bool++[.bool r]:=by rw[List.map_append];simp
 exact⟨I,J,D,U,by rw[S,T];exact M,(K.mono O).trans V⟩
theorem RTx.bits {w:World}{P:Nat->Prop}{x:DevS}{y:TxS}{c:Array Value}(h:RTx w P x y c):∃W wc N nc,c[16]?=some (.slice W y.was.length wc)/\c[20]?=some (.slice N y.now.length nc)/\Reads w W (y.was.map .bool)/\Reads w N (y.now.map .bool):=by
 obtain⟨p,rfl,h⟩:=h;exact⟨p.W,p.wc,p.N,p.nc,rfl,rfl,h.was,h.now⟩
theorem zav {a b:List Bool}{i:Nat}(c:i<a.length)(A:i<b.length):(orL a b).take (i+1)=(orL a b).take i++[a[i]||b[i]]:=by
 have h:i<(orL a b).length:=by unfold orL;rw[List.length_zipWith];omega
 rw[kZ h];have e:(orL a b)[i]=(a[i]||b[i]):=by simp[orL]
 rw[e]
theorem z0k {A:Func}{m R:Nat}{ty t:TypeId}{tmps:Array Value}{w:World}{cs:Array Value}{D:Nat × Nat}{I:_}(O:A.results=#[.cell m ty])(M:tmps.getD m undef=.pointer (some ⟨R,0,none⟩))
  (K:w.heap[R]?=some (.cells cs t D)) (S:prog.underlying ty=some (.struct I)) (hi:(prog.info? ty).map (·.size)=some cs.size):
  (results A tmps).run prog w=.ok (.agg cs) w:=by
 have h:=run_loadVar_row (P:=prog) w R t ty cs D _ K S rfl hi;have J:(asAddr (.pointer (some ⟨R,0,none⟩))).run prog w=.ok ⟨R,0,none⟩ w:=rfl;have c:tmps[m]?.getD undef=.pointer (some ⟨R,0,none⟩):=by simpa using M
 simp[results,O,c,J,h]
theorem jc {W:World}{D:Nat}{t:TypeId}{sv:Array Value}(b:Blk W D t sv)(h:sv.size=4):(Instr.loadAt 47 (.pointer (some ⟨D,0,none⟩))).run prog W=.ok (.agg sv) W:=by
 simp only[Instr.loadAt,Instr.sureAddr,Sem.run_bind,Sem.run_pure,Result.andThen];exact run_loadVar_row W D t 47 sv (0,0) _ b underlying47 rfl (by rw[h];kernel_rfl)
theorem zcM {w:World}{P:Nat->Prop}{x:DevS}{y:TxS}{tv:Array Value}(hq:RTx w P x y tv)(ok:y.Ok):
  Calls prog 148 #[.agg tv] w fun e w'=>∃A c,e=.returned (.agg #[.int .i64 y.s,.int .i64 y.j,.int .i64 y.i,.slice A y.may.length c])/\w'.ownsRow w.heap.size 4 1 (.slice A y.may.length c) y.may.length (y.may.map .bool)/\Zr w w':=by
 obtain⟨w0,av⟩:=zex ((w.alloc (.cells tv 50)).alloc (.cells #[.int .i64 0,.int .i64 0,.int .i64 0,.slice none 0 0] 47));have T:Blk w0 w.heap.size 50 tv:=by rw[av];exact zbn
 have bR:Blk w0 (w.heap.size+1) 47 #[.int .i64 0,.int .i64 0,.int .i64 0,.slice none 0 0]:=by rw[av];exact zbn
 have B0:Zr w w0:=by rw[av];exact zgr
 have bK:=hq.below B0;have cn:=hq.size;obtain⟨n5,n6,n7,-,-⟩:=hq.nums;obtain⟨W,wc,N,nc,b5,b6,bO,bL⟩:=bK.bits;have bS:=ok.was;have bp:=ok.now;have ca:=de ok.rg;have c5:=(T.cells 5).trans n5;have c6:=(T.cells 6).trans n6;have c7:=(T.cells 7).trans n7;have lT:=T.lt;clear hq bK;obtain⟨M,hM⟩:=zex w0.heap.size;obtain⟨w1,a6⟩:=zex (w0.alloc (.cells #[.int .i64 y.s,.int .i64 y.j,.int .i64 y.i,.slice none 0 0] 47));have bC:Blk w1 M 47 #[.int .i64 y.s,.int .i64 y.j,.int .i64 y.i,.slice none 0 0]:=by rw[a6,hM];exact zbn
 have B1:Below M w0 w1:=by rw[a6];exact(kF _ _).alloc (Nat.le_of_eq hM) _
 go_enter func148,ntmps148
 go_upto_region 1 with fail
 rw[<-av];clear av;go_upto_region 3 with fail
 rw[<-a6,<-hM];have cc:w.heap.size+1<M:=by rw[hM];exact bR.lt
 have cb:M+1<=w1.heap.size:=bC.lt;have bc:=kD (And.intro T (And.intro bR B0));have bB:=kD (And.intro bL bO);have aL:=kD hM;have bU:y.was.length=y.now.length:=by rw[bS,bp]
 have cg:y.now.length<=800:=by rw[bp];unfold rgB;omega
 clear a6 T bR B0 bL bO c5 c6 c7 lT hM n5 n6 n7 bS bp ca;go_wp2_with fail
 go_loopw [4] (fun v4 wr=>∃(i:Nat) (A:Option Addr) (c:Nat) (out:List Bool),i<=y.now.length/\v4=.int .i64 i/\out=(orL y.now y.was).take i/\out.length=i/\wr.ownsRow (M+1) 4 1 (.slice A out.length c) out.length (out.map .bool)/\Blk wr M 47 #[.int .i64 y.s,.int .i64 y.j,.int .i64 y.i,.slice A out.length c]/\Below M w0 wr/\M+1<=wr.heap.size) (fun v4 _=>y.now.length - (RowKit.intOf v4).toNat)
 case atStart=>exact⟨0,none,0,[],kP _,rfl,rfl,rfl,World.ownsRow_nil _ _ _ _,bC,B1,cb⟩
 case round=>
  obtain⟨i,A,c,out,hi,rfl,ba,bt,bb,bM,hB,bA⟩:=hrel;have T:=bc.out.1.below hB (show w.heap.size<M by omega)
  have HO:=kD bb;have an:=kD ba;have a7:=(T.cells 20).trans b6;have ao:=(T.cells 16).trans b5;obtain⟨cM,lM⟩:=bM.zc;have lT:=T.lt;clear bb ba;by_cases bq:i<y.now.length
  ·as_aux_lemma=>
   have ci:(i:Int)<y.now.length:=by omega
   obtain⟨bN,oN,rfl,b8,eN⟩:=bB.out.1.at_ (k:=i) (by simpa using bq)
   obtain⟨bW,oW,rfl,b9,eW⟩:=bB.out.2.at_ (k:=i) (by simpa[bU]using bq)
   have bJ:out++[y.now[i]||y.was[i]'(by omega)]=(orL y.now y.was).take (i+1):=by
    rw[zav bq (by omega)]
    exact congrArg (·++_) an.out
   simp only[lf]at eN eW;generalize y.now[i]=bn at *;generalize y.was[i]'(by omega)=bw at *
   have fN:=(hB.cell (p:=⟨bN,oN+i,none⟩) (by rw[aL.out];exact b8)).trans eN
   have fW:=(hB.cell (p:=⟨bW,oW+i,none⟩) (by rw[aL.out];exact b9)).trans eW
   have U:∀V,Below (M+1) wr V->V.cell? ⟨M,3,none⟩=some (.slice A i c)/\V.cell? ⟨w.heap.size,20,none⟩=some (.slice (some ⟨bN,oN,none⟩) y.now.length nc)/\V.cell? ⟨w.heap.size,16,none⟩=some (.slice (some ⟨bW,oW,none⟩) y.now.length wc)/\V.cell? ⟨bN,oN+i,none⟩=some (.bool bn)/\V.cell? ⟨bW,oW+i,none⟩=some (.bool bw):=fun V hb=>by
    have b7:bN<M+1:=by have:=aL.out;omega
    have bQ:bW<M+1:=by have:=aL.out;omega
    refine⟨?_,?_,?_,(hb.cell (p:=⟨bN,oN+i,none⟩) b7).trans fN,(hb.cell (p:=⟨bW,oW+i,none⟩) bQ).trans fW⟩
    ·rw[<-bt];exact((bM.below hb (by omega)).cells 3).trans rfl
    ·exact(T.below hb (by omega) |>.cells 20).trans b6
    ·rw[<-bU];exact(T.below hb (by omega) |>.cells 16).trans b5
   obtain⟨X,hX⟩:=zex wr.drew;have bX:Zr wr X:=by rw[hX];exact(kF _ _).drew
   have b1:=aq HO.out bX;obtain⟨A3,c3,w3,Y,br,bP⟩:=z98 b1 (kO bA bX.size) (by omega) (bn||bw)
   have J:Below (M+1) wr w3:=(bX.mono bA).trans bP;have I:Below (M+1) wr (X.alloc (.cells #[.bool (bn||bw)] 4)):=(bX.mono bA).alloc (by have:=bX.size;omega) _
   have bD:=(bM.below J (by omega)).mG 3 (.slice A3 (i+1) c3)
   have bZ:(w3.setCell ⟨M,3,none⟩ (.slice A3 (i+1) c3)).ownsRow (M+1) 4 1 (.slice A3 (out++[bn||bw]).length c3) (out++[bn||bw]).length ((out++[bn||bw]).map .bool):=ar br fun q hq=>Below.heap_setCell w3 _ _ q (by have:=(br.lt q hq).1;show q≠M;omega)
   have bG:Below M w0 (w3.setCell ⟨M,3,none⟩ (.slice A3 (i+1) c3)):=kG (hB.trans (J.mono (by omega))) (kE _) _
   have b3:M+1<=(w3.setCell ⟨M,3,none⟩ (.slice A3 (i+1) c3)).heap.size:=by have:=J.size;simp;omega
   have ac:=bM.below J (by omega)
   have b4:=ac.lt;have bF:=ac.free;have bk:=(ac.cells 3).trans (show _=some (Value.slice A out.length c)from rfl)
   have S:=kD (And.intro bZ (And.intro bD (And.intro bG b3)));have a1:=kD bJ;have D:(out++[bn||bw]).length=i+1:=by rw[kY,bt];rfl
   clear br bP bZ bD bG b3 bJ b1 ac eN eW fN fW;rw[bt]at Y bk;go_upto_region 5 with fail
   refine dQ (Us.takes [0,1,2,3,4,5,6,7,8,9,10,11,12,13,14,15] (.one 16 (.one 17 (Us.nG [18] (.late 19 .done))))) 19 (fun V=>V.cell? ⟨M,3,none⟩=some (.slice A i c)/\V.cell? ⟨w.heap.size,20,none⟩=some (.slice (some ⟨bN,oN,none⟩) y.now.length nc)/\V.cell? ⟨w.heap.size,16,none⟩=some (.slice (some ⟨bW,oW,none⟩) y.now.length wc)/\V.cell? ⟨bN,oN+i,none⟩=some (.bool bn)/\V.cell? ⟨bW,oW+i,none⟩=some (.bool bw)) (by kernel_rfl) (by kernel_rfl) (fun _ _ _ _ _ h=>h) (U _ ((kF _ _).drew)) ?_
   rw[<-hX];clear hX;simp only[Us.takes,Us.nG,Us.fill,kT,kV];(try simp only[Act.put,kJ,kH,kI])
   iterate 9 refine zuk ?_
   cases bn
   ·simp only[Bool.false_or]at Y I S a1 D;iterate 7 refine zuk ?_
    refine du fun K O=>?_
    go_simp;refine O _ _ (U _ I) ?_;clear O K;refine du fun K O=>?_
    refine ek _ _ _ rfl _ _ _ rfl rfl Y ?_;refine O _ _ (U _ J) ?_;clear O K;(try simp only[Act.put,kJ,kH,kI])
    iterate 1 refine zup ?_
    refine di fun K O=>?_
    go_simp;refine O _ _ ?_;clear O K;refine fI ?_;clear U bX Y J I b4 bF bk cM lM lT a7 ao T bM;go_wp2_with fail
    go_roundw
    case rel=>exact⟨i+1,A3,c3,out++[bw],by omega,by go_num,a1.out,D,by rw[D];exact(D▸S.out.1),by rw[D];exact S.out.2.1,S.out.2.2.1,S.out.2.2.2⟩
    case measure=>simp[RowKit.intOf];omega
   ·simp only[Bool.true_or]at Y I S a1 D;iterate 6 (refine zca (by rfl) ?_;(try simp only[Act.put,kJ,kH,kI]))
    iterate 1 refine zuk ?_
    refine du fun K O=>?_
    go_simp;refine O _ _ (U _ I) ?_;clear O K;refine du fun K O=>?_
    refine ek _ _ _ rfl _ _ _ rfl rfl Y ?_;refine O _ _ (U _ J) ?_;clear O K;(try simp only[Act.put,kJ,kH,kI])
    iterate 1 refine zup ?_
    refine di fun K O=>?_
    go_simp;refine O _ _ ?_;clear O K;refine fI ?_;clear U bX Y J I b4 bF bk cM lM lT a7 ao T bM;go_wp2_with fail
    go_roundw
    case rel=>exact⟨i+1,A3,c3,out++[true],by omega,by go_num,a1.out,D,by rw[D];exact(D▸S.out.1),by rw[D];exact S.out.2.1,S.out.2.2.1,S.out.2.2.2⟩
    case measure=>simp[RowKit.intOf];omega
  ·as_aux_lemma=>
   have cl:¬((i:Int)<y.now.length):=by omega
   have cm:i=y.now.length:=by omega
   have bu:out=y.may:=by
    rw[an.out];unfold TxS.may;exact mj (by unfold orL;rw[List.length_zipWith];omega)
   have bR:=bc.out.2.1.below hB cc;obtain⟨vs,ab⟩:∃vs:Array Value,vs=#[.int .i64 y.s,.int .i64 y.j,.int .i64 y.i,.slice A out.length c]:=⟨_,rfl⟩;have b2:=aT (ty:=47) (vs:=vs) bR (by rw[ab];rfl) (by rw[ab];simp[Value.oneCell']) (by rw[ab];kernel_rfl)
   have a2:=bR.setRow (cs':=vs);have a8:=Below.setRow (bc.out.2.2.trans (hB.mono (show w.heap.size<=M by omega))) (show w.heap.size<=w.heap.size+1 by omega) vs
   have b0:(wr.setRow (w.heap.size+1) vs).ownsRow w.heap.size 4 1 (.slice A out.length c) out.length (out.map .bool):=ar (be HO.out (by omega)) fun q hq=>ak _ _ _ _ (by have:=(HO.out.lt q hq).1;omega)
   have S:=kD (And.intro b0 a8);obtain⟨ck,co⟩:=a2.zc;clear b0 a8 an T ao;have l1:=jc (sv:=vs) (by rw[ab];exact bM) (by rw[ab];rfl)
   clear bM bR;go_wp2_with (first|(refine zlw l1 ?_)|(refine zsb b2 ?_))
   rw[ab]at a2 S;rw[bu]at a2 S;clear b2 l1 ab;refine bodyPost_ret (z0k (cs:=#[.int .i64 y.s,.int .i64 y.j,.int .i64 y.i,.slice A y.may.length c]) rfl rfl a2 underlying47 (by kernel_rfl)) rfl ?_
   exact⟨A,c,rfl,S.out.1,S.out.2⟩
end Go.Proofs.YtejmknghkbobnaaGreatDoor
