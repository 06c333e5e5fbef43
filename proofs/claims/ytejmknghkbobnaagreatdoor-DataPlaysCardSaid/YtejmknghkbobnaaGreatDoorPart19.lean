import Derived.Test.YtejmknghkbobnaaGreatDoorPart18
set_option linter.all false
set_option maxRecDepth 100000
set_option maxHeartbeats 0
namespace Go.Proofs.YtejmknghkbobnaaGreatDoor
open Go.Proofs.Tryz
open Go.RowKit Go.Maps
def StoreDid (n0:Nat)(w:World)(T:Nat)(F:List Nat)(D:Nat)(B:List Nat)(x:DevS)(r:Int × TxS × List Int)(e:Ending)(w':World):Prop:=
 ∃v,e=.returned (.tuple #[v,.int .i64 r.1])/\w'.ownsRow n0 3 1 v r.2.2.length (r.2.2.map (.int .i64))/\∃F',TD w' T F' D r.2.1 B x/\GrowN n0 w F w' F'/\∀q,v.ownBlock=some q->q∉F'
structure StoreAt (n0:Nat)(w:World)(Lb T:Nat)(F:List Nat)(D:Nat)(B:List Nat)(x:DevS)(s j i kd:Int)(A:Option Addr)(c:Nat)(l:List Int)(P:Option Addr)(ps:List ByteArray)(F1:List Nat)(z:TxS)(V:World):Prop where
 td:TD V T F1 D z B x
 gr:GrowN n0 w F V F1
 nV:n0<=V.heap.size
 sm:z.s=s/\z.j=j/\z.i=i
 bl:Blk V Lb 234 (lsC T s j i kd (.slice A l.length c))
 lb:n0<=Lb/\Lb∉F1
 ow:V.ownsRow n0 3 1 (.slice A l.length c) l.length (l.map (.int .i64))
 owF:∀a,A=some a->a.block∉F1/\a.block≠Lb
 rp:Reads V P (ps.map .string)
 rpF:∀a,P=some a->a.block∉F1/\a.block≠Lb/\∀a',A=some a'->a'.block≠a.block
theorem za0 {a b:ByteArray}(h:a.toList=b.toList):a=b:=by
 rw[ByteArray.toList_eq,ByteArray.toList_eq]at h;exact ByteArray.ext (Array.toList_inj.1 h)
theorem z2s {a b:ByteArray}(h:a≠b):(a.toList==b.toList)=false:=by
 rw[Bool.eq_false_iff];intro e;exact h (za0 (by simpa using e))
theorem StoreAt.step {n0:Nat}{w V V':World}{Y T:Nat}{F:List Nat}{D:Nat}{B:List Nat}{x:DevS}{s j i kd:Int}{A:Option Addr}{c:Nat}{l:List Int}{P:Option Addr}{ps:List ByteArray}{U J:List Nat}{z S:TxS}
  (h:StoreAt n0 w Y T F D B x s j i kd A c l P ps U z V) (ht:TxAt V' T J D S) (g:Grow V U V' J) (O:S.Same z) (K:∀a,P=some a->a.block<V.heap.size):StoreAt n0 w Y T F D B x s j i kd A c l P ps J S V' where
 td:=h.td.grow ht g
 gr:=h.gr.trans (g.toN h.nV)
 nV:=kO h.nV g.keep.size
 sm:=⟨O.1.trans h.sm.1,O.2.1.trans h.sm.2.1,O.2.2.trans h.sm.2.2⟩
 bl:=g.blk h.bl h.lb.2
 lb:=⟨h.lb.1,g.og h.lb.2 h.bl.lt⟩
 ow:=ar h.ow fun q M=>g.keep.block q (ce h.ow q M).2 (by
  cases A with
  | none=>cases M
  | some a=>cases M;exact(h.owF a rfl).1)
 owF:=fun a I=>⟨g.og (h.owF a I).1 (by subst I;exact(ce h.ow a.block rfl).2),(h.owF a I).2⟩
 rp:=h.rp.qj g fun a I=>(h.rpF a I).1
 rpF:=fun a I=>⟨g.og (h.rpF a I).1 (K a I),(h.rpF a I).2⟩
theorem StoreAt.below {n0:Nat}{w V V':World}{K T:Nat}{F:List Nat}{D:Nat}{B:List Nat}{x:DevS}{s j i kd:Int}{A:Option Addr}{c:Nat}{l:List Int}{P:Option Addr}{ps:List ByteArray}{J:List Nat}{z:TxS}
  (h:StoreAt n0 w K T F D B x s j i kd A c l P ps J z V) (I:Zr V V'):StoreAt n0 w K T F D B x s j i kd A c l P ps J z V' where
 td:=h.td.below I
 gr:=h.gr.trans (GrowN.of_below I h.nV J)
 nV:=kO h.nV I.size
 sm:=h.sm
 bl:=h.bl.mD I
 lb:=h.lb
 ow:=aq h.ow I
 owF:=h.owF
 rp:=h.rp.below I
 rpF:=h.rpF
theorem Reads.qH {w:World}{g m:Nat}{xs:List Value}(h:Reads w (some ⟨g,0,none⟩) xs):Reads w (some ⟨g,m,none⟩) (xs.drop m):=by
 rcases h with rfl|⟨b,off,D,I,A⟩
 ·exact .inl (by simp)
 ·cases D;exact .inr ⟨g,m,rfl,I,fun k u c=>by
   rw[List.getElem?_drop]at c;have:=A (m+k) u c
   rwa [ld]at this⟩
theorem StoreAt.cut {n0:Nat}{w V:World}{A T:Nat}{F:List Nat}{D:Nat}{B:List Nat}{x:DevS}{s j i kd:Int}{g c:Nat}{l:List Int}{P:Option Addr}{ps:List ByteArray}{U:List Nat}{z:TxS}
  (h:StoreAt n0 w A T F D B x s j i kd (some ⟨g,0,none⟩) c l P ps U z V) (ac:0<n0) (hB:∀b∈B,b<n0) (m:Nat) (hm:m<=l.length):
  StoreAt n0 w A T F D B x s j i kd (some ⟨g,0,none⟩) c (l.take m) P ps U z (V.setCell ⟨A,5,none⟩ (.slice (some ⟨g,0,none⟩) m c)):=by
 have I:(l.take m).length=m:=by rw[kX];omega
 have S:g≠A:=(h.owF _ rfl).2;refine⟨h.td.mG (p:=⟨A,5,none⟩) h.lb.2 (fun hm=>by have h9:=hB _ hm;have:=h.lb.1;exact absurd h9 (by show ¬A<n0;omega)) (by show A≠0;have:=h.lb.1;omega) _,h.gr.mG (p:=⟨A,5,none⟩) h.lb.1 _,by simpa using h.nV,h.sm,?_,h.lb,?_,h.owF,?_,h.rpF⟩
 ·rw[I];exact h.bl.mG 5 _
 ·rw[I];have h1:(V.setCell ⟨A,5,none⟩ (.slice (some ⟨g,0,none⟩) m c)).ownsRow n0 3 1 (.slice (some ⟨g,0,none⟩) l.length c) l.length (l.map (.int .i64)):=ar h.ow fun q hq=>by cases hq;exact Below.heap_setCell _ _ _ _ S
  rcases h1.2 with ⟨O,-⟩|⟨g',ab,J,O,hb,hk,Y,K,M,ht⟩
  ·cases O
  ·cases O;refine⟨by rw[lZ,I,Nat.mul_one],.inr ⟨g,c,J,rfl,hb,hk,by omega,K,M,?_⟩⟩
   rw[List.map_take,<-ht,List.take_take];congr 1;omega
 ·rcases h.rp with h0|⟨b,off,rfl,hl,Y⟩
  ·exact .inl h0
  ·exact .inr ⟨b,off,rfl,by simpa using hl,fun k u hu=>(World.cell?_of_block (w:=V) (a:=⟨b,off+k,none⟩) (Below.heap_setCell V ⟨A,5,none⟩ _ b (h.rpF _ rfl).2.1)).trans (Y k u hu)⟩
theorem StoreAt.app {n0:Nat}{w V S:World}{J T:Nat}{F:List Nat}{D:Nat}{B:List Nat}{x:DevS}{s j i kd:Int}{A U:Option Addr}{c c':Nat}{l news:List Int}{P:Option Addr}{ps:List ByteArray}{F1:List Nat}{z:TxS}
  (h:StoreAt n0 w J T F D B x s j i kd A c l P ps F1 z V) (a7:0<n0) (hB:∀b∈B,b<n0) (ac:∀a,P=some a->a.block<V.heap.size)
  (ho:S.ownsRow n0 3 1 (.slice U (l++news).length c') (l++news).length ((l++news).map (.int .i64))) (hg:V.grownBy S (Value.slice A l.length c).ownBlock) (M:(Value.slice U (l++news).length c').ownBlock=(Value.slice A l.length c).ownBlock\/(Value.slice U (l++news).length c').ownBlock=some V.heap.size):
  StoreAt n0 w J T F D B x s j i kd U c' (l++news) P ps F1 z (S.setCell ⟨J,5,none⟩ (.slice U (l++news).length c'))/\(∀a,P=some a->a.block<(S.setCell ⟨J,5,none⟩ (.slice U (l++news).length c')).heap.size):=by
 have av:=hg.size;have a1:=h.bl.lt;have ao:J∉B:=fun hm=>by have h9:=hB _ hm;have:=h.lb.1;omega
 have aL:J≠0:=by have:=h.lb.1;omega
 have I:∀b,b<V.heap.size->(∀a,A=some a->a.block≠b)->S.heap[b]?=V.heap[b]?:=fun b O hn=>hg.block b O (fun e=>by
  cases A with
  | none=>cases e
  | some a=>cases e;exact hn _ rfl rfl)
 have ab:∀a,A=some a->n0<=a.block:=fun a e=>by subst e;exact(ce h.ow a.block rfl).1
 have a6:TD S T F1 D z B x:=h.td.keep (fun b O=>by
  rcases O with O|O|rfl
  ·exact I b (h.td.tx.lt b O).2 (fun a e K=>(h.owF a e).1 (by rw[K];exact O))
  ·exact I b (h.td.dev.lt b O).2 (fun a e K=>by have:=ab a e;have:=hB b O;omega)
  ·exact I 0 h.td.dev.half.1 (fun a e K=>by have:=ab a e;omega)) av
 have Y:∀a,U=some a->a.block∉F1/\a.block≠J:=fun a e=>by
  subst e;rcases M with M|M
  ·cases A with
   | none=>cases M
   | some a0=>
    have K:a.block=a0.block:=Option.some.inj M;rw[K];exact h.owF a0 rfl
  ·have K:a.block=V.heap.size:=Option.some.inj M;rw[K];exact⟨fun hm=>by have:=(h.td.tx.lt _ hm).2;omega,by omega⟩
 have an:Blk S J 234 (lsC T s j i kd (.slice A l.length c)):=(I J a1 (fun a e=>(h.owF a e).2)).trans h.bl
 have a2:∀a,P=some a->S.heap[a.block]?=V.heap[a.block]?:=fun a e=>I _ (ac a e) (fun a' e'=>(h.rpF a e).2.2 a' e')
 refine⟨⟨a6.mG (p:=⟨J,5,none⟩) h.lb.2 ao aL _,?_,?_,h.sm,an.mG 5 _,h.lb,?_,Y,?_,?_⟩,fun a e=>?_⟩
 ·refine GrowN.mG (p:=⟨J,5,none⟩) ?_ h.lb.1 _;exact h.gr.trans ⟨⟨hg.os,hg.tape,hg.output,av,fun b O hn=>I b (by have:=h.nV;omega) (fun a e K=>by have:=ab a e;omega)⟩,fun b O=>.inl O⟩
 ·have:=h.nV;simp;omega
 ·exact ar ho fun q hq=>Below.heap_setCell _ _ _ _ (fun e=>by
   cases U with
   | none=>cases hq
   | some a=>cases hq;exact(Y a rfl).2 e)
 ·rcases h.rp with h0|⟨b,off,rfl,hl,hc⟩
  ·exact .inl h0
  ·exact .inr ⟨b,off,rfl,by simp;omega,fun k u hu=>(World.cell?_of_block (w:=V) (a:=⟨b,off+k,none⟩) ((Below.heap_setCell S ⟨J,5,none⟩ _ b (h.rpF _ rfl).2.1).trans (a2 _ rfl))).trans (hc k u hu)⟩
 ·intro a e;refine⟨(h.rpF a e).1,(h.rpF a e).2.1,fun a' e'=>?_⟩
  subst e';rcases M with M|M
  ·cases A with
   | none=>cases M
   | some a0=>
    have K:a'.block=a0.block:=Option.some.inj M;rw[K];exact(h.rpF a e).2.2 a0 rfl
  ·have K:a'.block=V.heap.size:=Option.some.inj M;rw[K];have:=ac a e;omega
 ·have:=ac a e;simp;omega
theorem z3g (O T n0:Nat)(F:List Nat)(D:Nat)(y:TxS)(B:List Nat)(x:DevS)(kd:Int)(A:Option Addr)(c:Nat)(l:List Int)(P:Option Addr)(pc:Nat)(ps:List ByteArray)(hl:l.length<=1000)(hm:ps.length<=1000)(cB:∀p∈ps,p.size<=1000000)(cw:0<n0)(hF:∀b∈F,b<n0)(hB:∀b∈B,b<n0)(w:World)
  (h:StoreAt n0 w O T F D B x y.s y.j y.i kd A c l P ps F y w) (ac:∀a,P=some a->a.block<w.heap.size):
  Calls prog 156 #[.pointer (some ⟨O,0,none⟩),.slice P ps.length pc] w (StoreDid n0 w T F D B x (y.store x kd l ps)):=by
 have c0:w.cell? ⟨O,0,none⟩=some (.pointer (some ⟨T,0,none⟩)):=(h.bl.cells 0).trans rfl;have c5:w.cell? ⟨O,5,none⟩=some (.slice A l.length c):=(h.bl.cells 5).trans rfl;have lL:=h.bl.lt;have fL:=h.bl.free;have cP:=kD cB;clear cB;have bF:Hid (y.store x kd l ps=if (y.fit l ps.length).1≠0 then ((y.fit l ps.length).1,(y.fit l ps.length).2.1,[])
 else if ((y.fit l ps.length).2.1.puts x kd (y.fit l ps.length).2.2 ps ps.length).1≠0 then (((y.fit l ps.length).2.1.puts x kd (y.fit l ps.length).2.2 ps ps.length).1,((y.fit l ps.length).2.1.puts x kd (y.fit l ps.length).2.2 ps ps.length).2,[])
 else (0,((y.fit l ps.length).2.1.puts x kd (y.fit l ps.length).2.2 ps ps.length).2,(y.fit l ps.length).2.2)):=kD rfl
 go_enter func156,ntmps156
 rcases Nat.lt_trichotomy ps.length l.length with ba|ck|cn
 focus
  obtain⟨g,d3,d4,bG,cl,c8,d2,-⟩:=h.ow.2.resolve_left (fun hh=>by have:=hh.2;omega)
  simp only[Value.slice.injEq]at bG;obtain⟨rfl,-,rfl⟩:=bG;have hS:∀W F',Grow w F W F'->W.cell? ⟨O,0,none⟩=some (.pointer (some ⟨T,0,none⟩))/\W.cell? ⟨O,5,none⟩=some (.slice (some ⟨g,0,none⟩) l.length c):=fun W F' gg=>by
   have b2:=gg.blk h.bl h.lb.2;exact⟨(b2.cells 0).trans rfl,(b2.cells 5).trans rfl⟩
  have aL:=kD hS;have q1:decide ((ps.length:Int) - l.length<0)=true:=decide_eq_true (by omega)
  have q5:ps.length<c:=by omega
  have q6:¬c=ps.length:=by omega
  have q7:ps.length<=l.length:=by omega
  go_wp2_with fail
  refine zrm [.take 0,.take 1,.take 2,.take 3,.take 4,.take 5,.take 6,.take 7,.take 8,.take 9,.take 10,.one 11,.one 12] 12 (fun W=>W.cell? ⟨O,0,none⟩=some (.pointer (some ⟨T,0,none⟩))/\W.cell? ⟨O,5,none⟩=some (.slice (some ⟨g,0,none⟩) l.length c)) (aL.out _ F (Grow.of_below (kF _ _).drew F)) ?_
  simp only[kR,kS,Ms.fill,kT,kV];iterate 11 refine ztk ?_
  have S:=h.below (kF _ _).drew;have bW:=zbu T F D y (some ⟨g,ps.length,none⟩) (c - ps.length) (l.drop ps.length) (by rw[ma];omega) w.drew S.td.tx (by rw[List.map_drop];exact(Reads.ng S.ow).qH)
  rw[ma]at bW;refine ah (by rfl) fun K hK=>?_
  go_simp;refine bW.mono ?_;rintro e w1 ⟨rfl,F1,bk,g1⟩;have I:=S.step bk g1 (TxS.pU _ _) ac;have G1:Grow w F w1 F1:=(Grow.of_below (kF _ _).drew F).trans g1;refine hK _ _ (fun _=>aL.out _ F1 G1) ?_
  clear hK K;refine ah (by rfl) fun K hK=>?_
  go_simp;refine hK _ _ (fun h=>absurd h (by decide)) ?_
  clear hK K;refine ax ?_;have ab:Hid (y.fit l ps.length=((y.free (l.drop ps.length)).1,(y.free (l.drop ps.length)).2,l.take ps.length)):=kD (by unfold TxS.fit;rw[if_pos ba])
  clear bW S bk g1 h c0 c5;generalize y.free (l.drop ps.length)=R at *;obtain⟨E,z⟩:=R;simp only at ab I |-
  have c5:w1.cell? ⟨O,5,none⟩=some (.slice (some ⟨g,0,none⟩) l.length c):=(I.bl.cells 5).trans rfl;have bB:=I.bl.lt;have bT:=I.bl.free;by_cases hE:E=0
  rotate_left
  ·have cT:(E != 0)=true:=by simpa using hE
   have Y:Hid (y.store x kd l ps=(E,z,[])):=kD (by rw[bF.out,ab.out,if_pos hE])
   have M:=kD I;clear hE I;go_wp2_with fail
   go_ret2
   exact⟨_,by rw[Y.out];rfl,by rw[Y.out];exact World.ownsRow_nil _ _ _ _,F1,by rw[Y.out];exact M.out.td,M.out.gr,fun q hq=>by cases hq⟩
  subst hE;have a2:=I.cut cw hB ps.length (by omega)
  have U:Hid (∀a,P=some a->a.block<(w1.setCell ⟨O,5,none⟩ (.slice (some ⟨g,0,none⟩) ps.length c)).heap.size):=kD fun a ha=>by simpa using lh (ac a ha) G1.keep.size
  have an:=kD a2;have q3:¬l.length<ps.length:=by omega
  have q4:ps.length<=c:=by omega
  clear I a2;go_wp2_with fail
  obtain⟨W2,bn⟩:=zex (w1.setCell ⟨O,5,none⟩ (.slice (some ⟨g,0,none⟩) ps.length c));rw[<-bn]at an U |-;obtain⟨z,F1,A1,c1,J,HS,ao,a6,br⟩:∃z F1 A1 c1 J,StoreAt n0 w O T F D B x y.s y.j y.i kd A1 c1 J P ps F1 z W2/\(∀a,P=some a->a.block<W2.heap.size)/\Hid (y.fit l ps.length=(0,z,J))/\J.length=ps.length:=
   ⟨z,F1,_,c,l.take ps.length,an.out,U.out,ab,by rw[kX];omega⟩
  clear q1 q3 q4 q5 q6 q7 lL fL ac an U ab bn G1 c5 bB bT aL hS c8 ba
 rotate_left;rotate_left;focus
  obtain⟨i0,hi,cJ,cL,cK⟩:=info_parts Tryz.pX;have b4:=kD hi;clear hi;have q1:¬ps.length<l.length:=by omega
  have H:=kD h;have b9:=h.td;by_cases d6:0<l.length
  focus
   obtain⟨g,off,bG,cl,ci⟩:=(Reads.ng h.ow).at_ (k:=l.length - 1) (by simp;omega)
   rw[lf]at ci;have bq:l.getD (l.length - 1) 0=l[l.length - 1]:=by rw[kN,kQ (by omega)];rfl
   generalize l[l.length - 1]=near at *;have b3:=kD bq;subst bG;clear bq h b9;have e2:((l.length:Int) - 1).toNat=l.length - 1:=by omega
   have e3:(0:Int)<=(l.length:Int) - 1:=by omega
   have e1:IntKind.i64.wrap ((l.length:Int) - 1)=(l.length:Int) - 1:=by rw[kW];omega
   go_wp2_with fail
   go_quiet (fail)
   rename_i nq
   clear e1 e2 e3 ci;obtain⟨V0,bJ⟩:=zex (w.drewN nq);rw[<-bJ];have S:=H.out.below (V':=V0) (by rw[bJ];exact aa (kF _ _) _)
   have ao:∀a,P=some a->a.block<V0.heap.size:=fun a ha=>by rw[bJ];exact ac a ha
   have bP:Hid (l.getD (l.length - 1) 0=near):=b3;clear bJ nq b3 cl c0 c5 lL fL ac H;obtain⟨A0,bc⟩:∃A0:Option Addr,A0=some ⟨g,off,none⟩:=⟨_,rfl⟩;rw[<-bc]at S;clear bc;have c0:V0.cell? ⟨O,0,none⟩=some (.pointer (some ⟨T,0,none⟩)):=(S.bl.cells 0).trans rfl;have ds:=S.bl.lt;go_wp2_with fail
   clear c0 ds
  rotate_left;focus
   have co:l=[]:=List.length_eq_zero_iff.1 (by omega)
   obtain⟨near,bX⟩:∃near:Int,near=0:=⟨_,rfl⟩;have bP:Hid (l.getD (l.length - 1) 0=near):=kD (by rw[co,bX];rfl)
   have S:=h;have ao:=ac;clear co b9 H h ac;go_wp2_with fail
   rw[<-bX];clear bX c0 c5 lL fL;obtain⟨A0,bc⟩:∃A0:Option Addr,A0=A:=⟨_,rfl⟩;rw[<-bc]at S;clear bc
  all_goals
   have ab:Hid (y.fit l ps.length=((y.take near ((ps.length:Int) - l.length)).1,(y.take near ((ps.length:Int) - l.length)).2,l++y.nC near ((ps.length:Int) - l.length))):=kD (by unfold TxS.fit;rw[if_neg (by omega),if_pos cn,bP.out])
   have bR:=kD (TxS.pR y near ((ps.length:Int) - l.length));refine(zc8 T F D y near ((ps.length:Int) - l.length) _ S.td.tx).mono ?_;rintro e w1 ⟨v1,rfl,bL,F1,bk,g1,-⟩;obtain⟨av,cv,rfl⟩:=aw bL;have I:=S.step bk g1 (TxS.take_same _ _ _) ao;have a1:∀a,P=some a->a.block<w1.heap.size:=fun a ha=>lh (ao a ha) g1.keep.size
   have cD:Reads w1 av ((y.nC near ((ps.length:Int) - l.length)).map (.int .i64)):=Reads.ng bL;have cb:av=none->(y.nC near ((ps.length:Int) - l.length)).length=0:=fun e=>by
    rcases bL.2 with ⟨-,h0⟩|⟨g',dT,d1,he,-⟩
    ·exact h0
    ·rw[e]at he;cases he
   clear S bk g1 bL ao;generalize y.nC near ((ps.length:Int) - l.length)=L at *;generalize y.take near ((ps.length:Int) - l.length)=R at *;obtain⟨E,z⟩:=R;simp only at ab I bR |-
   have c5:w1.cell? ⟨O,5,none⟩=some (.slice A0 l.length c):=(I.bl.cells 5).trans rfl;have bB:=I.bl.lt;have bT:=I.bl.free;by_cases hE:E=0
   rotate_left
   ·have cT:(E != 0)=true:=by simpa using hE
    have Y:Hid (y.store x kd l ps=(E,z,[])):=kD (by rw[bF.out,ab.out,if_pos hE])
    have M:=kD I;clear hE I;go_wp2_with fail
    go_ret2
    exact⟨_,by rw[Y.out];rfl,by rw[Y.out];exact World.ownsRow_nil _ _ _ _,F1,by rw[Y.out];exact M.out.td,M.out.gr,fun q hq=>by cases hq⟩
   subst hE;have b7:L.length=ps.length - l.length:=by have:=bR.out rfl;omega
   have cp:(l++L).length=ps.length:=by rw[kY];omega
   have b5:=kD cp;have bu:((l++L).map (Value.int .i64))=l.map (.int .i64)++L.map (.int .i64):=List.map_append;have b6:=kD bu;have hi:=b4.out;have M:=kD I;have U:=kD a1;have db:l.length+L.length<=1000:=by omega
   have cN:=kD b7;have bt:(l++L).length=l.length+L.length:=kY;have bb:=kD bt;clear b7 cp bu I a1 bt bR;go_wp2_with (at_builtin;refine dj _ rfl (.tmp 90) (.tmp 91) _ rfl n0 3 i0 (.int .i64 0) 8 underlying53 hi cJ cL cK rfl (.slice A0 l.length c) l.length (l.map (.int .i64)) rfl M.out.ow av L.length cv (L.map (.int .i64)) rfl (by simp) cb cD (gG L) (by simp only[maxLen];omega) (by omega) M.out.nV ?_;intro v' w2 bw bK ca;obtain⟨A',c',rfl⟩:=aw bw;obtain⟨an,a8⟩:=M.out.app (news:=L) cw hB U.out (by rw[bb.out,b6.out];exact bw) bK (by rw[bb.out];exact ca);rw[bb.out]at an;have dv:O<w2.heap.size:=lh bB bK.size;have bS:Blk w2 O 234 (lsC T y.s y.j y.i kd (.slice A0 l.length c)):=(bK.block O bB (fun e=>by cases A0 with|none=>cases e|some a=>cases e;exact(M.out.owF a rfl).2 rfl)).trans M.out.bl;have cS:=bS.free;have cR:w2.cell? ⟨O,5,none⟩=some (.slice A0 l.length c):=(bS.cells 5).trans rfl)
   rw[bb.out]at a8;obtain⟨W2,bn⟩:=zex (w2.setCell ⟨O,5,none⟩ (.slice A' (l.length+L.length) c'));rw[<-bn]at an a8 |-;obtain⟨z,F1,A1,c1,J,HS,ao,a6,br⟩:∃z F1 A1 c1 J,StoreAt n0 w O T F D B x y.s y.j y.i kd A1 c1 J P ps F1 z W2/\(∀a,P=some a->a.block<W2.heap.size)/\Hid (y.fit l ps.length=(0,z,J))/\J.length=ps.length:=
    ⟨z,F1,A',c',l++L,an,a8,ab,b5.out⟩
   clear an a8 ab b5 bn cR cS dv bS ca bw bK db b6 U M bb cN hi cb cD bT bB c5 q1 cn bP cJ cL cK b4
 rotate_right
 focus
  have q1:decide ((ps.length:Int) - l.length<0)=false:=decide_eq_false (by omega)
  have q2:decide (0<(ps.length:Int) - l.length)=false:=decide_eq_false (by omega)
  have q3:¬l.length<ps.length:=by omega
  have q4:¬ps.length<l.length:=by omega
  have b1:=kD ck;clear ck;go_wp2_with fail
  obtain⟨z,F1,A1,c1,J,HS,ao,a6,br⟩:∃z F1 A1 c1 J,StoreAt n0 w O T F D B x y.s y.j y.i kd A1 c1 J P ps F1 z w/\(∀a,P=some a->a.block<w.heap.size)/\Hid (y.fit l ps.length=(0,z,J))/\J.length=ps.length:=
   ⟨y,F,A,c,l,h,ac,kD (by unfold TxS.fit;have:=b1.out;rw[if_neg (by omega),if_neg (by omega)]),b1.out.symm⟩
  clear q1 q2 q3 q4 h c0 c5 lL fL ac
 all_goals
  go_loopw [97] (fun q wr=>∃(k:Nat) (F2:List Nat),k<=ps.length/\q=.int .i64 k/\(z.puts x kd J ps k).1=0/\StoreAt n0 w O T F D B x y.s y.j y.i kd A1 c1 J P ps F2 (z.puts x kd J ps k).2 wr/\(∀a,P=some a->a.block<wr.heap.size)) (fun q _=>ps.length - (intOf q).toNat)
  case atStart=>exact⟨0,F1,kP _,rfl,rfl,HS,ao⟩
  case round=>
   obtain⟨k,F2,hk,rfl,h0,hs,cW⟩:=hrel;by_cases ba:k<ps.length
   ·obtain⟨bp,op,cU,d5,cg⟩:=hs.rp.at_ (k:=k) (by simpa using ba)
    rw[lf]at cg;obtain⟨v,hv⟩:∃v,J[k]?=some v:=⟨_,kQ (by omega)⟩
    have bq:J.getD k 0=v:=by rw[kN,hv];rfl
    have cm:ps.getD k ⟨#[]⟩=ps[k]:=by rw[kN,kQ ba];rfl
    have c9:ps[k].size<=1000000:=cP.out _ (li ba);have bN:dn z.s z.j z.i v=dn y.s y.j y.i v:=by rw[HS.sm.1,HS.sm.2.1,HS.sm.2.2]
    have bM:z.puts x kd J ps (k+1)=if ((z.puts x kd J ps k).2.part x kd v).2=0/\((z.puts x kd J ps k).2.part x kd v).1=ps[k]then z.puts x kd J ps k else (z.puts x kd J ps k).2.write (dn y.s y.j y.i v) kd ps[k]:=by
     show (if (z.puts x kd J ps k).1≠0 then z.puts x kd J ps k else _)=_
     rw[if_neg (by simpa using h0),bq,cm,bN]
    have bA:(z.puts x kd J ps (k+1)).1≠0->y.store x kd l ps=((z.puts x kd J ps (k+1)).1,(z.puts x kd J ps (k+1)).2,[]):=fun cz=>by
     have e:=TxS.pM cz (show k+1<=ps.length by omega)
     rw[bF.out,a6.out,if_neg (by simp)]
     show (if (z.puts x kd J ps ps.length).1≠0 then ((z.puts x kd J ps ps.length).1,(z.puts x kd J ps ps.length).2,[])else _)=_
     rw[e,if_pos cz]
    have H0:=kD h0;obtain⟨zk,b0⟩:=zex ((z.puts x kd J ps k).2);have cA:z.puts x kd J ps k=(0,zk):=Prod.ext h0 b0.symm;rw[cA]at bM;simp only at bM
    rw[<-b0]at hs;have bQ:=kD bM;have cQ:=kD bA;have bl:=hs.bl;rw[<-hs.sm.1,<-hs.sm.2.1,<-hs.sm.2.2]at bl;have cC:=z5d O T F2 D zk B x kd A1 c1 J k v hv (by omega) wr hs.td.tx hs.td.dev bl (Reads.ng hs.ow)
    have a7:=kD hs;have cM:=kD hv;have c0:wr.cell? ⟨O,0,none⟩=some (.pointer (some ⟨T,0,none⟩)):=(bl.cells 0).trans rfl;clear bM bA bq cm bN h0 hs bl hv b0 cA;generalize ps[k]=p at *;subst cU;go_wp2_with fail
    refine cC.mono ?_;rintro e w1 ⟨rfl,cc⟩;have I:=a7.out.below cc;have a1:∀a,some (⟨bp,op,none⟩:Addr)=some a->a.block<w1.heap.size:=fun a ha=>lh (cW a ha) cc.size
    clear cC c0 cg;generalize zk.part x kd v=Pt at *;obtain⟨pd,pe⟩:=Pt;simp only at bQ |-
    by_cases V:pe=0/\pd=p
    ·have Y:Hid (z.puts x kd J ps (k+1)=(0,zk)):=kD (by rw[bQ.out,if_pos V])
     obtain⟨rfl,rfl⟩:=V;have M:=kD I;have U:=kD a1;clear I a1;go_wp2_with fail
     go_roundw
     case rel=>exact⟨k+1,F2,by omega,by go_num,by rw[Y.out],by rw[Y.out];exact M.out,U.out⟩
     case measure=>simp[intOf];omega
    ·have Y:Hid (z.puts x kd J ps (k+1)=zk.write (dn y.s y.j y.i v) kd p):=kD (by rw[bQ.out,if_neg V])
     have hq:(pe==0)=false\/(pe=0/\(pd.toList==p.toList)=false):=by
      by_cases e:pe=0
      ·exact .inr ⟨e,z2s fun e2=>V ⟨e,e2⟩⟩
      ·exact .inl (by simpa using e)
     clear V;have bl:=I.bl;have hS:∀W F',Grow w1 F2 W F'->W.cell? ⟨O,0,none⟩=some (.pointer (some ⟨T,0,none⟩))/\W.cell? ⟨O,4,none⟩=some (.int .i64 kd):=fun W F' g=>by
      have b2:=g.blk bl I.lb.2;exact⟨(b2.cells 0).trans rfl,(b2.cells 4).trans rfl⟩
     have aL:=kD hS;have M:=kD I;have U:=kD a1;clear hS I a1 bl;rcases hq with hq|⟨rfl,hq⟩
     all_goals
      go_wp2_with fail
      refine zrm [.take 0,.take 1,.take 2,.take 3,.take 4,.take 5,.take 7,.take 8,.take 9,.take 10,.take 11,.one 6,.one 12,.one 13] 13 (fun W=>W.cell? ⟨O,0,none⟩=some (.pointer (some ⟨T,0,none⟩))/\W.cell? ⟨O,4,none⟩=some (.int .i64 kd)) (aL.out _ F2 (Grow.of_below (kF _ _).drew F2)) ?_
      simp only[kR,kS,Ms.fill,kT,kV];iterate 11 refine ztk ?_
      have a2:=M.out.below (kF _ _).drew;refine ah (by rfl) fun K hK=>?_
      go_simp;refine(z4n O T y.s y.j y.i kd A1 c1 J k v cM.out (by omega) w1.drew a2.bl (Reads.ng a2.ow)).mono ?_
      rintro e w2 ⟨rfl,bU⟩;have bZ:=a2.below bU;have bC:Zr w1 w2:=(kF _ _).drew.trans bU;refine hK _ _ (fun _=>aL.out _ F2 (Grow.of_below bC F2)) ?_
      clear hK K a2;have cX:=z9P y.s y.j y.i v;refine ah (by rfl) fun K hK=>?_
      go_simp;refine(zaY T F2 D zk (dn y.s y.j y.i v) kd p w2 bZ.td.tx (by omega) c9).mono ?_
      rintro e w3 ⟨rfl,F3,b8,g3⟩;have cF:=bZ.step b8 g3 (TxS.pz _ _ _ _) (fun a ha=>lh (U.out a ha) bC.size)
      have bO:Grow w1 F2 w3 F3:=(Grow.of_below bC F2).trans g3;have a8:Hid (∀a,some (⟨bp,op,none⟩:Addr)=some a->a.block<w3.heap.size):=kD fun a ha=>lh (U.out a ha) bO.keep.size
      refine hK _ _ (fun _=>aL.out _ F3 bO) ?_
      clear hK K bZ;refine ah (by rfl) fun K hK=>?_
      go_simp;refine hK _ _ (fun h=>absurd h (by decide)) ?_
      clear hK K;refine ax ?_;have bD:=kD cF;clear cF b8 g3 bO cX bU bC;generalize zk.write (dn y.s y.j y.i v) kd p=R at *;obtain⟨we,wy⟩:=R;simp only at Y bD |-
      by_cases he:we=0
      ·subst he;go_wp2_with fail
       go_roundw
       case rel=>exact⟨k+1,F3,by omega,by go_num,by rw[Y.out],by rw[Y.out];exact bD.out,a8.out⟩
       case measure=>simp[intOf];omega
      ·have hq:(we != 0)=true:=by simpa using he
       have HY:Hid (y.store x kd l ps=(we,wy,[])):=kD (by rw[cQ.out (by rw[Y.out];exact he),Y.out])
       clear he;go_wp2_with fail
       go_ret2
       exact⟨_,by rw[HY.out];rfl,by rw[HY.out];exact World.ownsRow_nil _ _ _ _,F3,by rw[HY.out];exact bD.out.td,bD.out.gr,fun q hq=>by cases hq⟩
   ·obtain rfl:k=ps.length:=by omega
    have Y:Hid (y.store x kd l ps=(0,(z.puts x kd J ps ps.length).2,J)):=kD (by
     rw[bF.out,a6.out,if_neg (by simp)]
     show (if (z.puts x kd J ps ps.length).1≠0 then _ else _)=_
     rw[if_neg (by simpa using h0)])
    have c5:wr.cell? ⟨O,5,none⟩=some (.slice A1 J.length c1):=(hs.bl.cells 5).trans rfl;have lL:=hs.bl.lt;have a7:=kD hs;clear hs h0 br;go_wp2_with fail
    go_ret2
    exact⟨_,by rw[Y.out];rfl,by rw[Y.out];exact a7.out.ow,F2,by rw[Y.out];exact a7.out.td,a7.out.gr,fun q hq=>by
     cases A1 with
     | none=>cases hq
     | some a=>cases hq;exact(a7.out.owF a rfl).1⟩
def TxS.mZ (y:TxS)(x:DevS)(kd:Int)(l:List Int)(size off n:Int):ByteArray × Int:=
 if aQ y l size (decide (off<0)||decide (n<0)) false≠0 then (⟨#[]⟩,aQ y l size (decide (off<0)||decide (n<0)) false)
 else if min off size=min off size+min n (size - min off size)then (⟨#[]⟩,0)
 else y.text x kd l size (min off size) (min off size+min n (size - min off size))
theorem df {y:TxS}{l:List Int}{size:Int}{bad long:Bool}(h:aQ y l size bad long=0):aC y l=0/\0<=size/\size<=768/\bad=false/\long=false/\(l.length:Int)=(size+95) / 96:=by
 unfold aQ at h;by_cases c:aC y l=0
 ·rw[if_neg (by simpa using c)]at h
  by_cases A:(size<0\/768<size)\/bad=true
  ·rw[if_pos A]at h;cases h
  ·rw[if_neg A]at h;by_cases D:long=true
   ·rw[if_pos D]at h;cases h
   ·rw[if_neg D]at h;by_cases I:(l.length:Int)≠(size+95) / 96
    ·rw[if_pos I]at h;cases h
    ·refine⟨c,by omega,by omega,?_,?_,by simpa using I⟩
     ·cases bad;rfl;exact absurd (.inr rfl) A
     ·cases long;rfl;exact absurd rfl D
 ·rw[if_pos (by simpa using c)]at h;exact absurd h c
theorem z0e {y:TxS}{l:List Int}(h:aC y l=0):y.mF=0:=by
 unfold aC at h;by_cases c:y.mF=0
 ·exact c
 ·rw[if_pos (by simpa using c)]at h;exact h
theorem z2A (T:Nat)(F:List Nat)(D:Nat)(y:TxS)(B:List Nat)(x:DevS)(kd:Int)(A:Option Addr)(c:Nat)(l:List Int)(hl:l.length<=1000)(size off n:Int)(av:-9223372036854775808<=size/\size<=9223372036854775807)(w:World)(h:TxAt w T F D y)(hd:DevAt w D B x)(hA:SlI w A c l):
  Calls prog 77 #[.pointer (some ⟨T,0,none⟩),.int .i64 kd,.slice A l.length c,.int .i64 size,.int .i64 off,.int .i64 n] w (Zq (.tuple #[.string (y.mZ x kd l size off n).1,.int .i64 (y.mZ x kd l size off n).2]) w):=by
 have O:Hid (y.mZ x kd l size off n=if aQ y l size (decide (off<0)||decide (n<0)) false≠0 then (⟨#[]⟩,aQ y l size (decide (off<0)||decide (n<0)) false)
 else if min off size=min off size+min n (size - min off size)then (⟨#[]⟩,0)
 else y.text x kd l size (min off size) (min off size+min n (size - min off size))):=kD rfl
 have hq:(decide (off<0)=true/\(decide (off<0)||decide (n<0))=true)\/(decide (off<0)=false/\decide (n<0)=true/\(decide (off<0)||decide (n<0))=true)\/(decide (off<0)=false/\decide (n<0)=false/\(decide (off<0)||decide (n<0))=false):=by
  cases h1:decide (off<0)
  ·cases h2:decide (n<0)
   ·exact .inr (.inr ⟨rfl,rfl,rfl⟩)
   ·exact .inr (.inl ⟨rfl,rfl,rfl⟩)
  ·exact .inl ⟨rfl,rfl⟩
 have ab:Hid (Calls prog 154 #[.pointer (some ⟨T,0,none⟩),.int .i64 kd,.slice A l.length c,.int .i64 size,.bool (decide (off<0)||decide (n<0)),.bool false] w (z3w w T y kd l size (decide (off<0)||decide (n<0)) false)):=kD (z3f T F D y kd A c l hl size _ false av w h hA);obtain⟨bad,I⟩:=zex (decide (off<0)||decide (n<0));rw[<-I]at O ab hq;have HB:Hid (bad=false->0<=off/\0<=n):=kD fun e=>by
  rw[e]at I;have:=(Bool.or_eq_false_iff.1 I.symm)
  have h1:=of_decide_eq_false this.1;have h2:=of_decide_eq_false this.2;omega
 clear I av;have HH:=kD (And.intro h hd);clear h hd;go_enter func77,ntmps77
 rcases hq with ⟨h1,rfl⟩|⟨h1,h2,rfl⟩|⟨h1,h2,rfl⟩
 all_goals
  go_wp2_with fail
  refine ab.out.mono ?_;rintro e w1 ⟨J,V⟩;rcases V with ⟨S,cs,a6,rfl⟩|⟨Y,v,rfl,U⟩
 rotate_left
 ·exact absurd (df Y).2.2.2.1 (by decide)
 rotate_left
 ·exact absurd (df Y).2.2.2.1 (by decide)
 rotate_left;focus
  obtain⟨a3,c3,rfl⟩:=aw U;obtain⟨br,bc,bk,-,-,bt⟩:=df Y;obtain⟨bq,bp⟩:=HB.out (by trivial)
  obtain⟨w2,K⟩:=zex (w1.alloc (.cells (lsC T y.s y.j y.i kd (.slice a3 l.length c3)) 234));have aL:Blk w2 w1.heap.size 234 (lsC T y.s y.j y.i kd (.slice a3 l.length c3)):=by rw[K];exact zbn
  have B2:Zr w w2:=by rw[K];exact J.alloc J.size _
  have a1:Reads w2 a3 (l.map (.int .i64)):=by rw[K];exact(Reads.ng U).alloc _
  have h2:=HH.out.1.below B2;have a7:=HH.out.2.below B2;have ac:=kD K;rw[if_neg (by simpa using Y)]at O
  have HZ:=kD Y;have ba:l.length<=8:=by omega
  clear Y K U J;obtain⟨M,a8⟩:=zxe (min off size);rw[a8]at O;obtain⟨m,hm⟩:=zxe (min n (size - M));rw[hm]at O;have an:0<=M/\M<=size:=by omega
  have bb:0<=m/\M+m<=size:=by omega
  by_cases ao:m=0
  ·subst ao;have HX:Hid (y.mZ x kd l size off n=(⟨#[]⟩,0)):=kD (by rw[O.out,if_pos (by omega)])
   go_wp2_with fail
   go_ret2
   rw[HX.out];exact⟨rfl,by rw[<-ac.out];exact B2⟩
  ·have HX:Hid (y.mZ x kd l size off n=y.text x kd l size M (M+m)):=kD (by rw[O.out,if_neg (by omega)])
   have hq:(M==M+m)=false:=by simp;omega
   clear ao;go_wp2_with fail
   rw[<-ac.out];refine(z5z w1.heap.size T F D y B x kd a3 c3 l ba size M (M+m) ⟨bc,bk⟩ ⟨an.1,by omega,bb.2⟩ w2 h2 a7 aL a1).mono ?_
   rintro e w3 ⟨rfl,a2⟩;go_wp2_with fail
   go_ret2
   rw[HX.out];exact⟨rfl,B2.trans (a2.mono B2.size)⟩
 all_goals
  generalize aQ y l size _ false=E at *;have HX:Hid (y.mZ x kd l size off n=(⟨#[]⟩,E)):=kD (by rw[O.out,if_pos S])
  have bn:(E != 0)=true:=by simpa using S
  clear S O;rcases a6 with rfl|⟨A',c',rfl⟩
  all_goals
   go_wp2_with fail
   go_ret2
   rw[HX.out];exact⟨rfl,J.alloc J.size _⟩
theorem z7D {y:TxS}{x:DevS}{kd size:Int}{l:List Int}(O:0<=size):∀k:Nat,(96*(k:Int)<=size+95)->(cO y x kd size 0 size l k).2=0->((cO y x kd size 0 size l k).1.size:Int)=min (96*(k:Int)) size:=by
 intro k;induction k with
 | zero=>intro _ _;show ((0:Nat):Int)=_;omega
 | succ k ih=>
  intro M c;unfold cO at c |-;by_cases A:(cO y x kd size 0 size l k).2≠0
  ·rw[if_pos A]at c;exact absurd c A
  ·have D:(cO y x kd size 0 size l k).2=0:=by simpa using A
   have ih:=ih (by omega) D
   rw[if_neg A]at c |-;by_cases K:min ((k:Int)*96+96) size<=0\/size<=(k:Int)*96
   ·omega
   ·rw[if_neg K]at c |-;by_cases I:(y.part x kd (l.getD k 0)).2≠0
    ·rw[if_pos I]at c;exact absurd c I
    ·rw[if_neg I]at c |-;by_cases J:((y.part x kd (l.getD k 0)).1.size:Int)≠min ((k:Int)*96+96) size - k*96
     ·rw[if_pos J]at c;cases c
     ·rw[if_neg J];simp only[ByteArray.size_append,ByteArray.size_extract];omega
theorem jO {y:TxS}{x:DevS}{kd size:Int}{l:List Int}(A:0<=size)(D:(l.length:Int)=(size+95) / 96)(c:(y.text x kd l size 0 size).2=0):((y.text x kd l size 0 size).1.size:Int)=size:=by
 have:=z7D (l:=l) A l.length (by omega) c
 unfold TxS.text;omega
def z3t (w:World)(T:Nat)(F:List Nat)(D:Nat)(B:List Nat)(x:DevS)(z:TxS)(L:List Int)(v:Value)(w':World):Prop:=
 w'.ownsRow w.heap.size 3 1 v L.length (L.map (.int .i64))/\∃F',TD w' T F' D z B x/\Grow w F w' F'/\∀q,v.ownBlock=some q->q∉F'
theorem StoreAt.mk0 {w c A:World}{J T:Nat}{F:List Nat}{D:Nat}{y:TxS}{B:List Nat}{x:DevS}{kd:Int}{a3:Option Addr}{M:Nat}{l:List Int}{P:Option Addr}{pc:Nat}{ps:List ByteArray}(h:TD w T F D y B x)(K:Zr w c)
  (bl:Blk c J 234 (lsC T y.s y.j y.i kd (.slice a3 l.length M))) (U:w.heap.size<=J) (Y:c.ownsRow w.heap.size 3 1 (.slice a3 l.length M) l.length (l.map (.int .i64))) (V:∀a,a3=some a->a.block≠J)
  (O:Zr c A) (hp:A.ownsRow c.heap.size 9 1 (.slice P ps.length pc) ps.length (ps.map .string)):
  StoreAt w.heap.size A J T F D B x y.s y.j y.i kd a3 M l P ps F y A/\(∀a,P=some a->a.block<A.heap.size):=by
 have B4:Zr w A:=K.trans (O.mono K.size);have S:∀b∈F,b<w.heap.size:=fun b hb=>(h.tx.lt b hb).2
 have h2:=K.size;refine⟨⟨h.below B4,GrowN.refl _ _ _,B4.size,⟨rfl,rfl,rfl⟩,bl.mD O,⟨U,fun I=>by have:=S _ I;omega⟩,aq Y O,fun a e=>⟨fun I=>?_,V a e⟩,Reads.ng hp,fun a e=>?_⟩,fun a e=>?_⟩
 ·subst e;have:=(ce Y a.block rfl).1
  have:=S _ I;omega
 ·subst e;have h5:=(ce hp a.block rfl).1;refine⟨fun I=>by have:=S _ I;omega,fun e2=>?_,fun a' e'=>?_⟩
  ·have:=bl.lt;omega
  ·subst e';have:=(ce Y a'.block rfl).2;omega
 ·subst e;exact(ce hp a.block rfl).2
theorem z6C (s:ByteArray)(k:Nat):(j4 s k).size<=96:=by unfold j4;rw[ByteArray.size_extract];omega
theorem gX (s:ByteArray):∀p∈bh s,p.size<=96:=by
 intro p c;unfold bh at c;obtain⟨k,-,rfl⟩:=List.mem_map.1 c;exact z6C s k
theorem StoreDid.done {w c w':World}{T:Nat}{F:List Nat}{D:Nat}{B:List Nat}{x:DevS}{r:Int × TxS × List Int}{v:Value}(A:Zr w c)(I:w'.ownsRow w.heap.size 3 1 v r.2.2.length (r.2.2.map (.int .i64))){F':List Nat}(K:TD w' T F' D r.2.1 B x)(g:GrowN w.heap.size c F w' F')(J:∀q,v.ownBlock=some q->q∉F'):z3t w T F D B x r.2.1 r.2.2 v w':=
 ⟨I,F',K,((GrowN.of_below A (kE _) F).trans g).qI,J⟩
def dY (off:Int)(n:Nat):Bool:=decide (768<wrap64 (off+n))
def eu (size off:Int):Bool:=decide (off<0)||decide (size<off)
def bx (o s:ByteArray)(off size:Int):ByteArray:=o.extract 0 off.toNat++s++o.extract (min (off+s.size) size).toNat o.size
def TxS.mJ (y:TxS)(x:DevS)(kd:Int)(l:List Int)(size off:Int)(s:ByteArray):Int × TxS × List Int × Int:=
 if aQ y l size (eu size off) (dY off s.size)≠0 then (aQ y l size (eu size off) (dY off s.size),y,[],0)
 else if (y.text x kd l size 0 size).2≠0 then ((y.text x kd l size 0 size).2,y,[],0)
 else if (y.store x kd l (bh (bx (y.text x kd l size 0 size).1 s off size))).1≠0 then ((y.store x kd l (bh (bx (y.text x kd l size 0 size).1 s off size))).1,(y.store x kd l (bh (bx (y.text x kd l size 0 size).1 s off size))).2.1,[],0)
 else (0,(y.store x kd l (bh (bx (y.text x kd l size 0 size).1 s off size))).2.1,(y.store x kd l (bh (bx (y.text x kd l size 0 size).1 s off size))).2.2,(bx (y.text x kd l size 0 size).1 s off size).size)
def z7Q (w:World)(T:Nat)(F:List Nat)(D:Nat)(B:List Nat)(x:DevS)(r:Int × TxS × List Int × Int)(e:Ending)(w':World):Prop:=
 ∃v,e=.returned (.tuple #[v,.int .i64 r.2.2.2,.int .i64 r.1])/\z3t w T F D B x r.2.1 r.2.2.1 v w'
theorem z0Y (T:Nat)(F:List Nat)(D:Nat)(y:TxS)(B:List Nat)(x:DevS)(kd:Int)(A:Option Addr)(c:Nat)(l:List Int)(hl:l.length<=1000)(size off:Int)(s:ByteArray)(b7:s.size<=10000)(bT:-9223372036854775808<=size/\size<=9223372036854775807)(b6:-9223372036854775808<=off/\off<=9223372036854775807)(w:World)(h:TD w T F D y B x)(hA:SlI w A c l):
  Calls prog 75 #[.pointer (some ⟨T,0,none⟩),.int .i64 kd,.slice A l.length c,.int .i64 size,.int .i64 off,.string s] w (z7Q w T F D B x (y.mJ x kd l size off s)):=by
 have hq:(decide (off<0)=true/\eu size off=true)\/(decide (off<0)=false/\decide (size<off)=true/\eu size off=true)\/(decide (off<0)=false/\decide (size<off)=false/\eu size off=false):=by
  unfold eu;cases h1:decide (off<0)
  ·cases h2:decide (size<off)
   ·exact .inr (.inr ⟨rfl,rfl,rfl⟩)
   ·exact .inr (.inl ⟨rfl,rfl,rfl⟩)
  ·exact .inl ⟨rfl,rfl⟩
 have K:Hid (y.mJ x kd l size off s=(if aQ y l size (eu size off) (dY off s.size)≠0 then (aQ y l size (eu size off) (dY off s.size),y,[],0)
 else if (y.text x kd l size 0 size).2≠0 then ((y.text x kd l size 0 size).2,y,[],0)
 else if (y.store x kd l (bh (bx (y.text x kd l size 0 size).1 s off size))).1≠0 then ((y.store x kd l (bh (bx (y.text x kd l size 0 size).1 s off size))).1,(y.store x kd l (bh (bx (y.text x kd l size 0 size).1 s off size))).2.1,[],0)
 else (0,(y.store x kd l (bh (bx (y.text x kd l size 0 size).1 s off size))).2.1,(y.store x kd l (bh (bx (y.text x kd l size 0 size).1 s off size))).2.2,(bx (y.text x kd l size 0 size).1 s off size).size):Int × TxS × List Int × Int)):=kD rfl
 have bL:=kD (z3f T F D y kd A c l hl size (eu size off) (dY off s.size) bT w h.tx hA);have HB:Hid (eu size off=false->0<=off/\off<=size):=kD fun e=>by
  have:=(Bool.or_eq_false_iff.1 e)
  have h1:=of_decide_eq_false this.1;have h2:=of_decide_eq_false this.2;omega
 have a6:decide (768<wrap64 (off+s.size))=dY off s.size:=rfl;have b2:=kD a6;generalize eu size off=bad at *;generalize dY off s.size=lg at *;have HH:=kD h;clear h;go_enter func75,ntmps75
 rcases hq with ⟨h1,rfl⟩|⟨h1,h2,rfl⟩|⟨h1,h2,rfl⟩
 all_goals
  go_wp2_with fail
  refine bL.out.mono ?_;rintro e w1 ⟨J,ba⟩;rcases ba with ⟨a7,cs,bO,rfl⟩|⟨hz,v,rfl,ac⟩
 rotate_left
 ·exact absurd (df hz).2.2.2.1 (by decide)
 rotate_left
 ·exact absurd (df hz).2.2.2.1 (by decide)
 rotate_left;focus
  obtain⟨a3,c3,rfl⟩:=aw ac;obtain⟨b8,bK,bW,-,bu,bX⟩:=df hz;obtain⟨b3,b4⟩:=HB.out (by trivial)
  have bQ:l.length<=8:=by omega
  obtain⟨w2,V⟩:=zex (w1.alloc (.cells (lsC T y.s y.j y.i kd (.slice a3 l.length c3)) 234));have ao:Blk w2 w1.heap.size 234 (lsC T y.s y.j y.i kd (.slice a3 l.length c3)):=by rw[V];exact zbn
  have B2:Zr w w2:=by rw[V];exact J.alloc J.size _
  have S:w2.ownsRow w.heap.size 3 1 (.slice a3 l.length c3) l.length (l.map (.int .i64)):=by rw[V];exact aq (W:=w1) ac ((kF _ _).alloc (kE _) _)
  have bR:∀a,a3=some a->a.block≠w1.heap.size:=fun a e=>by subst e;have:=(ce ac a.block rfl).2;omega
  have U:=HH.out.below B2;have z1:w.heap.size<=w1.heap.size:=J.size;have bN:=kD V;rw[if_neg (by simpa using hz)]at K
  have HZ:=kD hz;have bG:=z5z w1.heap.size T F D y B x kd a3 c3 l bQ size 0 size ⟨bK,bW⟩ ⟨by omega,by omega,by omega⟩ w2 U.tx U.dev ao (Reads.ng S)
  clear hz V ac J;go_wp2_with fail
  rw[<-bN.out];refine bG.mono ?_;rintro e w3 ⟨rfl,ab⟩;have B3:Zr w w3:=B2.trans (ab.mono B2.size);have bn:=ao.mD ab;have bA:=aq S ab;have bk:=kD (jO (y:=y) (x:=x) (kd:=kd) (l:=l) bK bX);clear bG ao S U ab B2;generalize y.text x kd l size 0 size=R at *;obtain⟨o,E⟩:=R;simp only at K bk |-
  by_cases hE:E=0
  rotate_left
  ·have M:Hid (y.mJ x kd l size off s=(E,y,[],0)):=kD (by rw[K.out,if_pos hE])
   have bq:(E != 0)=true:=by simpa using hE
   clear hE K;go_wp2_with fail
   refine bodyPost_ret (v:=.tuple #[.slice none 0 0,.int .i64 0,.int .i64 E]) (by simp[results,results75,go_sem]) rfl ?_
   exact⟨_,by rw[M.out],by rw[M.out];exact⟨World.ownsRow_nil _ _ _ _,F,HH.out.below B3,Grow.of_below B3 F,fun q hq=>by cases hq⟩⟩
  subst hE;have bS:(o.size:Int)=size:=bk.out rfl;obtain⟨I,bP⟩:∃I:Nat,off=I:=⟨off.toNat,by omega⟩
  subst bP;subst bS;have bZ:I+s.size<=768:=by
   have h1:¬768<wrap64 ((I:Int)+s.size):=by rw[bu]at a6;simpa using a6
   have h2:wrap64 ((I:Int)+s.size)=I+s.size:=by unfold wrap64;omega
   omega
  obtain⟨mi,bw⟩:∃mi:Nat,min ((I:Int)+s.size) o.size=mi:=⟨_,(Int.toNat_of_nonneg (by omega)).symm⟩
  have b0:I<=o.size:=by omega
  have b1:mi<=o.size:=by omega
  have HT:Hid (bx o s I o.size=o.extract 0 I++s++o.extract mi o.size):=kD (by unfold bx;rw[bw];rfl)
  have bJ:IntKind.i64.wrap ((I:Int)+s.size)=I+s.size:=by rw[kW];omega
  have av:¬9223372036854775807<min I o.size+s.size:=by omega
  have aL:¬9223372036854775807<min I o.size+s.size+(o.size - mi):=by omega
  have a1:¬9223372036854775807<I+s.size:=by omega
  have a2:¬9223372036854775807<I+s.size+(o.size - mi):=by omega
  go_wp2_with fail
  refine zrm [.take 0,.take 1,.take 2,.take 3,.take 4,.take 5,.take 6,.take 7,.take 8,.take 9,.take 10,.take 11,.take 12,.take 13,.take 14] 15 (fun _=>True) trivial ?_
  simp only[kR,kS,Ms.fill,kT,kV];iterate 15 refine ztk ?_
  refine ax ?_;rw[<-HT.out];have bc:Hid ((bx o s I o.size).size<=2000):=kD (by rw[HT.out];simp only[ByteArray.size_append,ByteArray.size_extract];omega)
  generalize bx o s I o.size=t at *;clear av aL a1 a2 bJ bw HT;have bp:=bn.drew;have B4:Zr w w3.drew:=B3.drew;have bB:=aq (W:=w3) bA (kF _ _).drew;generalize w3.drew=w4 at *;clear bn B3 bA;go_wp2_with fail
  refine(z5Q t w4).mono ?_;rintro e w5 ⟨rfl,bb⟩;have b5:Blk w5 w4.heap.size 9 #[.string t]:=by rw[bb];exact zbn
  have Y:Zr w4 w5:=by rw[bb];exact(kF _ _).alloc (kE _) _
  clear bb;go_wp2_with fail
  refine(z0d w4.heap.size t (by have:=bc.out;omega) w5 b5).mono ?_
  rintro e w6 ⟨v6,rfl,a8,-,bt⟩;obtain⟨P,pc,rfl⟩:=aw a8;have an:Zr w4 w6:=Y.trans (bt.nK Y.size (by simp))
  obtain⟨hS,br⟩:=StoreAt.mk0 (pc:=pc) (ps:=bh t) HH.out B4 bp z1 bB bR an (aI a8 Y.size);have B6:Zr w w6:=B4.trans (an.mono B4.size);have bU:0<w.heap.size:=HH.out.dev.half.1;have bD:=z3g w1.heap.size T w.heap.size F D y B x kd a3 c3 l P pc (bh t) hl (by rw[dL];unfold eO;have:=bc.out;omega) (fun p hp=>by have:=gX t p hp;omega) bU (fun b hb=>(HH.out.tx.lt b hb).2) (fun b hb=>(HH.out.dev.lt b hb).2) w6 hS br
  clear bt a8 b5 Y an hS br bB bp B4;go_wp2_with fail
  refine bD.mono ?_;rintro e w7 ⟨v7,rfl,bC,F7,bF,g7,f7⟩;have O:=StoreDid.done B6 bC bF g7 f7;clear bD bC bF g7 f7;generalize y.store x kd l (bh t)=R at *;obtain⟨E,z,L⟩:=R;simp only at K O |-
  rw[if_neg (by simp)]at K
  by_cases hE:E=0
  ·subst hE;have M:Hid (y.mJ x kd l (o.size) (I) s=(0,z,L,(t.size:Int))):=kD (by rw[K.out,if_neg (by simp)])
   clear K;go_wp2_with fail
   refine bodyPost_ret (v:=.tuple #[v7,.int .i64 t.size,.int .i64 0]) (by simp[results,results75,go_sem]) rfl ?_
   exact⟨_,by rw[M.out],by rw[M.out];exact O⟩
  ·have M:Hid (y.mJ x kd l (o.size) (I) s=(E,z,[],(0:Int))):=kD (by rw[K.out,if_pos hE])
   have bq:(E != 0)=true:=by simpa using hE
   clear K hE;go_wp2_with fail
   refine bodyPost_ret (v:=.tuple #[.slice none 0 0,.int .i64 0,.int .i64 E]) (by simp[results,results75,go_sem]) rfl ?_
   exact⟨_,by rw[M.out],by rw[M.out];exact⟨World.ownsRow_nil _ _ _ _,O.2.imp fun F9 h9=>⟨h9.1,h9.2.1,fun q hq=>by cases hq⟩⟩⟩
 all_goals
  have bM:=HH.out;generalize aQ y l size _ lg=E at *;have M:Hid (y.mJ x kd l size off s=(E,y,[],0)):=kD (by rw[K.out,if_pos a7])
  have bq:(E != 0)=true:=by simpa using a7
  clear a7 K;rcases bO with rfl|⟨A',c',rfl⟩
  all_goals
   go_wp2_with fail
   refine bodyPost_ret (v:=.tuple #[.slice none 0 0,.int .i64 0,.int .i64 E]) (by simp[results,results75,go_sem]) rfl ?_
   have B3:=J.alloc J.size;exact⟨_,by rw[M.out],by rw[M.out];exact⟨World.ownsRow_nil _ _ _ _,F,bM.below (B3 _),Grow.of_below (B3 _) F,fun q hq=>by cases hq⟩⟩
end Go.Proofs.YtejmknghkbobnaaGreatDoor
