import Derived.Test.YtejmknghkbobnaaGreatDoorPart32
set_option linter.all false
set_option maxRecDepth 100000
set_option maxHeartbeats 0
namespace Go.Proofs.YtejmknghkbobnaaGreatDoor
open Go.Proofs.Tryz
open Go.RowKit
theorem ka (s j i:Int)(A:Option Addr)(c:Nat)(us:List Bool)(near many:Int)(ao:us.length<=1000)(w:World)(hR:Reads w A (us.map .bool))(E:Int)
  (h:(CkE s j i us.length≠0/\E=CkE s j i us.length)\/(CkE s j i us.length=0/\(near<0\/(us.length:Int) - 1<near\/many<0)/\E=7) \/
   (CkE s j i us.length=0/\¬(near<0\/(us.length:Int) - 1<near\/many<0)/\(fU us:Int)<many/\E=11)):
  Calls prog 147 #[.agg #[.int .i64 s,.int .i64 j,.int .i64 i,.slice A us.length c],.int .i64 near,.int .i64 many] w fun e w'=>
   e=.returned (.tuple #[.agg #[.int .i64 s,.int .i64 j,.int .i64 i,.slice A us.length c],.slice none 0 0,.int .i64 E])/\Zr w w':=by
 have aL:=z2Q us;rcases h with ⟨I,rfl⟩|⟨I,hr,rfl⟩|⟨I,hr,ac,rfl⟩
 ·have Y:(CkE s j i us.length != 0)=true:=by simpa using I
  have ab:(CkE s j i us.length==0)=false:=by simpa using I
  have HE:=kD I;clear I;go_enter func147,ntmps147
  go_wp2_with fail
  refine(eK s j i A us.length c _ (by unfold maxLen;omega)).mono ?_
  rintro e J ⟨rfl,D⟩;have O:Blk J w.heap.size 47 #[.int .i64 s,.int .i64 j,.int .i64 i,.slice A us.length c]:=Blk.mD zbn D
  have K:Blk J (w.heap.size+1) 47 #[.int .i64 0,.int .i64 0,.int .i64 0,.slice none 0 0]:=Blk.mD zbn D
  have U:Zr w J:=eE D;clear D;have cS:=O.cells;have V:=K.cells;have fR:=K.free;go_wp2_with fail
  refine bodyPost_ret (v:=.tuple #[.agg #[.int .i64 s,.int .i64 j,.int .i64 i,.slice A us.length c],.slice none 0 0,.int .i64 (CkE s j i us.length)]) (by simp[results,results147,go_sem,V]) rfl ?_
  exact⟨rfl,zgr⟩
 ·have Y:(CkE s j i us.length != 0)=false:=by simpa using I
  have ab:(CkE s j i us.length==0)=true:=by simpa using I
  have HE:=kD I;clear I;by_cases T:near<0\/(us.length:Int) - 1<near
  all_goals
   first|have hO:=eB T|have hO:=eo T
   have S:¬(near<0\/(us.length:Int) - 1<near)->decide (many<0)=true:=fun h'=>by simp;omega
   first|(have an:=S T;clear S)|clear S
   go_enter func147,ntmps147
   go_wp2_with fail
   refine(eK s j i A us.length c _ (by unfold maxLen;omega)).mono ?_
   rintro e J ⟨rfl,D⟩;have O:Blk J w.heap.size 47 #[.int .i64 s,.int .i64 j,.int .i64 i,.slice A us.length c]:=Blk.mD zbn D
   have K:Blk J (w.heap.size+1) 47 #[.int .i64 0,.int .i64 0,.int .i64 0,.slice none 0 0]:=Blk.mD zbn D
   have U:Zr w J:=eE D;clear D;have cS:=O.cells;have V:=K.cells;have fR:=K.free;go_wp2_with (go_at_call 178;refine(dX _ _ _ _).mono ?_;rintro e w' ⟨rfl,rfl⟩);refine bodyPost_ret (v:=.tuple #[.agg #[.int .i64 s,.int .i64 j,.int .i64 i,.slice A us.length c],.slice none 0 0,.int .i64 7]) (by simp[results,results147,go_sem,V]) rfl ?_
   exact⟨rfl,zgr⟩
 ·have Y:(CkE s j i us.length != 0)=false:=by simpa using I
  have ab:(CkE s j i us.length==0)=true:=by simpa using I
  have HE:=kD I;clear I;have hO:=eo (n:=near) (lo:=0) (hi:=(us.length:Int) - 1) (by omega)
  have an:decide (many<0)=false:=by simp;omega
  have av:decide ((fU us:Int)<many)=true:=by simpa using ac
  go_enter func147,ntmps147
  go_wp2_with fail
  refine(eK s j i A us.length c _ (by unfold maxLen;omega)).mono ?_
  rintro e J ⟨rfl,D⟩;have O:Blk J w.heap.size 47 #[.int .i64 s,.int .i64 j,.int .i64 i,.slice A us.length c]:=Blk.mD zbn D
  have K:Blk J (w.heap.size+1) 47 #[.int .i64 0,.int .i64 0,.int .i64 0,.slice none 0 0]:=Blk.mD zbn D
  have U:Zr w J:=eE D;clear D;have cS:=O.cells;go_wp2_with (go_at_call 178;refine(dX _ _ _ _).mono ?_;rintro e w' ⟨rfl,rfl⟩);refine(z4b s j i A c us _ (hR.below U) ao).mono ?_;rintro e w2 ⟨rfl,M⟩;replace O:=O.mD M;replace K:=K.mD M;have B2:=U.trans (M.mono U.size);clear M U cS;have cS:=O.cells;have V:=K.cells;have fR:=K.free;go_wp2_with fail;refine bodyPost_ret (v:=.tuple #[.agg #[.int .i64 s,.int .i64 j,.int .i64 i,.slice A us.length c],.slice none 0 0,.int .i64 11]) (by simp[results,results147,go_sem,V]) rfl ?_
  exact⟨rfl,zgr⟩
theorem z6l (s j i:Int)(A:Option Addr)(c:Nat)(us:List Bool)(near many:Int)(w:World)(U:us.length<=1000)(T:Reads w A (us.map .bool)):
  Calls prog 147 #[.agg #[.int .i64 s,.int .i64 j,.int .i64 i,.slice A us.length c],.int .i64 near,.int .i64 many] w (z7N s j i A c us near many w):=by
 by_cases D:CkE s j i us.length=0
 ·by_cases M:near<0\/(us.length:Int) - 1<near\/many<0
  ·have h7:AlE s j i us near many=7:=by simp only[AlE,if_pos D,if_pos M]
   exact(ka s j i A c us near many U w T 7 (.inr (.inl ⟨D,M,rfl⟩))).mono fun e w' ⟨J,I⟩=>⟨I,.inl ⟨by omega,by rw[J,h7]⟩⟩
  ·obtain⟨S,rfl⟩:=lz (show 0<=near by omega)
   obtain⟨O,rfl⟩:=lz (show 0<=many by omega)
   have K:=z3T (us:=us) (near:=S) (by omega)
   by_cases hf:fU us<O
   ·have ab:AlE s j i us S O=11:=by
     simp only[AlE,if_pos D,if_neg M];rw[if_pos (by rw[lO,lO,K];exact hf)]
    exact(ka s j i A c us S O U w T 11 (.inr (.inr ⟨D,M,by omega,rfl⟩))).mono fun e w' ⟨J,I⟩=>⟨I,.inl ⟨by omega,by rw[J,ab]⟩⟩
   ·have Y:AlE s j i us S O=0:=by
     simp only[AlE,if_pos D,if_neg M];rw[if_neg (by rw[lO,lO,K];exact hf)]
    refine(z84 s j i A c S O us (by omega) U w T D (by omega)).mono fun e w' ⟨I,g,V,av,cv,J,h1,h2⟩=>⟨I,.inr ⟨Y,g,V,av,cv,?_,?_,?_⟩⟩
    ·simpa using J
    ·simpa using h1
    ·simpa using h2
 ·have hx:AlE s j i us near many=CkE s j i us.length:=by simp only[AlE,if_neg D]
  exact(ka s j i A c us near many U w T _ (.inl ⟨D,rfl⟩)).mono fun e w' ⟨J,I⟩=>⟨I,.inl ⟨by omega,by rw[J,hx]⟩⟩
open Go.Maps
theorem z6e {y:TxS}(ok:y.Ok){near many:Int}(J:AlE y.s y.j y.i y.may near many=0):
  TnE y.s y.j y.i y.now (ay y.may near.toNat many.toNat) true 9=0/\(ay y.may near.toNat many.toNat).length<=1000:=by
 have D:y.may.length=y.now.length:=dm (ok.now.trans ok.was.symm);have A:=kw ok;have M:=z2R ok;have I:CkE y.s y.j y.i y.may.length=0:=by rw[D];exact A
 have c:=z0u I J;refine⟨z6f (ok.now.trans ok.was.symm) A (by rw[<-D];exact c),?_⟩
 have K:(ay y.may near.toNat many.toNat).length<=(ew y.may near.toNat).length:=by unfold ay;rw[kX];omega
 have O:=i6 y.may near.toNat y.may.length;unfold ew at K;omega
theorem cu {I:Func}{m n k R:Nat}{ty t:TypeId}{tmps:Array Value}{w:World}{cs:Array Value}{J:Nat × Nat}{v:Value}{e:Int}{K:_}(V:I.results=#[.cell m ty,.tmp n,.tmp k])(T:tmps.getD m undef=.pointer (some ⟨R,0,none⟩))(U:tmps.getD n undef=v)(S:tmps.getD k undef=.int .i64 e)
  (O:w.heap[R]?=some (.cells cs t J)) (Y:prog.underlying ty=some (.struct K)) (hi:(prog.info? ty).map (·.size)=some cs.size):
  (results I tmps).run prog w=.ok (.tuple #[.agg cs,v,.int .i64 e]) w:=by
 have h:=run_loadVar_row (P:=prog) w R t ty cs J _ O Y rfl hi;have M:(asAddr (.pointer (some ⟨R,0,none⟩))).run prog w=.ok ⟨R,0,none⟩ w:=rfl;have A:tmps[m]?.getD undef=.pointer (some ⟨R,0,none⟩):=by simpa using T
 have D:tmps[n]?.getD undef=v:=by simpa using U
 have c:tmps[k]?.getD undef=.int .i64 e:=by simpa using S
 simp[results,V,A,D,c,M,h]
def RTake (w:World)(P:Nat->Prop)(x:DevS)(r:Int × TxS)(al:List Int)(e:Ending)(w':World):Prop:=
 ∃tv A c,e=.returned (.tuple #[.agg tv,.slice A al.length c,.int .i64 r.1])/\RTx w' P x r.2 tv/\(Reads w' A (al.map (.int .i64))/\∀a,A=some a->w.heap.size<=a.block)/\Zr w w'
theorem RTake.nil {w W:World}{P:Nat->Prop}{x:DevS}{A R:Nat}{z:TxS}{c:Array Value}(e:Int)(K:RTx W (Apt_ P w.heap.size A) x z c)(J:Zr w W)(D:w.heap.size<=R)(I:R<A):RTake w P x (e,z) [] (.returned (.tuple #[.agg c,.slice none 0 0,.int .i64 e])) (W.setRow R c):=
 ⟨c,none,0,rfl,(K.row (Apt_.ne D I) c).oD,⟨Reads.nil,fun _ h=>by cases h⟩,Below.setRow J D c⟩
theorem RTake.mk {w W:World}{P:Nat->Prop}{x:DevS}{K R base:Nat}{z:TxS}{D:Array Value}{A:Option Addr}{c:Nat}{al:List Int}(e:Int)(T:RTx W (Apt_ P w.heap.size K) x z D)(S:Zr w W)(M:w.heap.size<=R)(O:R<K)(I:W.ownsRow base 3 1 (.slice A al.length c) al.length (al.map (.int .i64)))(U:R<base):RTake w P x (e,z) al (.returned (.tuple #[.agg D,.slice A al.length c,.int .i64 e])) (W.setRow R D):=
 ⟨D,A,c,rfl,(T.row (Apt_.ne M O) D).oD,⟨Reads.ng (ar I fun q J=>ak W R q D (by have:=(I.lt q J).1;omega)),fun a e=>by subst e;have:=(I.lt a.block rfl).1;omega⟩,Below.setRow S M D⟩
theorem zc5 {w:World}{P:Nat->Prop}{x:DevS}{y:TxS}{tv:Array Value}(hq:RTx w P x y tv)(hP:∀b,w.heap.size<=b->P b)(ok:y.Ok)(hc:y.Clean)(near many:Int):
  Calls prog 67 #[.agg tv,.int .i64 near,.int .i64 many] w (RTake w P x (y.take near many) (y.nC near many)):=by
 obtain⟨w0,ba⟩:=zex ((w.alloc (.cells tv 50)).alloc (.cells txZ 50));have bT:Blk w0 w.heap.size 50 tv:=by rw[ba];exact zbn
 have bR:Blk w0 (w.heap.size+1) 50 txZ:=by rw[ba];exact zbn
 have B0:Zr w w0:=by rw[ba];exact zgr
 have bL:=hq.apt B0 w0.heap.size;have HN:=kD (Apt_.new hP B0.size);have V:=hq.size;have b2:=hq.one;have zR:=kD bR.lt;have bJ:=iH bL;have cJ:=z2R ok;have cw:y.may.length<=1000:=by rw[show y.may.length=y.now.length from dm (ok.now.trans ok.was.symm)];omega
 have HW:Hid (y.take near many=if y.mF≠0 then (y.mF,y)else if y.nI near many≠0 then (y.nI near many,y.brk)else (0,y.change (bg y.now (ay y.may near.toNat many.toNat) true) (ay y.may near.toNat many.toNat).length)):=kD rfl
 have bB:Hid (y.nC near many=if y.mF≠0 then []else if y.nI near many≠0 then []else ay y.may near.toNat many.toNat):=kD rfl
 have bk:Hid (y.nI near many=if AlE y.s y.j y.i y.may near many≠0 then AlE y.s y.j y.i y.may near many else y.mP (ay y.may near.toNat many.toNat).length):=kD rfl
 have bA:Hid (AlE y.s y.j y.i y.may near many=0->TnE y.s y.j y.i y.now (ay y.may near.toNat many.toNat) true 9=0/\(ay y.may near.toNat many.toNat).length<=1000):=kD (z6e ok);clear hq hP;unfold txZ txR at ba;go_enter func67,ntmps67
 go_upto_region 1 with fail
 rw[<-ba];clear ba;have l0:=aN bT V;go_wp2_with (refine zlw l0 ?_)
 refine bJ.mono ?_;rintro e w1 ⟨rfl,a8⟩;have a2:=bT.mD a8;have a1:=bR.mD a8;have B1:=B0.trans (a8.mono B0.size);have a6:=bL.below a8;have bQ:=kD a8.size;clear bJ l0 bT bR B0 a8 bL;by_cases hE:y.mF=0
 rotate_left
 ·as_aux_lemma=>
  have HH:Hid (y.take near many=(y.mF,y)):=kD (by rw[HW.out,if_pos hE])
  have Y:Hid (y.nC near many=[]):=kD (by rw[bB.out,if_pos hE])
  clear HW bk bB bA;generalize y.mF=E at *;have cl:(E != 0)=true:=by simpa using hE
  have l1:=aN a2 V;have K:=aR a1 rfl V b2;have ca:=a1.setRow (cs':=tv);have O:=RTake.nil (R:=w.heap.size+1) E a6 B1 (by omega) zR.out
  clear hE;go_wp2_with (first|(refine zlw l1 ?_)|(refine zsb K ?_))
  refine bodyPost_ret (cu (cs:=tv) rfl rfl rfl rfl ca underlying50 (by rw[V];kernel_rfl)) rfl ?_
  rw[HH.out,Y.out];exact O
 have aL:Hid (y.take near many=if y.nI near many≠0 then (y.nI near many,y.brk)else (0,y.change (bg y.now (ay y.may near.toNat many.toNat) true) (ay y.may near.toNat many.toNat).length)):=kD (by rw[HW.out,if_neg (by rw[hE];simp)])
 have T:Hid (y.nC near many=if y.nI near many≠0 then []else ay y.may near.toNat many.toNat):=kD (by rw[bB.out,if_neg (by rw[hE];simp)])
 rw[hE];clear hE HW bB;have hm:=zcM a6 ok;have l1:=aN a2 V;go_wp2_with (refine zlw l1 ?_)
 refine hm.mono ?_;rintro e w2 ⟨A,c,rfl,ho,ac⟩;have bW:=z6l y.s y.j y.i A c y.may near many w2 cw (Reads.ng ho);clear hm l1 ho;go_wp2_with fail
 refine bW.mono ?_;clear bW;rintro e w3 ⟨bD,⟨hA,rfl⟩|⟨hA,g,ck,av,cv,rfl,cz,b1⟩⟩
 ·as_aux_lemma=>
  have HT:Hid (y.nI near many=AlE y.s y.j y.i y.may near many):=kD (by rw[bk.out,if_pos hA])
  have HH:Hid (y.take near many=(AlE y.s y.j y.i y.may near many,y.brk)):=kD (by rw[aL.out,HT.out,if_pos hA])
  have Y:Hid (y.nC near many=[]):=kD (by rw[T.out,HT.out,if_pos hA])
  clear aL bk T bA HT;generalize AlE y.s y.j y.i y.may near many=E at *;have cl:(E != 0)=true:=by simpa using hA
  go_upto_region 5 with fail
  obtain⟨w4,an⟩:=zex (w3.alloc (.cells #[.int .i64 y.s,.int .i64 y.j,.int .i64 y.i,.slice A y.may.length c] 47));have S:Zr w1 w4:=by rw[an];exact(ac.trans (bD.mono ac.size)).alloc (kO ac.size bD.size) _
  rw[<-an];clear an hA;have J:=a2.mD S;have bn:=a1.mD S;have B4:=B1.trans (S.mono B1.size);have b0:=gc (a6.below S) E;have l1:=aN J V;clear a2 a1 B1 a6;go_wp2_with (refine zlw l1 ?_)
  refine b0.mono ?_;rintro e w9 ⟨D,rfl,U,M⟩;clear b0 l1;have I:=U.size;have K:=aR (J.mD M) V I U.one;have bK:=(J.mD M).setRow (cs':=D);have bp:=(bn.mD M).mO (cs':=D) (show w.heap.size+1≠w.heap.size by omega)
  have B9:=Below.setRow (B4.trans (M.mono B4.size)) (kE _) D;have a7:=U.row (g:=w.heap.size) (Apt_.ne (kE _) (by have:=zR.out;omega)) D
  clear J bn B4 U;go_upto_region 7 with (refine zsb K ?_)
  clear K;generalize w9.setRow w.heap.size D=W9 at *;have l9:=aN bK I;have K:=aR bp rfl I a7.one;have ao:=bp.setRow (cs':=D);have O:=RTake.nil (R:=w.heap.size+1) E a7 B9 (by omega) zR.out
  go_wp2_with (first|(refine zlw l9 ?_)|(refine zsb K ?_))
  refine bodyPost_ret (cu (cs:=D) rfl rfl rfl rfl ao underlying50 (by rw[I];kernel_rfl)) rfl ?_
  rw[HH.out,Y.out];exact O
 ·as_aux_lemma=>
  obtain⟨hT,cm⟩:=bA.out hA;have HT:Hid (y.nI near many=y.mP (ay y.may near.toNat many.toNat).length):=kD (by rw[bk.out,if_neg (by rw[hA];simp)])
  clear bk bA hA cz;generalize ay y.may near.toNat many.toNat=al at *;go_upto_region 5 with fail
  obtain⟨w4,an⟩:=zex (w3.alloc (.cells #[.int .i64 y.s,.int .i64 y.j,.int .i64 y.i,.slice (some ⟨g,0,none⟩) y.may.length ck] 47));have bF:Zr w3 w4:=by rw[an];exact(kF _ _).alloc (kE _) _
  have S:Zr w1 w4:=(ac.trans (bD.mono ac.size)).trans (bF.mono (kO ac.size bD.size));have bN:=be (aq b1 bF) ac.size;rw[<-an];clear an b1;have J:=a2.mD S;have bn:=a1.mD S;have B4:=B1.trans (S.mono B1.size);have bM:=a6.below S;have b9:=kD (kO bQ.out S.size);clear a2 a1 B1 a6;obtain⟨N,nc,b5,b6,b7,b8,cn,cF,cD⟩:=bM.qM;have cb:=(J.cells 17).trans b5;have cc:=(J.cells 18).trans b6;have cg:=(J.cells 19).trans b7;have ci:=(J.cells 20).trans b8;have lT:=J.lt;have b4:=zc4 y.s y.j y.i N av nc cv y.now al (by omega) cm w4 cn (Reads.ng bN)
  go_upto_region 8 with fail
  go_wp2_with fail
  refine b4.mono ?_;clear b4 cb cc cg ci lT b5 b6 b7 b8;rintro e w5 ⟨bX,⟨co,rfl⟩|⟨-,g2,bq,rfl,ho⟩⟩
  ·exact absurd hT co
  have bP:(bg y.now al true).length=y.now.length:=cH _ _ _;generalize bg y.now al true=us at *;rw[<-bP]at ho;have br:us=[]\/Lies (Apt_ P w.heap.size w0.heap.size) (some ⟨g2,0,none⟩):=.inr (gl ho fun b hb=>HN.out b (kO b9.out hb))
  have cp:=z2U ho;have bU:=Reads.ng ho;go_upto_region 9 with fail
  rw[<-bP];obtain⟨w6,bw⟩:=zex (w5.alloc (.cells #[.int .i64 y.s,.int .i64 y.j,.int .i64 y.i,.slice (some ⟨g2,0,none⟩) us.length bq] 47));obtain⟨G,hG⟩:=zex w5.heap.size;have bG:Blk w6 G 47 #[.int .i64 y.s,.int .i64 y.j,.int .i64 y.i,.slice (some ⟨g2,0,none⟩) us.length bq]:=by rw[bw,hG];exact zbn
  have bZ:Zr w5 w6:=by rw[bw];exact(kF _ _).alloc (kE _) _
  have bt:Zr w4 w6:=by rw[bw];exact bX.alloc bX.size _
  rw[<-bw,<-hG];clear bw hG;have bC:=J.mD bt;have bS:=bn.mD bt;have B6:=B4.trans (bt.mono B4.size);have bO:=aq bN bt;have hch:=z28 (bM.below bt) ok hc (some ⟨g2,0,none⟩) bq us (bU.below bZ) br cp al.length av cv;have l1:=aN bC V;have l2:=jc bG rfl;have bc:Hid (y.chg us al.length=if y.mP al.length≠0 then (12,y.brk)else (0,y.change us al.length)):=kD rfl
  have bb:Hid (y.mP al.length=0\/y.mP al.length=12):=kD (by unfold TxS.mP;split;exact .inl rfl;split;exact .inr rfl;exact .inl rfl)
  obtain⟨rr,b3⟩:=zxe (y.chg us al.length);rw[b3]at hch bc;clear J bn B4 bM br bU ho bP b3 bN hT;go_wp2_with (first|(refine zlw l1 ?_)|(refine zlw l2 ?_))
  refine hch.mono ?_;rintro e w9 ⟨D,rfl,U,M⟩;clear hch l1 l2;obtain⟨e9,y9⟩:=rr;have I:=U.size;have K:=aR (bC.mD M) V I U.one;have bK:=(bC.mD M).setRow (cs':=D);have bp:=(bS.mD M).mO (cs':=D) (show w.heap.size+1≠w.heap.size by omega)
  have B9:=Below.setRow (B6.trans (M.mono B6.size)) (kE _) D;have a7:=U.row (g:=w.heap.size) (Apt_.ne (kE _) (by have:=zR.out;omega)) D
  have cC:w.heap.size+1<w1.heap.size:=lh zR.out bQ.out;have cA:=ar (w':=w9.setRow w.heap.size D) (aq bO M) fun q cB=>ak w9 w.heap.size q D (by have:=((aq bO M).lt q cB).1;omega)
  clear bC bS B6 U bO;go_upto_region 10 with (refine zsb K ?_)
  clear K;generalize w9.setRow w.heap.size D=W9 at *;have l9:=aN bK I;have K:=aR bp rfl I a7.one;have ao:=bp.setRow (cs':=D);rcases bb.out with ab|ab
  ·have bu:=bc.out;rw[ab,if_neg (by simp)]at bu
   injection bu with h1 h2
   have HH:Hid (y.take near many=(e9,y9)):=kD (by rw[aL.out,HT.out,ab,if_neg (by simp),h1,h2])
   have Y:Hid (y.nC near many=al):=kD (by rw[T.out,HT.out,ab,if_neg (by simp)])
   have O:=RTake.mk (R:=w.heap.size+1) e9 a7 B9 (by omega) zR.out cA cC
   clear h2 bc bb HT aL T;subst h1;go_wp2_with (first|(refine zlw l9 ?_)|(refine zsb K ?_))
   refine bodyPost_ret (cu (cs:=D) rfl rfl rfl rfl ao underlying50 (by rw[I];kernel_rfl)) rfl ?_
   rw[HH.out,Y.out];exact O
  ·have bu:=bc.out;rw[ab,if_pos (by simp)]at bu
   injection bu with h1 h2
   have HH:Hid (y.take near many=(e9,y9)):=kD (by rw[aL.out,HT.out,ab,if_pos (by simp),h1,h2])
   have Y:Hid (y.nC near many=[]):=kD (by rw[T.out,HT.out,ab,if_pos (by simp)])
   have O:=RTake.nil (R:=w.heap.size+1) e9 a7 B9 (by omega) zR.out
   clear h2 bc bb HT aL T;subst h1;go_wp2_with (first|(refine zlw l9 ?_)|(refine zsb K ?_))
   refine bodyPost_ret (cu (cs:=D) rfl rfl rfl rfl ao underlying50 (by rw[I];kernel_rfl)) rfl ?_
   rw[HH.out,Y.out];exact O
def bI (y:TxS)(x:DevS)(kd:Int)(l:List Int):Nat->List ByteArray × Int
 | 0=>([],0)
 | k+1=>
  if (bI y x kd l k).2≠0 then bI y x kd l k
  else if (y.part x kd (l.getD k 0)).2≠0 then ([],(y.part x kd (l.getD k 0)).2)
  else ((bI y x kd l k).1++[(y.part x kd (l.getD k 0)).1],0)
def TxS.mY (y:TxS)(x:DevS)(kd:Int)(l:List Int):List ByteArray × Int:=if aC y l≠0 then ([],aC y l)else bI y x kd l l.length
theorem z0i {y:TxS}{x:DevS}{kd:Int}{l:List Int}{k:Nat}(h:(bI y x kd l k).2=0):(bI y x kd l k).1.length=k:=by
 induction k with
 | zero=>rfl
 | succ k ih=>
  by_cases c:(bI y x kd l k).2=0
  ·have e:bI y x kd l (k+1)=if (y.part x kd (l.getD k 0)).2≠0 then ([],(y.part x kd (l.getD k 0)).2)else ((bI y x kd l k).1++[(y.part x kd (l.getD k 0)).1],0):=by
    show (if (bI y x kd l k).2≠0 then bI y x kd l k else _)=_
    rw[if_neg (by simpa using c)]
   rw[e]at h |-;split at h
   ·rename_i A;exact absurd h A
   ·rename_i A
    rw[if_neg A];simp[ih c]
  ·have e:bI y x kd l (k+1)=bI y x kd l k:=by
    show (if (bI y x kd l k).2≠0 then bI y x kd l k else _)=_
    rw[if_pos c]
   rw[e]at h;exact absurd h c
theorem z24 {y:TxS}{x:DevS}{kd:Int}{l:List Int}{k m:Nat}(h:(bI y x kd l k).2≠0)(A:k<=m):bI y x kd l m=bI y x kd l k:=by
 induction m with
 | zero=>
  obtain rfl:k=0:=by omega
  rfl
 | succ m ih=>
  by_cases e:k=m+1
  ·rw[e]
  ·have ih:=ih (by omega)
   have c:(bI y x kd l m).2≠0:=by rw[ih];exact h
   show (if (bI y x kd l m).2≠0 then bI y x kd l m else _)=_
   rw[if_pos c];exact ih
def j7 (w:World)(r:List ByteArray × Int)(e:Ending)(w':World):Prop:=
 Zr w w'/\∃v,e=.returned (.tuple #[v,.int .i64 r.2])/\w'.ownsRow w.heap.size 9 1 v r.1.length (r.1.map .string)
theorem za1 (T:Nat)(F:List Nat)(D:Nat)(y:TxS)(B:List Nat)(x:DevS)(kd:Int)(A:Option Addr)(c:Nat)(l:List Int)(hl:l.length<=1000)(w:World)(h:TxAt w T F D y)(hd:DevAt w D B x)(hA:SlI w A c l):
  Calls prog 82 #[.pointer (some ⟨T,0,none⟩),.int .i64 kd,.slice A l.length c] w (j7 w (y.mY x kd l)):=by
 have aL:=z2z T F D y kd A c l hl w h hA;obtain⟨i0,hi,br,bu,bt⟩:=info_parts Tryz.oO;have ba:=kD hi;clear hi hA;unfold j7;go_enter func82,ntmps82
 go_wp2_with fail
 refine aL.mono ?_;rintro e w1 ⟨U,⟨S,rfl⟩|⟨S,v,rfl,ho⟩⟩
 ·have HX:Hid (y.mY x kd l=([],aC y l)):=kD (by unfold TxS.mY;rw[if_pos S])
  have hq:(aC y l != 0)=true:=by simpa using S
  clear aL S;go_wp2_with fail
  go_ret2
  rw[HX.out];exact⟨U.alloc U.size _,_,rfl,World.ownsRow_nil _ _ _ _⟩
 ·have HX:Hid (y.mY x kd l=bI y x kd l l.length):=kD (by unfold TxS.mY;rw[if_neg (by simpa using S)])
  have bC:l.length<=8:=by
   have hs:=z0e S;unfold aC at S;rw[if_neg (by simpa using hs)]at S
   by_cases h8:8<l.length
   ·rw[if_pos h8]at S;exact absurd S (by decide)
   ·omega
  obtain⟨a3,c3,rfl⟩:=aw ho;obtain⟨M,K⟩:=zex (w1.alloc (.cells (lsC T y.s y.j y.i kd (.slice a3 l.length c3)) 234));have O:Blk M w1.heap.size 234 (lsC T y.s y.j y.i kd (.slice a3 l.length c3)):=by rw[K];exact zbn
  have B2:Zr w M:=by rw[K];exact U.alloc U.size _
  have ac:Reads M a3 (l.map (.int .i64)):=by rw[K];exact(Reads.ng ho).alloc _
  have h2:=h.below B2;have an:=hd.below B2;have bn:=kD K;have c5:M.cell? ⟨w1.heap.size,5,none⟩=some (.slice a3 l.length c3):=(O.cells 5).trans rfl;have lL:=O.lt;rw[K]at c5 lL;clear aL S K ho U h hd;go_wp2_with fail
  rw[<-bn.out];clear c5 lL;go_loopw [10,27] (fun o q wr=>∃k:Nat,k<=l.length/\q=.int .i64 k/\(bI y x kd l k).2=0/\wr.ownsRow M.heap.size 9 1 o k ((bI y x kd l k).1.map .string)/\Zr M wr) (fun _ q _=>l.length - (RowKit.intOf q).toNat)
  case atStart=>exact⟨0,kP _,rfl,rfl,World.ownsRow_nil _ _ _ _,kF _ _⟩
  case round=>
   obtain⟨k,hk,rfl,h0,I,hb⟩:=hrel;have bF:w.heap.size<=M.heap.size:=B2.size;have bB:=hb.size;by_cases bp:k<l.length
   ·obtain⟨v,hv⟩:∃v,l[k]?=some v:=⟨_,kQ bp⟩;have a2:l.getD k 0=v:=by rw[kN,hv];rfl
    have a8:bI y x kd l (k+1)=if (y.part x kd v).2≠0 then ([],(y.part x kd v).2)else ((bI y x kd l k).1++[(y.part x kd v).1],0):=by
     show (if (bI y x kd l k).2≠0 then bI y x kd l k else _)=_
     rw[if_neg (by simpa using h0),a2]
    have a7:=z5d w1.heap.size T F D y B x kd a3 c3 l k v hv hl wr (h2.below hb) (an.below hb) (O.mD hb) (ac.below hb);have ab:=kD a8;have bk:Hid ((bI y x kd l (k+1)).2≠0->y.mY x kd l=bI y x kd l (k+1)):=kD fun bq=>by rw[HX.out];exact z24 bq (by omega)
    have bA:=kD (And.intro h2 (And.intro an (And.intro O (And.intro ac (And.intro hv h0)))));obtain⟨av,cv,rfl⟩:=aw I;clear a8 a2 h2 an O ac hv h0;go_wp2_with fail
    refine a7.mono ?_;rintro e w3 ⟨rfl,a1⟩;have B3:=hb.trans (a1.mono hb.size);have Y:=aq I a1;clear a7;generalize y.part x kd v=P at *;obtain⟨pd,pe⟩:=P;simp only at ab |-
    by_cases he:pe=0
    rotate_left
    ·have J:Hid (y.mY x kd l=([],pe)):=kD (by
      have e1:bI y x kd l (k+1)=([],pe):=by rw[ab.out,if_pos he]
      rw[bk.out (by rw[e1];exact he),e1])
     have bD:(pe != 0)=true:=by simpa using he
     clear he;go_wp2_with fail
     go_ret2
     rw[J.out];exact⟨B2.trans (B3.mono B2.size),_,rfl,World.ownsRow_nil _ _ _ _⟩
    subst he;have J:Hid (bI y x kd l (k+1)=((bI y x kd l k).1++[pd],0)):=kD (by rw[ab.out,if_neg (by decide)])
    have hi:=ba.out;have bG:M.heap.size<=w3.heap.size:=B3.size;go_wp2_with (at_builtin;refine wpList_append_own _ rfl _ _ 76 rfl M.heap.size 9 i0 (.string ⟨#[]⟩) 1 16 underlying76 hi br bu bt rfl (by decide) _ _ _ rfl (Y.alloc _) ⟨w3.heap.size,0,none⟩ 1 1 [.string pd] rfl rfl (cell_one_new _ _ _) (by simp[Value.oneCell']) (by simp only[maxLen];omega) (by omega) (by simp;omega) ?_;intro v' w4 V ao _;obtain⟨g',bw,rfl,_,_⟩:=dA V (by omega))
    have a6:Zr M w4:=(B3.alloc B3.size _).grown ao (by simp;have:=B3.size;omega) (fun q hq=>by have:=(Y.lt q hq).1;exact this)
    go_wp2_with fail
    go_roundw
    case rel=>exact⟨k+1,by omega,by go_num,by rw[J.out],by rw[J.out,List.map_append];simpa using V,a6⟩
    case measure=>simp[RowKit.intOf];omega
   ·obtain rfl:k=l.length:=by omega
    have J:Hid (y.mY x kd l=((bI y x kd l l.length).1,0)):=kD (by rw[HX.out];exact Prod.ext rfl h0)
    have bb:=kD (z0i h0);have B4:=B2.trans (hb.mono B2.size);have bc:=kD I;obtain⟨av,cv,rfl⟩:=aw I;clear h0 I;go_wp2_with fail
    go_ret2
    rw[J.out];exact⟨B4,_,rfl,by simp only[bb.out];exact aI bc.out B2.size⟩
def eA (ps:List ByteArray):Bool:=ps.any fun p=>decide (96<p.size)
theorem z2I (P:Option Addr)(c:Nat)(ps:List ByteArray)(hl:ps.length<=1000)(w:World)(U:Reads w P (ps.map .string)):
  Calls prog 214 #[.slice P ps.length c,.func (.func 161) #[] #[]] w fun e Y=>Y=w/\∃r:Int,e=.returned (.int .i64 r)/\decide (0<=r)=eA ps:=by
 go_enter func214,ntmps214
 go_wp2_with fail
 go_loopw [5,8] (fun _ q wr=>∃k:Nat,k<=ps.length/\q=.int .i64 k/\eA (ps.take k)=false/\wr=w) (fun _ q _=>ps.length - (RowKit.intOf q).toNat)
 case atStart=>exact⟨0,kP _,rfl,rfl,rfl⟩
 case round=>
  obtain⟨k,hk,rfl,A,rfl⟩:=hrel;by_cases J:k<ps.length
  ·obtain⟨b,off,rfl,hb,T⟩:=U.at_ (k:=k) (by simpa using J)
   rw[lf]at T;have M:eA (ps.take (k+1))=decide (96<ps[k].size):=by
    rw[kZ J];unfold eA at A |-;rw[List.any_append,A];simp
   have I:decide (96<ps[k].size)=true->eA ps=true:=fun h=>by
    unfold eA;exact List.any_eq_true.2 ⟨ps[k],li J,h⟩
   have K:=kD M;have D:=kD I;clear M I A;generalize ps[k]=x at T K D;by_cases O:96<x.size
   ·have V:(96:Int)<(x.size:Int):=by omega
    have S:Hid (eA ps=true):=kD (D.out (decide_eq_true O));clear O;go_wp2
    go_ret
    exact⟨rfl,_,rfl,by rw[S.out];simp⟩
   ·have V:¬(96:Int)<(x.size:Int):=by omega
    have S:Hid (eA (ps.take (k+1))=false):=kD (by rw[K.out];exact decide_eq_false O)
    clear O;go_wp2
    go_roundw
    case rel=>exact⟨k+1,by omega,by go_num,S.out,by trivial⟩
    case measure=>simp[RowKit.intOf];omega
  ·obtain rfl:k=ps.length:=by omega
   rw[lj]at A;go_wp2_with fail
   go_ret
   exact⟨rfl,_,rfl,by rw[A];rfl⟩
theorem z0s (P:Option Addr)(c:Nat)(ps:List ByteArray)(J:ps.length<=1000)(w:World)(I:Reads w P (ps.map .string)):
  Calls prog 160 #[.slice P ps.length c,.func (.func 161) #[] #[]] w fun e K=>e=.returned (.bool (eA ps))/\K=w:=by
 have h:=z2I P c ps J w I;go_enter func160,ntmps160
 go_wp2_with fail
 refine h.mono ?_;rintro e M ⟨rfl,r,rfl,A⟩;have D:=kD A;clear h A;go_wp2_with fail
 go_ret
 exact⟨by rw[<-D.out];rfl,rfl⟩
def TxS.mQ (y:TxS)(x:DevS)(kd:Int)(l:List Int)(ps:List ByteArray):Int × TxS × List Int:=
 if aC y l≠0 then (aC y l,y,[])else if 8<ps.length\/eA ps=true then (3,y,[])else y.store x kd l ps
theorem StoreAt.mk1 {w c:World}{J T:Nat}{F:List Nat}{D:Nat}{y:TxS}{B:List Nat}{x:DevS}{kd:Int}{a3:Option Addr}{K:Nat}{l:List Int}{P:Option Addr}{ps:List ByteArray}(h:TD w T F D y B x)(I:Zr w c)
  (bl:Blk c J 234 (lsC T y.s y.j y.i kd (.slice a3 l.length K))) (M:w.heap.size<=J) (U:c.ownsRow w.heap.size 3 1 (.slice a3 l.length K) l.length (l.map (.int .i64))) (S:∀a,a3=some a->a.block≠J)
  (hp:Reads w P (ps.map .string)) (A:∀a,P=some a->a.block∉F/\a.block<w.heap.size):
  StoreAt w.heap.size c J T F D B x y.s y.j y.i kd a3 K l P ps F y c/\(∀a,P=some a->a.block<c.heap.size):=by
 have V:∀b∈F,b<w.heap.size:=fun b hb=>(h.tx.lt b hb).2
 refine⟨⟨h.below I,GrowN.refl _ _ _,I.size,⟨rfl,rfl,rfl⟩,bl,⟨M,fun O=>by have:=V _ O;omega⟩,U,fun a e=>⟨fun O=>?_,S a e⟩,hp.below I,fun a e=>?_⟩,fun a e=>?_⟩
 ·subst e;have:=(ce U a.block rfl).1
  have:=V _ O;omega
 ·obtain⟨h5,h6⟩:=A a e;refine⟨h5,by omega,fun Y e'=>?_⟩
  subst e';have:=(ce U Y.block rfl).1;omega
 ·have:=(A a e).2;have:=I.size;omega
theorem z8s (T:Nat)(F:List Nat)(D:Nat)(y:TxS)(B:List Nat)(x:DevS)(kd:Int)(A:Option Addr)(c:Nat)(l:List Int)(hl:l.length<=1000)(P:Option Addr)(pc:Nat)(ps:List ByteArray)(hm:ps.length<=1000)(bb:∀p∈ps,p.size<=1000000)(w:World)(h:TD w T F D y B x)(hA:SlI w A c l)
  (hp:Reads w P (ps.map .string)) (ac:∀a,P=some a->a.block∉F/\a.block<w.heap.size):
  Calls prog 81 #[.pointer (some ⟨T,0,none⟩),.int .i64 kd,.slice A l.length c,.slice P ps.length pc] w (z3r w T F D B x (y.mQ x kd l ps)):=by
 have a2:=z2z T F D y kd A c l hl w h.tx hA;have HR:Hid (y.mQ x kd l ps=if aC y l≠0 then (aC y l,y,[])else if 8<ps.length\/eA ps=true then (3,y,[])else y.store x kd l ps):=kD rfl
 have O:=kD h;clear h hA;unfold z3r;go_enter func81,ntmps81
 go_wp2_with fail
 refine a2.mono ?_;clear a2;rintro e w1 ⟨I,⟨U,rfl⟩|⟨U,v,rfl,ho⟩⟩
 ·have S:Hid (y.mQ x kd l ps=(aC y l,y,[])):=kD (by rw[HR.out,if_pos U])
  have V:(aC y l != 0)=true:=by simpa using U
  clear U;go_wp2_with fail
  refine bodyPost_ret (v:=.tuple #[.slice none 0 0,.int .i64 (aC y l)]) (by simp[results,results81,go_sem]) rfl ?_
  have B3:=I.alloc I.size;exact⟨_,by rw[S.out],by rw[S.out];exact⟨World.ownsRow_nil _ _ _ _,F,O.out.below (B3 _),Grow.of_below (B3 _) F,fun q V=>by cases V⟩⟩
 ·have S:Hid (y.mQ x kd l ps=if 8<ps.length\/eA ps=true then (3,y,[])else y.store x kd l ps):=kD (by rw[HR.out,if_neg (by simpa using U)])
  obtain⟨a3,c3,rfl⟩:=aw ho;obtain⟨w2,J⟩:=zex (w1.alloc (.cells (lsC T y.s y.j y.i kd (.slice a3 l.length c3)) 234));have ab:Blk w2 w1.heap.size 234 (lsC T y.s y.j y.i kd (.slice a3 l.length c3)):=by rw[J];exact zbn
  have M:Zr w w2:=by rw[J];exact I.alloc I.size _
  have aL:w2.ownsRow w.heap.size 3 1 (.slice a3 l.length c3) l.length (l.map (.int .i64)):=by rw[J];exact aq (W:=w1) ho ((kF _ _).alloc (kE _) _)
  have ba:∀a,a3=some a->a.block≠w1.heap.size:=fun a e=>by subst e;have:=(ce ho a.block rfl).2;omega
  obtain⟨hS,an⟩:=StoreAt.mk1 O.out M ab I.size aL ba hp ac;have bc:0<w.heap.size:=O.out.dev.half.1;have a6:=z3g w1.heap.size T w.heap.size F D y B x kd a3 c3 l P pc ps hl hm bb bc (fun b hb=>(O.out.tx.lt b hb).2) (fun b hb=>(O.out.dev.lt b hb).2) w2 hS an
  have ao:=z0s P pc ps hm w2 (hp.below M);have Y:=kD J;have a8:=kD a6;clear U J ho I ab aL hS an hp ac a6;by_cases h8:8<ps.length
  ·have K:Hid (y.mQ x kd l ps=(3,y,[])):=kD (by rw[S.out,if_pos (.inl h8)])
   have hd:(8:Int)<(ps.length:Int):=by omega
   clear h8;go_wp2_with fail
   refine bodyPost_ret (v:=.tuple #[.slice none 0 0,.int .i64 3]) (by simp[results,results81,go_sem]) rfl ?_
   rw[<-Y.out];exact⟨_,by rw[K.out],by rw[K.out];exact⟨World.ownsRow_nil _ _ _ _,F,O.out.below M,Grow.of_below M F,fun q V=>by cases V⟩⟩
  ·have hd:¬(8:Int)<(ps.length:Int):=by omega
   have H8:=kD h8;clear h8;go_wp2_with fail
   rw[<-Y.out];refine ao.mono ?_;rintro e w3 ⟨rfl,rfl⟩;cases hlo:eA ps
   ·have K:Hid (y.mQ x kd l ps=y.store x kd l ps):=kD (by rw[S.out,if_neg (by rw[hlo];simpa using H8.out)])
    go_wp2_with fail
    refine a8.out.mono ?_;rintro e w7 ⟨v7,rfl,a1,F7,a7,g7,f7⟩;have av:=StoreDid.done M a1 a7 g7 f7;clear a1 a7 g7 f7 ao;go_wp2_with fail
    refine bodyPost_ret (v:=.tuple #[v7,.int .i64 (y.store x kd l ps).1]) (by simp[results,results81,go_sem]) rfl ?_
    exact⟨_,by rw[K.out],by rw[K.out];exact av⟩
   ·have K:Hid (y.mQ x kd l ps=(3,y,[])):=kD (by rw[S.out,if_pos (.inr hlo)])
    go_wp2_with fail
    refine bodyPost_ret (v:=.tuple #[.slice none 0 0,.int .i64 3]) (by simp[results,results81,go_sem]) rfl ?_
    exact⟨_,by rw[K.out],by rw[K.out];exact⟨World.ownsRow_nil _ _ _ _,F,O.out.below M,Grow.of_below M F,fun q V=>by cases V⟩⟩
theorem z5e (n:Int)(J:0<=n/\n<=768)(w:World):Calls prog 215 #[.int .i64 n] w fun e c=>e=.returned (.int .i64 ((n+95) / 96))/\c=w:=by
 have A:IntKind.i64.wrap (n+96)=n+96:=by rw[kW];omega
 have D:IntKind.i64.wrap (n+96 - 1)=n+95:=by rw[kW];omega
 have I:Int.tdiv (n+95) 96=(n+95) / 96:=Int.tdiv_eq_ediv_of_nonneg (by omega)
 go_enter func215,ntmps215
 go_wp2_with fail
 go_ret
 exact⟨by rfl,rfl⟩
def fw (n:Int):Bool:=decide (0<=n/\n<=768)
theorem bV (n:Int)(w:World):Calls prog 164 #[.int .i64 n] w fun e I=>e=.returned (.bool (fw n))/\I=w:=by
 have A:Hid (fw n=decide (0<=n/\n<=768)):=kD rfl;by_cases D:0<=n
 all_goals
  have c:=kD D;go_enter func164,ntmps164
  go_wp2_with fail
  go_ret
  exact⟨by rw[A.out];have:=c.out;simp[this]<;>omega,rfl⟩
theorem z04 (A:Option Addr)(c:Nat)(l:List Int)(K:l.length<=1000)(n:Int)(I:0<=n/\n<=768)(w:World):
  Calls prog 165 #[.slice A l.length c,.int .i64 n] w fun e D=>e=.returned (.int .i64 (if (l.length:Int)≠(n+95) / 96 then 6 else 0))/\D=w:=by
 have hp  :=z5e n I w
 generalize (n+95) / 96=m at *;by_cases h:(l.length:Int)=m
 ·have J:((l.length:Int) != m)=false:=by simpa using h
  rw[if_neg (by simpa using h)]
  clear h;go_enter func165,ntmps165
  go_wp2_with (refine hp.mono ?_;rintro e D ⟨rfl,rfl⟩)
  go_ret
  exact⟨rfl,rfl⟩
 ·have J:((l.length:Int) != m)=true:=by simpa using h
  rw[if_pos (by simpa using h)]
  clear h;go_enter func165,ntmps165
  go_wp2_with (refine hp.mono ?_;rintro e D ⟨rfl,rfl⟩)
  go_ret
  exact⟨rfl,rfl⟩
theorem z4f {w:World}{P:Nat->Prop}{x:DevS}{y:TxS}{D:Array Value}(M:RTx w P x y D)(b:Int):
  Calls prog 169 #[.agg D,.int .i64 b] w fun e V=>e=.returned (.int .i64 (dn y.s y.j y.i b))/\Zr w V:=by
 obtain⟨J,c⟩:=zex (w.alloc (.cells D 50));have A:Blk J w.heap.size 50 D:=by rw[c];exact zbn
 have K:Zr w J:=by rw[c];exact zgr
 obtain⟨O,S,T,-,-⟩:=M.nums;have Y:=(A.cells 5).trans O;have c6:=(A.cells 6).trans S;have c7:=(A.cells 7).trans T;have lT:=A.lt;have U:=z5u y.s y.j y.i b J;clear M O S T A;go_enter func169,ntmps169
 go_upto_region 1 with fail
 rw[<-c];clear c;go_wp2_with (refine U.mono ?_;rintro e w1 ⟨rfl,I⟩);go_ret;exact⟨rfl,K.trans (I.mono K.size)⟩
theorem TxS.qC {y:TxS}{x:DevS}{a:Int}(h:(y.read x a).2.2≠0):(y.read x a).2.1=⟨#[]⟩:=by
 unfold TxS.read at h |-;split
 ·rfl
 ·split
  ·rfl
  ·rename_i A D
   rw[if_neg A,if_neg D]at h;unfold TxS.ou at h |-;split
   ·rename_i r c;rw[c]at h;exact absurd rfl h
   ·rename_i c
    rw[c]at h;show (x.fr a).data=_
    unfold DevS.fr;rw[if_neg h];rfl
theorem z5m {w:World}{P:Nat->Prop}{x:DevS}{y:TxS}{D:Array Value}(hq:RTx w P x y D)(O:x.Calm)(ok:y.Ok)(hc:y.Clean)(kd b:Int):
  Calls prog 168 #[.agg D,.int .i64 kd,.int .i64 b] w (Zq (.tuple #[.string (y.part x kd b).1,.int .i64 (y.part x kd b).2]) w):=by
 obtain⟨J,I⟩:=zex (w.alloc (.cells D 50));have bT:Blk J w.heap.size 50 D:=by rw[I];exact zbn
 have B0:Zr w J:=by rw[I];exact zgr
 have an:=hq.size;have V:Hid (∀W,Zr J W->RTx W P x y D/\Blk W w.heap.size 50 D):=kD fun W hW=>⟨(hq.below B0).below hW,bT.mD hW⟩
 have M:Hid (y.part x kd b=if (y.read x (dn y.s y.j y.i b)).2.2=0/\(y.read x (dn y.s y.j y.i b)).1≠kd then (⟨#[]⟩,6)else ((y.read x (dn y.s y.j y.i b)).2.1,(y.read x (dn y.s y.j y.i b)).2.2)):=kD rfl
 have HZ:Hid ((y.read x (dn y.s y.j y.i b)).2.2≠0->(y.read x (dn y.s y.j y.i b)).2.1=⟨#[]⟩):=kD TxS.qC;clear hq;go_enter func168,ntmps168
 go_upto_region 1 with fail
 rw[<-I];clear I;refine zrm [.take 0,.take 1,.take 2,.one 3,.one 4,.take 5,.take 6,.take 7,.take 8,.take 9,.take 10,.take 11] 12 (fun W=>RTx W P x y D/\Blk W w.heap.size 50 D) (V.out _ (kF _ _).drew) ?_
 simp only[kR,kS,Ms.fill,kT,kV];refine ai (by rfl) (.agg D) (fun w' S=>cr 50 _ rfl rfl (aN S.2 an)) ?_
 (try simp only[Act.put,kJ,kH,kI])
 refine ai (by rfl) (.agg D) (fun w' S=>cr 50 _ rfl rfl (aN S.2 an)) ?_
 (try simp only[Act.put,kJ,kH,kI])
 refine ztk ?_
 refine ah (by rfl) fun K hK=>?_
 go_simp;refine(z4f (V.out _ (kF _ _).drew).1 b).mono ?_;rintro e w1 ⟨rfl,ab⟩;have c:Zr J w1:=(kF _ _).drew.trans ab;refine hK _ _ (fun _=>V.out _ c) ?_
 clear hK K;refine ah (by rfl) fun K hK=>?_
 go_simp;refine(zc1 (V.out _ c).1 O ok hc _).mono ?_;unfold fY;rintro e w2 ⟨rfl,ac⟩;have A:Zr J w2:=c.trans (ac.mono c.size);refine hK _ _ (fun _=>V.out _ A) ?_
 clear hK K;have B2:=B0.trans (A.mono B0.size);generalize y.read x (dn y.s y.j y.i b)=r at *;obtain⟨rk,rs,re⟩:=r;simp only at M HZ |-
 iterate 7 refine ztk ?_
 refine ax ?_;clear ab ac c A;by_cases Y:re=0
 ·subst Y;by_cases T:rk=kd
  ·have U:Hid (y.part x kd b=(rs,0)):=kD (by rw[M.out,if_neg (fun h=>h.2 T)])
   have ao:(rk != kd)=false:=by simpa using T
   clear T M;go_wp2_with fail
   go_ret2
   exact⟨by rw[U.out];rfl,B2⟩
  ·have U:Hid (y.part x kd b=(⟨#[]⟩,6)):=kD (by rw[M.out,if_pos ⟨rfl,T⟩])
   have ao:(rk != kd)=true:=by simpa using T
   clear T M;go_wp2_with fail
   go_ret2
   exact⟨by rw[U.out];rfl,B2⟩
 ·have U:Hid (y.part x kd b=(⟨#[]⟩,re)):=kD (by rw[M.out,if_neg (fun h=>Y h.1),HZ.out Y])
  have av:(re != 0)=true:=by simpa using Y
  clear Y M HZ;go_wp2_with fail
  go_ret2
  exact⟨by rw[U.out];rfl,B2⟩
end Go.Proofs.YtejmknghkbobnaaGreatDoor
